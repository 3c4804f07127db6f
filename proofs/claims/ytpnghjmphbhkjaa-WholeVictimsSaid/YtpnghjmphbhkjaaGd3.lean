/- Texts of mine, part 3 of 4, laid together: A row of places: two sorted neighbours, one of which is a single item, merged. A row of places: two sorted neighbours merged about the middle. A row of places: two sorted neighbours merged. A row of places sorted. A row of places sorted: by blocks, and the blocks merged two by two. Policy: the order of places. Policy: the victim. A table's rows: the place of an entry. A row of entries: one taken o No condition. -/
import Derived.Test.YtpnghjmphbhkjaaGd2
import Derived.Test.YtpnghjmphbhkjaaProg
import Derived.KernelRfl
-- V5
namespace Go.Proofs.Ytpnghjmphbhkjaa
open Go.Sp
set_option linter.unusedSimpArgs false
set_option linter.unusedVariables false
theorem half {a b : Nat} (h : a + b ≤ 4611686018427387904) : IntKind.i64.wrap ((IntKind.u64.wrap (IntKind.i64.wrap ((a : Int) + (b : Int)))).fdiv (2 ^ min (Int.toNat 1) IntKind.u64.bits)) = (((a + b) / 2 : Nat) : Int) := by
  rw [show IntKind.i64.wrap ((a : Int) + (b : Int)) = (a : Int) + b from wi64 (by omega), show IntKind.u64.wrap ((a : Int) + (b : Int)) = (a : Int) + b from IntWalk.u64_in _ (by omega)]
  rw [show (2 : Int) ^ min (Int.toNat 1) IntKind.u64.bits = 2 by rfl, Int.fdiv_eq_ediv_of_nonneg _ (by decide), wi64 (by omega)]
  omega
theorem not_not_le {le : Nat → Nat → Prop} {x y : Nat} (h : ¬ ¬ le x y) : le x y := Classical.byContradiction h
set_option maxRecDepth 100000 in
set_option maxHeartbeats 4000000 in
theorem symA {σ : Hp} {g n c a m b N : Nat} {f : Nat → Nat} {cs : List Value} {cm : Nat → Nat → Int} {le : Nat → Nat → Prop} (HC : CmpAt σ g N cs cm le) (hm : m = a + 1) (hmb : m < b) (hb : b ≤ n) (hn : n ≤ 1099511627776) (hN : InN N n f) (hB : So le f m b) :
    ACalls Try.prog 142 #[.slice (some ⟨g, 0, none⟩) n c, .int .i64 a, .int .i64 m, .int .i64 b, .func (.func 95) #[] cs.toArray] (upd σ g (.row (rowN n f) (c * 1) 3)) fun u σ' => ∃ f', Mv a b f f' ∧ So le f' a b ∧ σ' = upd σ g (.row (rowN n f') (c * 1) 3) := by
  have v1 : IntKind.i64.wrap ((m : Int) - (a : Int)) = 1 := by rw [wi64 (by omega)]; omega
  have HH := Hid.mk (And.intro HC (And.intro hN hB))
  have HM := Hid.mk hm
  have hm1 : m ≤ a + 1 := by omega
  have hm2 : a + 1 ≤ m := by omega
  clear HC hN hB hm
  (refine acalls_F ok142 (by simp) ?_; unfold c142 r142)
  (repeat' (first | (simp +contextual -dsimp only [*, ↓reduceIte, ↓evP, evQ, splice_nil, splice_zero, splice_skip, Nat.reduceAdd, Nat.reduceEqDiff, Nat.reduceLeDiff, Nat.reduceMul, reduceCtorEq, Int.reduceLT, Int.reduceLE, Int.reduceGT, Int.reduceGE, Int.reduceEq, Int.reduceNeg]) | (refine condF_split (fun hc => ?_) (fun hc => ?_) <;> (try simp only [Bool.not_eq_true', Bool.not_eq_false', Bool.and_eq_true, Bool.or_eq_false_iff] at hc)) | (intro _; intros) | (refine And.intro ?_ ?_; focus (first | omega | ((repeat (first | exact Sub.refl _ | (refine Sub.drop ?_ ?_; focus (simp only [evN, *]; done)) | refine Sub.both ?_)); done) | (simp_all; done) | (simp_all; omega)))))
  refine loopF_of (fun k s σ' => ∃ (i j : Nat), Srch (fun c => ¬ le (f a) (f c)) m i j b ∧ k = j - i ∧ s 10 = .int .i64 i ∧ s 11 = .int .i64 j ∧ s 0 = .slice (some ⟨g, 0, none⟩) n c ∧ s 1 = .int .i64 a ∧ s 4 = .func (.func 95) #[] cs.toArray ∧ σ' = upd σ g (.row (rowN n f) (c * 1) 3)) (b - m) (Sub.refl _)
    ⟨m, b, ⟨by omega, fun c _ _ => by omega, fun c _ _ => by omega⟩, rfl, (by first | rfl | (simp only [↓putO_get, ↓putO_no, init_zero, init_succ, Nat.reduceEqDiff, ↓reduceIte, *]; done) | (simp only [↓putO_get, ↓putO_no, init_zero, init_succ, Nat.reduceEqDiff, ↓reduceIte, *]; rfl)), (by first | rfl | (simp only [↓putO_get, ↓putO_no, init_zero, init_succ, Nat.reduceEqDiff, ↓reduceIte, *]; done) | (simp only [↓putO_get, ↓putO_no, init_zero, init_succ, Nat.reduceEqDiff, ↓reduceIte, *]; rfl)), (by first | rfl | (simp only [↓putO_get, ↓putO_no, init_zero, init_succ, Nat.reduceEqDiff, ↓reduceIte, *]; done) | (simp only [↓putO_get, ↓putO_no, init_zero, init_succ, Nat.reduceEqDiff, ↓reduceIte, *]; rfl)), (by first | rfl | (simp only [↓putO_get, ↓putO_no, init_zero, init_succ, Nat.reduceEqDiff, ↓reduceIte, *]; done) | (simp only [↓putO_get, ↓putO_no, init_zero, init_succ, Nat.reduceEqDiff, ↓reduceIte, *]; rfl)), (by first | rfl | (simp only [↓putO_get, ↓putO_no, init_zero, init_succ, Nat.reduceEqDiff, ↓reduceIte, *]; done) | (simp only [↓putO_get, ↓putO_no, init_zero, init_succ, Nat.reduceEqDiff, ↓reduceIte, *]; rfl)), rfl⟩ ?_
  clear v1
  rintro k s τ ⟨i, j, hS, hk, s10, s11, s0, s1, s4, hτ⟩
  subst hτ
  have hr := hS.r
  have down : ∀ x y, m ≤ x → x ≤ y → y < b → ¬ le (f a) (f y) → ¬ le (f a) (f x) := fun x y h1 h2 h3 h4 h5 => h4 (HH.out.1.lin.tr _ _ _ h5 (HH.out.2.2.le HH.out.1.lin h1 h2 h3))
  have HD := Hid.mk (And.intro hS down)
  clear hS down
  rcases Nat.lt_or_ge i j with hlt | hge
  · have hd : decide ((i : Int) < (j : Int)) = true := by simp; omega
    obtain ⟨h, hh⟩ : ∃ h, h = (i + j) / 2 := ⟨_, rfl⟩
    have e3 := half (a := i) (b := j) (by omega)
    rw [← hh] at e3
    have e4 : IntKind.i64.wrap ((h : Int) + 1) = ((h + 1 : Nat) : Int) := by rw [wi64 (by omega)]; rfl
    have i1 : h < n := by omega
    have i2 : a < n := by omega
    have r1 := rowN_get f i1
    have r2 := rowN_get f i2
    have l1 := rowN_len n f
    have q := HH.out.1.call (.row (rowN n f) (c * 1) 3) (f h) (f a) (HH.out.2.1 h i1) (HH.out.2.1 a i2)
    have hc1 : i ≤ h := by omega
    have hc2 : h < j := by omega
    have HX := Hid.mk hh
    clear hh
    rcases cmp_dec HH.out.1 (HH.out.2.1 h i1) (HH.out.2.1 a i2) with ⟨dc, hle⟩ | ⟨dc, hle⟩
    · have HL := Hid.mk hle
      have HQ := Hid.mk q
      clear hle q
      (repeat' (first | (simp +contextual -dsimp only [*, ↓reduceIte, ↓evP, evQ, splice_nil, splice_zero, splice_skip, Nat.reduceAdd, Nat.reduceEqDiff, Nat.reduceLeDiff, Nat.reduceMul, reduceCtorEq, Int.reduceLT, Int.reduceLE, Int.reduceGT, Int.reduceGE, Int.reduceEq, Int.reduceNeg]) | (refine condF_split (fun hc => ?_) (fun hc => ?_) <;> (try simp only [Bool.not_eq_true', Bool.not_eq_false', Bool.and_eq_true, Bool.or_eq_false_iff] at hc)) | (intro _; intros) | (refine And.intro ?_ ?_; focus (first | omega | ((repeat (first | exact Sub.refl _ | (refine Sub.drop ?_ ?_; focus (simp only [evN, *]; done)) | refine Sub.both ?_)); done) | (simp_all; done) | (simp_all; omega)))))
      refine vcallF_cs (cs := cs) (by kernel_rfl) ?_
      refine callF_v HQ.out ?_
      (repeat' (first | (simp +contextual -dsimp only [*, ↓reduceIte, ↓evP, evQ, splice_nil, splice_zero, splice_skip, Nat.reduceAdd, Nat.reduceEqDiff, Nat.reduceLeDiff, Nat.reduceMul, reduceCtorEq, Int.reduceLT, Int.reduceLE, Int.reduceGT, Int.reduceGE, Int.reduceEq, Int.reduceNeg]) | (refine condF_split (fun hc => ?_) (fun hc => ?_) <;> (try simp only [Bool.not_eq_true', Bool.not_eq_false', Bool.and_eq_true, Bool.or_eq_false_iff] at hc)) | (intro _; intros) | (refine And.intro ?_ ?_; focus (first | omega | ((repeat (first | exact Sub.refl _ | (refine Sub.drop ?_ ?_; focus (simp only [evN, *]; done)) | refine Sub.both ?_)); done) | (simp_all; done) | (simp_all; omega)))))
      refine nextF_of (j - (h + 1)) (by omega) (Sub.refl _) ⟨h + 1, j, HD.out.1.right hc1 hc2 HL.out HD.out.2, rfl, (by first | rfl | (simp only [↓putO_get, ↓putO_no, init_zero, init_succ, Nat.reduceEqDiff, ↓reduceIte, *]; done) | (simp only [↓putO_get, ↓putO_no, init_zero, init_succ, Nat.reduceEqDiff, ↓reduceIte, *]; rfl)), (by first | rfl | (simp only [↓putO_get, ↓putO_no, init_zero, init_succ, Nat.reduceEqDiff, ↓reduceIte, *]; done) | (simp only [↓putO_get, ↓putO_no, init_zero, init_succ, Nat.reduceEqDiff, ↓reduceIte, *]; rfl)), (by first | rfl | (simp only [↓putO_get, ↓putO_no, init_zero, init_succ, Nat.reduceEqDiff, ↓reduceIte, *]; done) | (simp only [↓putO_get, ↓putO_no, init_zero, init_succ, Nat.reduceEqDiff, ↓reduceIte, *]; rfl)), (by first | rfl | (simp only [↓putO_get, ↓putO_no, init_zero, init_succ, Nat.reduceEqDiff, ↓reduceIte, *]; done) | (simp only [↓putO_get, ↓putO_no, init_zero, init_succ, Nat.reduceEqDiff, ↓reduceIte, *]; rfl)), (by first | rfl | (simp only [↓putO_get, ↓putO_no, init_zero, init_succ, Nat.reduceEqDiff, ↓reduceIte, *]; done) | (simp only [↓putO_get, ↓putO_no, init_zero, init_succ, Nat.reduceEqDiff, ↓reduceIte, *]; rfl)), rfl⟩
    · have HL := Hid.mk hle
      have HQ := Hid.mk q
      clear hle q
      (repeat' (first | (simp +contextual -dsimp only [*, ↓reduceIte, ↓evP, evQ, splice_nil, splice_zero, splice_skip, Nat.reduceAdd, Nat.reduceEqDiff, Nat.reduceLeDiff, Nat.reduceMul, reduceCtorEq, Int.reduceLT, Int.reduceLE, Int.reduceGT, Int.reduceGE, Int.reduceEq, Int.reduceNeg]) | (refine condF_split (fun hc => ?_) (fun hc => ?_) <;> (try simp only [Bool.not_eq_true', Bool.not_eq_false', Bool.and_eq_true, Bool.or_eq_false_iff] at hc)) | (intro _; intros) | (refine And.intro ?_ ?_; focus (first | omega | ((repeat (first | exact Sub.refl _ | (refine Sub.drop ?_ ?_; focus (simp only [evN, *]; done)) | refine Sub.both ?_)); done) | (simp_all; done) | (simp_all; omega)))))
      refine vcallF_cs (cs := cs) (by kernel_rfl) ?_
      refine callF_v HQ.out ?_
      (repeat' (first | (simp +contextual -dsimp only [*, ↓reduceIte, ↓evP, evQ, splice_nil, splice_zero, splice_skip, Nat.reduceAdd, Nat.reduceEqDiff, Nat.reduceLeDiff, Nat.reduceMul, reduceCtorEq, Int.reduceLT, Int.reduceLE, Int.reduceGT, Int.reduceGE, Int.reduceEq, Int.reduceNeg]) | (refine condF_split (fun hc => ?_) (fun hc => ?_) <;> (try simp only [Bool.not_eq_true', Bool.not_eq_false', Bool.and_eq_true, Bool.or_eq_false_iff] at hc)) | (intro _; intros) | (refine And.intro ?_ ?_; focus (first | omega | ((repeat (first | exact Sub.refl _ | (refine Sub.drop ?_ ?_; focus (simp only [evN, *]; done)) | refine Sub.both ?_)); done) | (simp_all; done) | (simp_all; omega)))))
      refine nextF_of (h - i) (by omega) (Sub.refl _) ⟨i, h, HD.out.1.left hc1 hc2 (fun q => q HL.out) HD.out.2, rfl, (by first | rfl | (simp only [↓putO_get, ↓putO_no, init_zero, init_succ, Nat.reduceEqDiff, ↓reduceIte, *]; done) | (simp only [↓putO_get, ↓putO_no, init_zero, init_succ, Nat.reduceEqDiff, ↓reduceIte, *]; rfl)), (by first | rfl | (simp only [↓putO_get, ↓putO_no, init_zero, init_succ, Nat.reduceEqDiff, ↓reduceIte, *]; done) | (simp only [↓putO_get, ↓putO_no, init_zero, init_succ, Nat.reduceEqDiff, ↓reduceIte, *]; rfl)), (by first | rfl | (simp only [↓putO_get, ↓putO_no, init_zero, init_succ, Nat.reduceEqDiff, ↓reduceIte, *]; done) | (simp only [↓putO_get, ↓putO_no, init_zero, init_succ, Nat.reduceEqDiff, ↓reduceIte, *]; rfl)), (by first | rfl | (simp only [↓putO_get, ↓putO_no, init_zero, init_succ, Nat.reduceEqDiff, ↓reduceIte, *]; done) | (simp only [↓putO_get, ↓putO_no, init_zero, init_succ, Nat.reduceEqDiff, ↓reduceIte, *]; rfl)), (by first | rfl | (simp only [↓putO_get, ↓putO_no, init_zero, init_succ, Nat.reduceEqDiff, ↓reduceIte, *]; done) | (simp only [↓putO_get, ↓putO_no, init_zero, init_succ, Nat.reduceEqDiff, ↓reduceIte, *]; rfl)), rfl⟩
  · obtain rfl : j = i := by omega
    have hd : decide ((j : Int) < (j : Int)) = false := by simp
    have hi1 : m ≤ j := by omega
    have hi2 : j ≤ b := by omega
    have hfin : So le (rot a (a + 1) j f) a b := up_law HH.out.1.lin (by rw [← HM.out]; exact HH.out.2.2) (by omega) hi2 (fun c c1 c2 => (HH.out.1.lin.tot _ _).resolve_right (HD.out.1.yes c (by omega) c2)) (fun c c1 c2 => not_not_le (HD.out.1.no c c1 c2))
    have HF := Hid.mk hfin
    clear hfin HD
    (repeat' (first | (simp +contextual -dsimp only [*, ↓reduceIte, ↓evP, evQ, splice_nil, splice_zero, splice_skip, Nat.reduceAdd, Nat.reduceEqDiff, Nat.reduceLeDiff, Nat.reduceMul, reduceCtorEq, Int.reduceLT, Int.reduceLE, Int.reduceGT, Int.reduceGE, Int.reduceEq, Int.reduceNeg]) | (refine condF_split (fun hc => ?_) (fun hc => ?_) <;> (try simp only [Bool.not_eq_true', Bool.not_eq_false', Bool.and_eq_true, Bool.or_eq_false_iff] at hc)) | (intro _; intros) | (refine And.intro ?_ ?_; focus (first | omega | ((repeat (first | exact Sub.refl _ | (refine Sub.drop ?_ ?_; focus (simp only [evN, *]; done)) | refine Sub.both ?_)); done) | (simp_all; done) | (simp_all; omega)))))
    refine loopF_of (fun k s σ' => ∃ (x : Nat), a ≤ x ∧ x + 1 ≤ j ∧ k = j - (x + 1) ∧ s 13 = .int .i64 x ∧ s 10 = .int .i64 j ∧ s 0 = .slice (some ⟨g, 0, none⟩) n c ∧ σ' = upd σ g (.row (rowN n (rot a (a + 1) (x + 1) f)) (c * 1) 3)) (j - (a + 1)) (Sub.refl _)
      ⟨a, Nat.le_refl _, by omega, rfl, (by first | rfl | (simp only [↓putO_get, ↓putO_no, init_zero, init_succ, Nat.reduceEqDiff, ↓reduceIte, *]; done) | (simp only [↓putO_get, ↓putO_no, init_zero, init_succ, Nat.reduceEqDiff, ↓reduceIte, *]; rfl)), (by first | rfl | (simp only [↓putO_get, ↓putO_no, init_zero, init_succ, Nat.reduceEqDiff, ↓reduceIte, *]; done) | (simp only [↓putO_get, ↓putO_no, init_zero, init_succ, Nat.reduceEqDiff, ↓reduceIte, *]; rfl)), (by first | rfl | (simp only [↓putO_get, ↓putO_no, init_zero, init_succ, Nat.reduceEqDiff, ↓reduceIte, *]; done) | (simp only [↓putO_get, ↓putO_no, init_zero, init_succ, Nat.reduceEqDiff, ↓reduceIte, *]; rfl)), by rw [rot_self]⟩ ?_
    clear s10 s11 s0 s1 s4
    rintro k' s' τ' ⟨x, hx1, hx2, hk', s13, s10, s0, hτ'⟩
    subst hτ'
    have w1 : IntKind.i64.wrap ((j : Int) - 1) = ((j - 1 : Nat) : Int) := by rw [wi64 (by omega)]; omega
    rcases Nat.lt_or_ge x (j - 1) with hlt | hge'
    · have hd' : decide ((x : Int) < ((j - 1 : Nat) : Int)) = true := by simp; omega
      have w3 : IntKind.i64.wrap ((x : Int) + 1) = ((x + 1 : Nat) : Int) := by rw [wi64 (by omega)]; rfl
      obtain ⟨h, hh⟩ : ∃ h, h = rot a (a + 1) (x + 1) f := ⟨_, rfl⟩
      rw [← hh]
      have i1 : x < n := by omega
      have i2 : x + 1 < n := by omega
      have r1 := rowN_get h i1
      have r2 := rowN_get h i2
      have l1 := rowN_len n h
      have l2 := rowN_len n (one1 x (h (x + 1)) h)
      have f1 : x * 1 + 1 ≤ n := by omega
      have f2 : (x + 1) * 1 + 1 ≤ n := by omega
      have p1 := rowN_set h i1 (h (x + 1))
      have p2 := rowN_swp (i := x) h i2
      have HE := Hid.mk (show swp x (x + 1) h = rot a (a + 1) (x + 1 + 1) f by rw [hh]; exact rot_up f hx1)
      clear hh
      (repeat' (first | (simp +contextual -dsimp only [*, ↓reduceIte, ↓evP, evQ, splice_nil, splice_zero, splice_skip, Nat.reduceAdd, Nat.reduceEqDiff, Nat.reduceLeDiff, Nat.reduceMul, reduceCtorEq, Int.reduceLT, Int.reduceLE, Int.reduceGT, Int.reduceGE, Int.reduceEq, Int.reduceNeg]) | (refine condF_split (fun hc => ?_) (fun hc => ?_) <;> (try simp only [Bool.not_eq_true', Bool.not_eq_false', Bool.and_eq_true, Bool.or_eq_false_iff] at hc)) | (intro _; intros) | (refine And.intro ?_ ?_; focus (first | omega | ((repeat (first | exact Sub.refl _ | (refine Sub.drop ?_ ?_; focus (simp only [evN, *]; done)) | refine Sub.both ?_)); done) | (simp_all; done) | (simp_all; omega)))))
      refine nextF_of (j - (x + 1 + 1)) (by omega) (Sub.refl _) ⟨x + 1, by omega, by omega, rfl, (by first | rfl | (simp only [↓putO_get, ↓putO_no, init_zero, init_succ, Nat.reduceEqDiff, ↓reduceIte, *]; done) | (simp only [↓putO_get, ↓putO_no, init_zero, init_succ, Nat.reduceEqDiff, ↓reduceIte, *]; rfl)), (by first | rfl | (simp only [↓putO_get, ↓putO_no, init_zero, init_succ, Nat.reduceEqDiff, ↓reduceIte, *]; done) | (simp only [↓putO_get, ↓putO_no, init_zero, init_succ, Nat.reduceEqDiff, ↓reduceIte, *]; rfl)), (by first | rfl | (simp only [↓putO_get, ↓putO_no, init_zero, init_succ, Nat.reduceEqDiff, ↓reduceIte, *]; done) | (simp only [↓putO_get, ↓putO_no, init_zero, init_succ, Nat.reduceEqDiff, ↓reduceIte, *]; rfl)), by rw [HE.out]⟩
    · have hd' : decide ((x : Int) < ((j - 1 : Nat) : Int)) = false := by simp; omega
      have ex : x + 1 = j := by omega
      rw [ex]
      (repeat' (first | (simp +contextual -dsimp only [*, ↓reduceIte, ↓evP, evQ, splice_nil, splice_zero, splice_skip, Nat.reduceAdd, Nat.reduceEqDiff, Nat.reduceLeDiff, Nat.reduceMul, reduceCtorEq, Int.reduceLT, Int.reduceLE, Int.reduceGT, Int.reduceGE, Int.reduceEq, Int.reduceNeg]) | (refine condF_split (fun hc => ?_) (fun hc => ?_) <;> (try simp only [Bool.not_eq_true', Bool.not_eq_false', Bool.and_eq_true, Bool.or_eq_false_iff] at hc)) | (intro _; intros) | (refine And.intro ?_ ?_; focus (first | omega | ((repeat (first | exact Sub.refl _ | (refine Sub.drop ?_ ?_; focus (simp only [evN, *]; done)) | refine Sub.both ?_)); done) | (simp_all; done) | (simp_all; omega)))))
      exact endF_at ⟨_, (Mv.rot f (by omega) (by omega)).mono (Nat.le_refl _) hi2, HF.out, rfl⟩
set_option maxRecDepth 100000 in
set_option maxHeartbeats 4000000 in
theorem symB {σ : Hp} {g n c a m b N : Nat} {f : Nat → Nat} {cs : List Value} {cm : Nat → Nat → Int} {le : Nat → Nat → Prop} (HC : CmpAt σ g N cs cm le) (ham : a + 1 < m) (hmb : b = m + 1) (hb : b ≤ n) (hn : n ≤ 1099511627776) (hN : InN N n f) (hA : So le f a m) :
    ACalls Try.prog 142 #[.slice (some ⟨g, 0, none⟩) n c, .int .i64 a, .int .i64 m, .int .i64 b, .func (.func 95) #[] cs.toArray] (upd σ g (.row (rowN n f) (c * 1) 3)) fun u σ' => ∃ f', Mv a b f f' ∧ So le f' a b ∧ σ' = upd σ g (.row (rowN n f') (c * 1) 3) := by
  have v0 : IntKind.i64.wrap ((m : Int) - (a : Int)) = ((m - a : Nat) : Int) := by rw [wi64 (by omega)]; omega
  have d0 : decide (((m - a : Nat) : Int) = 1) = false := by simp; omega
  have v1 : IntKind.i64.wrap ((b : Int) - (m : Int)) = 1 := by rw [wi64 (by omega)]; omega
  have HH := Hid.mk (And.intro HC (And.intro hN hA))
  have HB := Hid.mk hmb
  have hm1 : b ≤ m + 1 := by omega
  have hm2 : m + 1 ≤ b := by omega
  clear HC hN hA hmb
  (refine acalls_F ok142 (by simp) ?_; unfold c142 r142)
  (repeat' (first | (simp +contextual -dsimp only [*, ↓reduceIte, ↓evP, evQ, splice_nil, splice_zero, splice_skip, Nat.reduceAdd, Nat.reduceEqDiff, Nat.reduceLeDiff, Nat.reduceMul, reduceCtorEq, Int.reduceLT, Int.reduceLE, Int.reduceGT, Int.reduceGE, Int.reduceEq, Int.reduceNeg]) | (refine condF_split (fun hc => ?_) (fun hc => ?_) <;> (try simp only [Bool.not_eq_true', Bool.not_eq_false', Bool.and_eq_true, Bool.or_eq_false_iff] at hc)) | (intro _; intros) | (refine And.intro ?_ ?_; focus (first | omega | ((repeat (first | exact Sub.refl _ | (refine Sub.drop ?_ ?_; focus (simp only [evN, *]; done)) | refine Sub.both ?_)); done) | (simp_all; done) | (simp_all; omega)))))
  refine loopF_of (fun k s σ' => ∃ (i j : Nat), Srch (fun c => le (f c) (f m)) a i j m ∧ k = j - i ∧ s 14 = .int .i64 i ∧ s 15 = .int .i64 j ∧ s 0 = .slice (some ⟨g, 0, none⟩) n c ∧ s 2 = .int .i64 m ∧ s 4 = .func (.func 95) #[] cs.toArray ∧ σ' = upd σ g (.row (rowN n f) (c * 1) 3)) (m - a) (Sub.refl _)
    ⟨a, m, ⟨by omega, fun c _ _ => by omega, fun c _ _ => by omega⟩, rfl, (by first | rfl | (simp only [↓putO_get, ↓putO_no, init_zero, init_succ, Nat.reduceEqDiff, ↓reduceIte, *]; done) | (simp only [↓putO_get, ↓putO_no, init_zero, init_succ, Nat.reduceEqDiff, ↓reduceIte, *]; rfl)), (by first | rfl | (simp only [↓putO_get, ↓putO_no, init_zero, init_succ, Nat.reduceEqDiff, ↓reduceIte, *]; done) | (simp only [↓putO_get, ↓putO_no, init_zero, init_succ, Nat.reduceEqDiff, ↓reduceIte, *]; rfl)), (by first | rfl | (simp only [↓putO_get, ↓putO_no, init_zero, init_succ, Nat.reduceEqDiff, ↓reduceIte, *]; done) | (simp only [↓putO_get, ↓putO_no, init_zero, init_succ, Nat.reduceEqDiff, ↓reduceIte, *]; rfl)), (by first | rfl | (simp only [↓putO_get, ↓putO_no, init_zero, init_succ, Nat.reduceEqDiff, ↓reduceIte, *]; done) | (simp only [↓putO_get, ↓putO_no, init_zero, init_succ, Nat.reduceEqDiff, ↓reduceIte, *]; rfl)), (by first | rfl | (simp only [↓putO_get, ↓putO_no, init_zero, init_succ, Nat.reduceEqDiff, ↓reduceIte, *]; done) | (simp only [↓putO_get, ↓putO_no, init_zero, init_succ, Nat.reduceEqDiff, ↓reduceIte, *]; rfl)), rfl⟩ ?_
  clear v1 v0 d0
  rintro k s τ ⟨i, j, hS, hk, s14, s15, s0, s2, s4, hτ⟩
  subst hτ
  have hr := hS.r
  have down : ∀ x y, a ≤ x → x ≤ y → y < m → le (f y) (f m) → le (f x) (f m) := fun x y h1 h2 h3 h4 => HH.out.1.lin.tr _ _ _ (HH.out.2.2.le HH.out.1.lin h1 h2 h3) h4
  have HD := Hid.mk (And.intro hS down)
  clear hS down
  rcases Nat.lt_or_ge i j with hlt | hge
  · have hd : decide ((i : Int) < (j : Int)) = true := by simp; omega
    obtain ⟨h, hh⟩ : ∃ h, h = (i + j) / 2 := ⟨_, rfl⟩
    have e3 := half (a := i) (b := j) (by omega)
    rw [← hh] at e3
    have e4 : IntKind.i64.wrap ((h : Int) + 1) = ((h + 1 : Nat) : Int) := by rw [wi64 (by omega)]; rfl
    have i1 : h < n := by omega
    have i2 : m < n := by omega
    have r1 := rowN_get f i1
    have r2 := rowN_get f i2
    have l1 := rowN_len n f
    have q := HH.out.1.call (.row (rowN n f) (c * 1) 3) (f m) (f h) (HH.out.2.1 m i2) (HH.out.2.1 h i1)
    have hc1 : i ≤ h := by omega
    have hc2 : h < j := by omega
    have HX := Hid.mk hh
    clear hh
    rcases cmp_dec HH.out.1 (HH.out.2.1 m i2) (HH.out.2.1 h i1) with ⟨dc, hle⟩ | ⟨dc, hle⟩
    · have HL := Hid.mk hle
      have HQ := Hid.mk q
      clear hle q
      (repeat' (first | (simp +contextual -dsimp only [*, ↓reduceIte, ↓evP, evQ, splice_nil, splice_zero, splice_skip, Nat.reduceAdd, Nat.reduceEqDiff, Nat.reduceLeDiff, Nat.reduceMul, reduceCtorEq, Int.reduceLT, Int.reduceLE, Int.reduceGT, Int.reduceGE, Int.reduceEq, Int.reduceNeg]) | (refine condF_split (fun hc => ?_) (fun hc => ?_) <;> (try simp only [Bool.not_eq_true', Bool.not_eq_false', Bool.and_eq_true, Bool.or_eq_false_iff] at hc)) | (intro _; intros) | (refine And.intro ?_ ?_; focus (first | omega | ((repeat (first | exact Sub.refl _ | (refine Sub.drop ?_ ?_; focus (simp only [evN, *]; done)) | refine Sub.both ?_)); done) | (simp_all; done) | (simp_all; omega)))))
      refine vcallF_cs (cs := cs) (by kernel_rfl) ?_
      refine callF_v HQ.out ?_
      (repeat' (first | (simp +contextual -dsimp only [*, ↓reduceIte, ↓evP, evQ, splice_nil, splice_zero, splice_skip, Nat.reduceAdd, Nat.reduceEqDiff, Nat.reduceLeDiff, Nat.reduceMul, reduceCtorEq, Int.reduceLT, Int.reduceLE, Int.reduceGT, Int.reduceGE, Int.reduceEq, Int.reduceNeg]) | (refine condF_split (fun hc => ?_) (fun hc => ?_) <;> (try simp only [Bool.not_eq_true', Bool.not_eq_false', Bool.and_eq_true, Bool.or_eq_false_iff] at hc)) | (intro _; intros) | (refine And.intro ?_ ?_; focus (first | omega | ((repeat (first | exact Sub.refl _ | (refine Sub.drop ?_ ?_; focus (simp only [evN, *]; done)) | refine Sub.both ?_)); done) | (simp_all; done) | (simp_all; omega)))))
      refine nextF_of (h - i) (by omega) (Sub.refl _) ⟨i, h, HD.out.1.left hc1 hc2 HL.out HD.out.2, rfl, (by first | rfl | (simp only [↓putO_get, ↓putO_no, init_zero, init_succ, Nat.reduceEqDiff, ↓reduceIte, *]; done) | (simp only [↓putO_get, ↓putO_no, init_zero, init_succ, Nat.reduceEqDiff, ↓reduceIte, *]; rfl)), (by first | rfl | (simp only [↓putO_get, ↓putO_no, init_zero, init_succ, Nat.reduceEqDiff, ↓reduceIte, *]; done) | (simp only [↓putO_get, ↓putO_no, init_zero, init_succ, Nat.reduceEqDiff, ↓reduceIte, *]; rfl)), (by first | rfl | (simp only [↓putO_get, ↓putO_no, init_zero, init_succ, Nat.reduceEqDiff, ↓reduceIte, *]; done) | (simp only [↓putO_get, ↓putO_no, init_zero, init_succ, Nat.reduceEqDiff, ↓reduceIte, *]; rfl)), (by first | rfl | (simp only [↓putO_get, ↓putO_no, init_zero, init_succ, Nat.reduceEqDiff, ↓reduceIte, *]; done) | (simp only [↓putO_get, ↓putO_no, init_zero, init_succ, Nat.reduceEqDiff, ↓reduceIte, *]; rfl)), (by first | rfl | (simp only [↓putO_get, ↓putO_no, init_zero, init_succ, Nat.reduceEqDiff, ↓reduceIte, *]; done) | (simp only [↓putO_get, ↓putO_no, init_zero, init_succ, Nat.reduceEqDiff, ↓reduceIte, *]; rfl)), rfl⟩
    · have HL := Hid.mk hle
      have HQ := Hid.mk q
      clear hle q
      (repeat' (first | (simp +contextual -dsimp only [*, ↓reduceIte, ↓evP, evQ, splice_nil, splice_zero, splice_skip, Nat.reduceAdd, Nat.reduceEqDiff, Nat.reduceLeDiff, Nat.reduceMul, reduceCtorEq, Int.reduceLT, Int.reduceLE, Int.reduceGT, Int.reduceGE, Int.reduceEq, Int.reduceNeg]) | (refine condF_split (fun hc => ?_) (fun hc => ?_) <;> (try simp only [Bool.not_eq_true', Bool.not_eq_false', Bool.and_eq_true, Bool.or_eq_false_iff] at hc)) | (intro _; intros) | (refine And.intro ?_ ?_; focus (first | omega | ((repeat (first | exact Sub.refl _ | (refine Sub.drop ?_ ?_; focus (simp only [evN, *]; done)) | refine Sub.both ?_)); done) | (simp_all; done) | (simp_all; omega)))))
      refine vcallF_cs (cs := cs) (by kernel_rfl) ?_
      refine callF_v HQ.out ?_
      (repeat' (first | (simp +contextual -dsimp only [*, ↓reduceIte, ↓evP, evQ, splice_nil, splice_zero, splice_skip, Nat.reduceAdd, Nat.reduceEqDiff, Nat.reduceLeDiff, Nat.reduceMul, reduceCtorEq, Int.reduceLT, Int.reduceLE, Int.reduceGT, Int.reduceGE, Int.reduceEq, Int.reduceNeg]) | (refine condF_split (fun hc => ?_) (fun hc => ?_) <;> (try simp only [Bool.not_eq_true', Bool.not_eq_false', Bool.and_eq_true, Bool.or_eq_false_iff] at hc)) | (intro _; intros) | (refine And.intro ?_ ?_; focus (first | omega | ((repeat (first | exact Sub.refl _ | (refine Sub.drop ?_ ?_; focus (simp only [evN, *]; done)) | refine Sub.both ?_)); done) | (simp_all; done) | (simp_all; omega)))))
      refine nextF_of (j - (h + 1)) (by omega) (Sub.refl _) ⟨h + 1, j, HD.out.1.right hc1 hc2 HL.out HD.out.2, rfl, (by first | rfl | (simp only [↓putO_get, ↓putO_no, init_zero, init_succ, Nat.reduceEqDiff, ↓reduceIte, *]; done) | (simp only [↓putO_get, ↓putO_no, init_zero, init_succ, Nat.reduceEqDiff, ↓reduceIte, *]; rfl)), (by first | rfl | (simp only [↓putO_get, ↓putO_no, init_zero, init_succ, Nat.reduceEqDiff, ↓reduceIte, *]; done) | (simp only [↓putO_get, ↓putO_no, init_zero, init_succ, Nat.reduceEqDiff, ↓reduceIte, *]; rfl)), (by first | rfl | (simp only [↓putO_get, ↓putO_no, init_zero, init_succ, Nat.reduceEqDiff, ↓reduceIte, *]; done) | (simp only [↓putO_get, ↓putO_no, init_zero, init_succ, Nat.reduceEqDiff, ↓reduceIte, *]; rfl)), (by first | rfl | (simp only [↓putO_get, ↓putO_no, init_zero, init_succ, Nat.reduceEqDiff, ↓reduceIte, *]; done) | (simp only [↓putO_get, ↓putO_no, init_zero, init_succ, Nat.reduceEqDiff, ↓reduceIte, *]; rfl)), (by first | rfl | (simp only [↓putO_get, ↓putO_no, init_zero, init_succ, Nat.reduceEqDiff, ↓reduceIte, *]; done) | (simp only [↓putO_get, ↓putO_no, init_zero, init_succ, Nat.reduceEqDiff, ↓reduceIte, *]; rfl)), rfl⟩
  · obtain rfl : j = i := by omega
    have hd : decide ((j : Int) < (j : Int)) = false := by simp
    have hi1 : a ≤ j := by omega
    have hi2 : j ≤ m := by omega
    have hfin : So le (rot j m (m + 1) f) a (m + 1) := down_law HH.out.1.lin HH.out.2.2 hi1 hi2 (fun c c1 c2 => HD.out.1.yes c c1 c2) (fun c c1 c2 => (HH.out.1.lin.tot _ _).resolve_left (HD.out.1.no c c1 c2))
    have HF := Hid.mk hfin
    clear hfin HD
    (repeat' (first | (simp +contextual -dsimp only [*, ↓reduceIte, ↓evP, evQ, splice_nil, splice_zero, splice_skip, Nat.reduceAdd, Nat.reduceEqDiff, Nat.reduceLeDiff, Nat.reduceMul, reduceCtorEq, Int.reduceLT, Int.reduceLE, Int.reduceGT, Int.reduceGE, Int.reduceEq, Int.reduceNeg]) | (refine condF_split (fun hc => ?_) (fun hc => ?_) <;> (try simp only [Bool.not_eq_true', Bool.not_eq_false', Bool.and_eq_true, Bool.or_eq_false_iff] at hc)) | (intro _; intros) | (refine And.intro ?_ ?_; focus (first | omega | ((repeat (first | exact Sub.refl _ | (refine Sub.drop ?_ ?_; focus (simp only [evN, *]; done)) | refine Sub.both ?_)); done) | (simp_all; done) | (simp_all; omega)))))
    refine loopF_of (fun k s σ' => ∃ (x : Nat), j ≤ x ∧ x ≤ m ∧ k = x - j ∧ s 17 = .int .i64 x ∧ s 14 = .int .i64 j ∧ s 0 = .slice (some ⟨g, 0, none⟩) n c ∧ σ' = upd σ g (.row (rowN n (rot x m (m + 1) f)) (c * 1) 3)) (m - j) (Sub.refl _)
      ⟨m, hi2, Nat.le_refl _, rfl, (by first | rfl | (simp only [↓putO_get, ↓putO_no, init_zero, init_succ, Nat.reduceEqDiff, ↓reduceIte, *]; done) | (simp only [↓putO_get, ↓putO_no, init_zero, init_succ, Nat.reduceEqDiff, ↓reduceIte, *]; rfl)), (by first | rfl | (simp only [↓putO_get, ↓putO_no, init_zero, init_succ, Nat.reduceEqDiff, ↓reduceIte, *]; done) | (simp only [↓putO_get, ↓putO_no, init_zero, init_succ, Nat.reduceEqDiff, ↓reduceIte, *]; rfl)), (by first | rfl | (simp only [↓putO_get, ↓putO_no, init_zero, init_succ, Nat.reduceEqDiff, ↓reduceIte, *]; done) | (simp only [↓putO_get, ↓putO_no, init_zero, init_succ, Nat.reduceEqDiff, ↓reduceIte, *]; rfl)), by rw [rot_self']⟩ ?_
    clear s14 s15 s0 s2 s4
    rintro k' s' τ' ⟨x, hx1, hx2, hk', s17, s14, s0, hτ'⟩
    subst hτ'
    rcases Nat.lt_or_ge j x with hlt | hge'
    · have hd' : decide ((x : Int) > (j : Int)) = true := by simp; omega
      have w3 : IntKind.i64.wrap ((x : Int) - 1) = ((x - 1 : Nat) : Int) := by rw [wi64 (by omega)]; omega
      obtain ⟨h, hh⟩ : ∃ h, h = rot x m (m + 1) f := ⟨_, rfl⟩
      rw [← hh]
      have i1 : x < n := by omega
      have i2 : x - 1 < n := by omega
      have r1 := rowN_get h i1
      have r2 := rowN_get h i2
      have l1 := rowN_len n h
      have l2 := rowN_len n (one1 x (h (x - 1)) h)
      have f1 : x * 1 + 1 ≤ n := by omega
      have f2 : (x - 1) * 1 + 1 ≤ n := by omega
      have p1 := rowN_set h i1 (h (x - 1))
      have p2 := rowN_swp (i := x) h i2
      have HE := Hid.mk (show swp x (x - 1) h = rot (x - 1) m (m + 1) f by rw [hh]; exact rot_down f (by omega) hx2)
      clear hh
      (repeat' (first | (simp +contextual -dsimp only [*, ↓reduceIte, ↓evP, evQ, splice_nil, splice_zero, splice_skip, Nat.reduceAdd, Nat.reduceEqDiff, Nat.reduceLeDiff, Nat.reduceMul, reduceCtorEq, Int.reduceLT, Int.reduceLE, Int.reduceGT, Int.reduceGE, Int.reduceEq, Int.reduceNeg]) | (refine condF_split (fun hc => ?_) (fun hc => ?_) <;> (try simp only [Bool.not_eq_true', Bool.not_eq_false', Bool.and_eq_true, Bool.or_eq_false_iff] at hc)) | (intro _; intros) | (refine And.intro ?_ ?_; focus (first | omega | ((repeat (first | exact Sub.refl _ | (refine Sub.drop ?_ ?_; focus (simp only [evN, *]; done)) | refine Sub.both ?_)); done) | (simp_all; done) | (simp_all; omega)))))
      refine nextF_of (x - 1 - j) (by omega) (Sub.refl _) ⟨x - 1, by omega, by omega, rfl, (by first | rfl | (simp only [↓putO_get, ↓putO_no, init_zero, init_succ, Nat.reduceEqDiff, ↓reduceIte, *]; done) | (simp only [↓putO_get, ↓putO_no, init_zero, init_succ, Nat.reduceEqDiff, ↓reduceIte, *]; rfl)), (by first | rfl | (simp only [↓putO_get, ↓putO_no, init_zero, init_succ, Nat.reduceEqDiff, ↓reduceIte, *]; done) | (simp only [↓putO_get, ↓putO_no, init_zero, init_succ, Nat.reduceEqDiff, ↓reduceIte, *]; rfl)), (by first | rfl | (simp only [↓putO_get, ↓putO_no, init_zero, init_succ, Nat.reduceEqDiff, ↓reduceIte, *]; done) | (simp only [↓putO_get, ↓putO_no, init_zero, init_succ, Nat.reduceEqDiff, ↓reduceIte, *]; rfl)), by rw [HE.out]⟩
    · have hd' : decide ((x : Int) > (j : Int)) = false := by simp; omega
      have ex : x = j := by omega
      rw [ex]
      (repeat' (first | (simp +contextual -dsimp only [*, ↓reduceIte, ↓evP, evQ, splice_nil, splice_zero, splice_skip, Nat.reduceAdd, Nat.reduceEqDiff, Nat.reduceLeDiff, Nat.reduceMul, reduceCtorEq, Int.reduceLT, Int.reduceLE, Int.reduceGT, Int.reduceGE, Int.reduceEq, Int.reduceNeg]) | (refine condF_split (fun hc => ?_) (fun hc => ?_) <;> (try simp only [Bool.not_eq_true', Bool.not_eq_false', Bool.and_eq_true, Bool.or_eq_false_iff] at hc)) | (intro _; intros) | (refine And.intro ?_ ?_; focus (first | omega | ((repeat (first | exact Sub.refl _ | (refine Sub.drop ?_ ?_; focus (simp only [evN, *]; done)) | refine Sub.both ?_)); done) | (simp_all; done) | (simp_all; omega)))))
      exact endF_at ⟨_, (Mv.rot f hi2 (by omega)).mono hi1 (by omega), by rw [HB.out]; exact HF.out, rfl⟩
set_option maxRecDepth 100000 in
set_option maxHeartbeats 4000000 in
theorem tail142 {σ : Hp} {g n c a m b e i md N : Nat} {f : Nat → Nat} {cs : List Value} {cm : Nat → Nat → Int} {le : Nat → Nat → Prop} (HC : CmpAt σ g N cs cm le) (hb : b ≤ n) (hn : n ≤ 1099511627776) (hN : InN N n f)
    (hmd : a < md ∧ md < b) (hi : a ≤ i ∧ i ≤ m ∧ m ≤ e ∧ e ≤ b ∧ i + e = md + m)
    (L1 : So le (rot i m e f) a i) (L2 : So le (rot i m e f) i md) (L3 : So le (rot i m e f) md e) (L4 : So le (rot i m e f) e b) (L5 : ∀ x y, a ≤ x → x < md → md ≤ y → y < b → le (rot i m e f x) (rot i m e f y))
    (R : ∀ (a' m' b' : Nat) (f' : Nat → Nat), a ≤ a' → b' ≤ b → b' - a' < b - a → a' < m' → m' < b' → InN N n f' → So le f' a' m' → So le f' m' b' →
      ACalls Try.prog 142 #[.slice (some ⟨g, 0, none⟩) n c, .int .i64 a', .int .i64 m', .int .i64 b', .func (.func 95) #[] cs.toArray] (upd σ g (.row (rowN n f') (c * 1) 3)) fun u σ' => ∃ f'', Mv a' b' f' f'' ∧ So le f'' a' b' ∧ σ' = upd σ g (.row (rowN n f'') (c * 1) 3))
    {Q : Exit → Sl → Hp → Prop} {s : Sl} {δ} (s0 : s 0 = .slice (some ⟨g, 0, none⟩) n c) (s1 : s 1 = .int .i64 a) (s2 : s 2 = .int .i64 m) (s3 : s 3 = .int .i64 b) (s4 : s 4 = .func (.func 95) #[] cs.toArray) (s18 : s 18 = .int .i64 md) (s20 : s 20 = .int .i64 i) (s24 : s 24 = .int .i64 e)
    (hQ : ∀ s' f', Mv a b f f' → So le f' a b → Q .normal s' (upd σ g (.row (rowN n f') (c * 1) 3))) : codeF Try.prog c142_tr177 Q s (upd σ g (.row (rowN n f) (c * 1) 3)) δ := by
  obtain ⟨G, hG⟩ : ∃ G, G = rot i m e f := ⟨_, rfl⟩
  rw [← hG] at L1 L2 L3 L4 L5
  have hGM : Mv a b f G := by rw [hG]; exact (Mv.rot f (by omega) (by omega)).mono (by omega) (by omega)
  have hGN := hN.mv hGM hb
  have H := Hid.mk (And.intro hG (And.intro hGM (And.intro hGN (And.intro L1 (And.intro L2 (And.intro L3 (And.intro L4 L5)))))))
  have HQ := Hid.mk hQ
  have HR := Hid.mk R
  clear hG hGM hGN L1 L2 L3 L4 L5 hQ R HC
  obtain ⟨hi1, hi2, hi3, hi4, hi5⟩ := hi
  obtain ⟨hm1, hm2⟩ := hmd
  unfold c142_tr177
  refine codeF_cut (fun s' σ' => s' 0 = .slice (some ⟨g, 0, none⟩) n c ∧ s' 1 = .int .i64 a ∧ s' 3 = .int .i64 b ∧ s' 4 = .func (.func 95) #[] cs.toArray ∧ s' 18 = .int .i64 md ∧ s' 20 = .int .i64 i ∧ s' 24 = .int .i64 e ∧ σ' = upd σ g (.row (rowN n G) (c * 1) 3)) ?_ ?_
  · rcases Nat.lt_or_ge i m with c1 | c1
    · have d1 : decide ((i : Int) < (m : Int)) = true := by simp; omega
      rcases Nat.lt_or_ge m e with c2 | c2
      · have d2 : decide ((m : Int) < (e : Int)) = true := by simp; omega
        (repeat' (first | (simp +contextual -dsimp only [*, ↓reduceIte, ↓evP, evQ, splice_nil, splice_zero, splice_skip, Nat.reduceAdd, Nat.reduceEqDiff, Nat.reduceLeDiff, Nat.reduceMul, reduceCtorEq, Int.reduceLT, Int.reduceLE, Int.reduceGT, Int.reduceGE, Int.reduceEq, Int.reduceNeg]) | (refine condF_split (fun hc => ?_) (fun hc => ?_) <;> (try simp only [Bool.not_eq_true', Bool.not_eq_false', Bool.and_eq_true, Bool.or_eq_false_iff] at hc)) | (intro _; intros) | (refine And.intro ?_ ?_; focus (first | omega | ((repeat (first | exact Sub.refl _ | (refine Sub.drop ?_ ?_; focus (simp only [evN, *]; done)) | refine Sub.both ?_)); done) | (simp_all; done) | (simp_all; omega)))))
        refine callF_of (rot151 (f := f) c1 c2 (by omega) hn) ?_
        rintro u σ' rfl
        (repeat' (first | (simp +contextual -dsimp only [*, ↓reduceIte, ↓evP, evQ, splice_nil, splice_zero, splice_skip, Nat.reduceAdd, Nat.reduceEqDiff, Nat.reduceLeDiff, Nat.reduceMul, reduceCtorEq, Int.reduceLT, Int.reduceLE, Int.reduceGT, Int.reduceGE, Int.reduceEq, Int.reduceNeg]) | (refine condF_split (fun hc => ?_) (fun hc => ?_) <;> (try simp only [Bool.not_eq_true', Bool.not_eq_false', Bool.and_eq_true, Bool.or_eq_false_iff] at hc)) | (intro _; intros) | (refine And.intro ?_ ?_; focus (first | omega | ((repeat (first | exact Sub.refl _ | (refine Sub.drop ?_ ?_; focus (simp only [evN, *]; done)) | refine Sub.both ?_)); done) | (simp_all; done) | (simp_all; omega)))))
        rw [H.out.1]
      · have d2 : decide ((m : Int) < (e : Int)) = false := by simp; omega
        have e1 : f = G := by rw [H.out.1, show e = m by omega, rot_self]
        have E1 := Hid.mk e1
        clear e1
        (repeat' (first | (simp +contextual -dsimp only [*, ↓reduceIte, ↓evP, evQ, splice_nil, splice_zero, splice_skip, Nat.reduceAdd, Nat.reduceEqDiff, Nat.reduceLeDiff, Nat.reduceMul, reduceCtorEq, Int.reduceLT, Int.reduceLE, Int.reduceGT, Int.reduceGE, Int.reduceEq, Int.reduceNeg]) | (refine condF_split (fun hc => ?_) (fun hc => ?_) <;> (try simp only [Bool.not_eq_true', Bool.not_eq_false', Bool.and_eq_true, Bool.or_eq_false_iff] at hc)) | (intro _; intros) | (refine And.intro ?_ ?_; focus (first | omega | ((repeat (first | exact Sub.refl _ | (refine Sub.drop ?_ ?_; focus (simp only [evN, *]; done)) | refine Sub.both ?_)); done) | (simp_all; done) | (simp_all; omega)))))
        rw [← E1.out]
    · have d1 : decide ((i : Int) < (m : Int)) = false := by simp; omega
      have e1 : f = G := by rw [H.out.1, show i = m by omega, rot_self']
      have E1 := Hid.mk e1
      clear e1
      (repeat' (first | (simp +contextual -dsimp only [*, ↓reduceIte, ↓evP, evQ, splice_nil, splice_zero, splice_skip, Nat.reduceAdd, Nat.reduceEqDiff, Nat.reduceLeDiff, Nat.reduceMul, reduceCtorEq, Int.reduceLT, Int.reduceLE, Int.reduceGT, Int.reduceGE, Int.reduceEq, Int.reduceNeg]) | (refine condF_split (fun hc => ?_) (fun hc => ?_) <;> (try simp only [Bool.not_eq_true', Bool.not_eq_false', Bool.and_eq_true, Bool.or_eq_false_iff] at hc)) | (intro _; intros) | (refine And.intro ?_ ?_; focus (first | omega | ((repeat (first | exact Sub.refl _ | (refine Sub.drop ?_ ?_; focus (simp only [evN, *]; done)) | refine Sub.both ?_)); done) | (simp_all; done) | (simp_all; omega)))))
      rw [← E1.out]
  clear s0 s1 s2 s3 s4 s18 s20 s24
  rintro s σ1 ⟨s0, s1, s3, s4, s18, s20, s24, rfl⟩
  refine codeF_cut (fun s' σ' => s' 0 = .slice (some ⟨g, 0, none⟩) n c ∧ s' 3 = .int .i64 b ∧ s' 4 = .func (.func 95) #[] cs.toArray ∧ s' 18 = .int .i64 md ∧ s' 24 = .int .i64 e ∧ ∃ h, Mv a md G h ∧ So le h a md ∧ σ' = upd σ g (.row (rowN n h) (c * 1) 3)) ?_ ?_
  · rcases Nat.lt_or_ge a i with c1 | c1
    · have d1 : decide ((a : Int) < (i : Int)) = true := by simp; omega
      rcases Nat.lt_or_ge i md with c2 | c2
      · have d2 : decide ((i : Int) < (md : Int)) = true := by simp; omega
        (repeat' (first | (simp +contextual -dsimp only [*, ↓reduceIte, ↓evP, evQ, splice_nil, splice_zero, splice_skip, Nat.reduceAdd, Nat.reduceEqDiff, Nat.reduceLeDiff, Nat.reduceMul, reduceCtorEq, Int.reduceLT, Int.reduceLE, Int.reduceGT, Int.reduceGE, Int.reduceEq, Int.reduceNeg]) | (refine condF_split (fun hc => ?_) (fun hc => ?_) <;> (try simp only [Bool.not_eq_true', Bool.not_eq_false', Bool.and_eq_true, Bool.or_eq_false_iff] at hc)) | (intro _; intros) | (refine And.intro ?_ ?_; focus (first | omega | ((repeat (first | exact Sub.refl _ | (refine Sub.drop ?_ ?_; focus (simp only [evN, *]; done)) | refine Sub.both ?_)); done) | (simp_all; done) | (simp_all; omega)))))
        refine callF_of (HR.out a i md G (Nat.le_refl _) (by omega) (by omega) c1 c2 H.out.2.2.1 H.out.2.2.2.1 H.out.2.2.2.2.1) ?_
        rintro u σ' ⟨h, hM, hS, rfl⟩
        have HM := Hid.mk (And.intro hM hS)
        clear hM hS
        (repeat' (first | (simp +contextual -dsimp only [*, ↓reduceIte, ↓evP, evQ, splice_nil, splice_zero, splice_skip, Nat.reduceAdd, Nat.reduceEqDiff, Nat.reduceLeDiff, Nat.reduceMul, reduceCtorEq, Int.reduceLT, Int.reduceLE, Int.reduceGT, Int.reduceGE, Int.reduceEq, Int.reduceNeg]) | (refine condF_split (fun hc => ?_) (fun hc => ?_) <;> (try simp only [Bool.not_eq_true', Bool.not_eq_false', Bool.and_eq_true, Bool.or_eq_false_iff] at hc)) | (intro _; intros) | (refine And.intro ?_ ?_; focus (first | omega | ((repeat (first | exact Sub.refl _ | (refine Sub.drop ?_ ?_; focus (simp only [evN, *]; done)) | refine Sub.both ?_)); done) | (simp_all; done) | (simp_all; omega)))))
        exact ⟨h, HM.out.1, HM.out.2, rfl⟩
      · have d2 : decide ((i : Int) < (md : Int)) = false := by simp; omega
        (repeat' (first | (simp +contextual -dsimp only [*, ↓reduceIte, ↓evP, evQ, splice_nil, splice_zero, splice_skip, Nat.reduceAdd, Nat.reduceEqDiff, Nat.reduceLeDiff, Nat.reduceMul, reduceCtorEq, Int.reduceLT, Int.reduceLE, Int.reduceGT, Int.reduceGE, Int.reduceEq, Int.reduceNeg]) | (refine condF_split (fun hc => ?_) (fun hc => ?_) <;> (try simp only [Bool.not_eq_true', Bool.not_eq_false', Bool.and_eq_true, Bool.or_eq_false_iff] at hc)) | (intro _; intros) | (refine And.intro ?_ ?_; focus (first | omega | ((repeat (first | exact Sub.refl _ | (refine Sub.drop ?_ ?_; focus (simp only [evN, *]; done)) | refine Sub.both ?_)); done) | (simp_all; done) | (simp_all; omega)))))
        exact ⟨G, Mv.refl _ _ _, H.out.2.2.2.1.part (Nat.le_refl _) c2, rfl⟩
    · have d1 : decide ((a : Int) < (i : Int)) = false := by simp; omega
      (repeat' (first | (simp +contextual -dsimp only [*, ↓reduceIte, ↓evP, evQ, splice_nil, splice_zero, splice_skip, Nat.reduceAdd, Nat.reduceEqDiff, Nat.reduceLeDiff, Nat.reduceMul, reduceCtorEq, Int.reduceLT, Int.reduceLE, Int.reduceGT, Int.reduceGE, Int.reduceEq, Int.reduceNeg]) | (refine condF_split (fun hc => ?_) (fun hc => ?_) <;> (try simp only [Bool.not_eq_true', Bool.not_eq_false', Bool.and_eq_true, Bool.or_eq_false_iff] at hc)) | (intro _; intros) | (refine And.intro ?_ ?_; focus (first | omega | ((repeat (first | exact Sub.refl _ | (refine Sub.drop ?_ ?_; focus (simp only [evN, *]; done)) | refine Sub.both ?_)); done) | (simp_all; done) | (simp_all; omega)))))
      exact ⟨G, Mv.refl _ _ _, H.out.2.2.2.2.1.part c1 (Nat.le_refl _), rfl⟩
  clear s0 s1 s3 s4 s18 s20 s24
  rintro s σ1 ⟨s0, s3, s4, s18, s24, h, hM, hS, rfl⟩
  have hup1 : So le h md e := H.out.2.2.2.2.2.1.congr fun k k1 k2 => hM.out (by omega)
  have hup2 : So le h e b := H.out.2.2.2.2.2.2.1.congr fun k k1 k2 => hM.out (by omega)
  have hhN : InN N n h := H.out.2.2.1.mv hM (by omega)
  have HM := Hid.mk (And.intro hM (And.intro hS (And.intro hup1 (And.intro hup2 hhN))))
  clear hM hS hup1 hup2 hhN
  have fin : ∀ h2, Mv md b h h2 → So le h2 md b → Mv a b f h2 ∧ So le h2 a b := fun h2 m2 s2 =>
    ⟨H.out.2.1.trans ((HM.out.1.mono (Nat.le_refl _) (by omega)).trans (m2.mono (by omega) (Nat.le_refl _))), So.moved HM.out.1 HM.out.2.1 m2 s2 H.out.2.2.2.2.2.2.2⟩
  have FIN := Hid.mk fin
  clear fin
  rcases Nat.lt_or_ge md e with c1 | c1
  · have d1 : decide ((md : Int) < (e : Int)) = true := by simp; omega
    rcases Nat.lt_or_ge e b with c2 | c2
    · have d2 : decide ((e : Int) < (b : Int)) = true := by simp; omega
      (repeat' (first | (simp +contextual -dsimp only [*, ↓reduceIte, ↓evP, evQ, splice_nil, splice_zero, splice_skip, Nat.reduceAdd, Nat.reduceEqDiff, Nat.reduceLeDiff, Nat.reduceMul, reduceCtorEq, Int.reduceLT, Int.reduceLE, Int.reduceGT, Int.reduceGE, Int.reduceEq, Int.reduceNeg]) | (refine condF_split (fun hc => ?_) (fun hc => ?_) <;> (try simp only [Bool.not_eq_true', Bool.not_eq_false', Bool.and_eq_true, Bool.or_eq_false_iff] at hc)) | (intro _; intros) | (refine And.intro ?_ ?_; focus (first | omega | ((repeat (first | exact Sub.refl _ | (refine Sub.drop ?_ ?_; focus (simp only [evN, *]; done)) | refine Sub.both ?_)); done) | (simp_all; done) | (simp_all; omega)))))
      refine callF_of (HR.out md e b h (by omega) (Nat.le_refl _) (by omega) c1 c2 HM.out.2.2.2.2 HM.out.2.2.1 HM.out.2.2.2.1) ?_
      rintro u σ' ⟨h2, hM2, hS2, rfl⟩
      have HM2 := Hid.mk (And.intro hM2 hS2)
      clear hM2 hS2
      (repeat' (first | (simp +contextual -dsimp only [*, ↓reduceIte, ↓evP, evQ, splice_nil, splice_zero, splice_skip, Nat.reduceAdd, Nat.reduceEqDiff, Nat.reduceLeDiff, Nat.reduceMul, reduceCtorEq, Int.reduceLT, Int.reduceLE, Int.reduceGT, Int.reduceGE, Int.reduceEq, Int.reduceNeg]) | (refine condF_split (fun hc => ?_) (fun hc => ?_) <;> (try simp only [Bool.not_eq_true', Bool.not_eq_false', Bool.and_eq_true, Bool.or_eq_false_iff] at hc)) | (intro _; intros) | (refine And.intro ?_ ?_; focus (first | omega | ((repeat (first | exact Sub.refl _ | (refine Sub.drop ?_ ?_; focus (simp only [evN, *]; done)) | refine Sub.both ?_)); done) | (simp_all; done) | (simp_all; omega)))))
      have q := FIN.out h2 HM2.out.1 HM2.out.2
      exact HQ.out _ h2 q.1 q.2
    · have d2 : decide ((e : Int) < (b : Int)) = false := by simp; omega
      (repeat' (first | (simp +contextual -dsimp only [*, ↓reduceIte, ↓evP, evQ, splice_nil, splice_zero, splice_skip, Nat.reduceAdd, Nat.reduceEqDiff, Nat.reduceLeDiff, Nat.reduceMul, reduceCtorEq, Int.reduceLT, Int.reduceLE, Int.reduceGT, Int.reduceGE, Int.reduceEq, Int.reduceNeg]) | (refine condF_split (fun hc => ?_) (fun hc => ?_) <;> (try simp only [Bool.not_eq_true', Bool.not_eq_false', Bool.and_eq_true, Bool.or_eq_false_iff] at hc)) | (intro _; intros) | (refine And.intro ?_ ?_; focus (first | omega | ((repeat (first | exact Sub.refl _ | (refine Sub.drop ?_ ?_; focus (simp only [evN, *]; done)) | refine Sub.both ?_)); done) | (simp_all; done) | (simp_all; omega)))))
      have q := FIN.out h (Mv.refl _ _ _) (HM.out.2.2.1.part (Nat.le_refl _) c2)
      exact HQ.out _ h q.1 q.2
  · have d1 : decide ((md : Int) < (e : Int)) = false := by simp; omega
    (repeat' (first | (simp +contextual -dsimp only [*, ↓reduceIte, ↓evP, evQ, splice_nil, splice_zero, splice_skip, Nat.reduceAdd, Nat.reduceEqDiff, Nat.reduceLeDiff, Nat.reduceMul, reduceCtorEq, Int.reduceLT, Int.reduceLE, Int.reduceGT, Int.reduceGE, Int.reduceEq, Int.reduceNeg]) | (refine condF_split (fun hc => ?_) (fun hc => ?_) <;> (try simp only [Bool.not_eq_true', Bool.not_eq_false', Bool.and_eq_true, Bool.or_eq_false_iff] at hc)) | (intro _; intros) | (refine And.intro ?_ ?_; focus (first | omega | ((repeat (first | exact Sub.refl _ | (refine Sub.drop ?_ ?_; focus (simp only [evN, *]; done)) | refine Sub.both ?_)); done) | (simp_all; done) | (simp_all; omega)))))
    have q := FIN.out h (Mv.refl _ _ _) (HM.out.2.2.2.1.part c1 (Nat.le_refl _))
    exact HQ.out _ h q.1 q.2
set_option maxRecDepth 100000 in
set_option maxHeartbeats 4000000 in
theorem find142 {σ : Hp} {g n c a m b md lo hi N : Nat} {f : Nat → Nat} {cs : List Value} {cm : Nat → Nat → Int} {le : Nat → Nat → Prop} (HC : CmpAt σ g N cs cm le) (ham : a + 1 < m) (hmb : m + 1 < b) (hb : b ≤ n) (hn : n ≤ 1099511627776) (hN : InN N n f) (hA : So le f a m) (hB : So le f m b)
    (hmd : md ≤ (a + b) / 2 ∧ (a + b) / 2 ≤ md) (hlo : (md < m ∧ lo + b ≤ md + m ∧ md + m ≤ lo + b ∧ hi ≤ md ∧ md ≤ hi) ∨ (m ≤ md ∧ lo ≤ a ∧ a ≤ lo ∧ hi ≤ m ∧ m ≤ hi))
    (R : ∀ (a' m' b' : Nat) (f' : Nat → Nat), a ≤ a' → b' ≤ b → b' - a' < b - a → a' < m' → m' < b' → InN N n f' → So le f' a' m' → So le f' m' b' →
      ACalls Try.prog 142 #[.slice (some ⟨g, 0, none⟩) n c, .int .i64 a', .int .i64 m', .int .i64 b', .func (.func 95) #[] cs.toArray] (upd σ g (.row (rowN n f') (c * 1) 3)) fun u σ' => ∃ f'', Mv a' b' f' f'' ∧ So le f'' a' b' ∧ σ' = upd σ g (.row (rowN n f'') (c * 1) 3))
    {Q : Exit → Sl → Hp → Prop} {s : Sl} (s0 : s 0 = .slice (some ⟨g, 0, none⟩) n c) (s1 : s 1 = .int .i64 a) (s2 : s 2 = .int .i64 m) (s3 : s 3 = .int .i64 b) (s4 : s 4 = .func (.func 95) #[] cs.toArray) (s18 : s 18 = .int .i64 md) (s19 : s 19 = .int .i64 (md + m : Nat)) (s20 : s 20 = .int .i64 lo) (s21 : s 21 = .int .i64 hi)
    (hQ : ∀ s' f', Mv a b f f' → So le f' a b → Q .normal s' (upd σ g (.row (rowN n f') (c * 1) 3))) : codeF Try.prog c142_sr148 Q s (upd σ g (.row (rowN n f) (c * 1) 3)) ⟨⟩ := by
  have w0 : IntKind.i64.wrap (((md + m : Nat) : Int) - 1) = ((md + m - 1 : Nat) : Int) := by rw [wi64 (by omega)]; omega
  have HH := Hid.mk (And.intro HC (And.intro hN (And.intro hA hB)))
  have HQ := Hid.mk hQ
  have HR := Hid.mk R
  have HL := Hid.mk hlo
  have hlo1 : a ≤ lo ∧ lo ≤ hi ∧ hi ≤ m ∧ hi ≤ md := by omega
  obtain ⟨l1, l2, l3, l4⟩ := hlo1
  obtain ⟨m1, m2⟩ := hmd
  clear HC hN hA hB hQ R hlo
  unfold c142_sr148 c142_br148 c142_tr148
  simp +contextual -dsimp only [*, ↓reduceIte, ↓evP, evQ, splice_nil, splice_zero, splice_skip, Nat.reduceAdd, Nat.reduceEqDiff, Nat.reduceLeDiff, Nat.reduceMul, reduceCtorEq, Int.reduceLT, Int.reduceLE, Int.reduceGT, Int.reduceGE, Int.reduceEq, Int.reduceNeg]
  refine loopF_of (fun k s' σ' => ∃ (i j : Nat), Srch (fun c => le (f c) (f (md + m - 1 - c))) lo i j hi ∧ k = j - i ∧ s' 20 = .int .i64 i ∧ s' 21 = .int .i64 j ∧ s' 22 = .int .i64 (md + m - 1 : Nat) ∧ s' 0 = .slice (some ⟨g, 0, none⟩) n c ∧ s' 1 = .int .i64 a ∧ s' 2 = .int .i64 m ∧ s' 3 = .int .i64 b ∧ s' 4 = .func (.func 95) #[] cs.toArray ∧ s' 18 = .int .i64 md ∧ s' 19 = .int .i64 (md + m : Nat) ∧ σ' = upd σ g (.row (rowN n f) (c * 1) 3)) (hi - lo) (Sub.refl _)
    ⟨lo, hi, ⟨by omega, fun c _ _ => by omega, fun c _ _ => by omega⟩, rfl, (by first | rfl | (simp only [↓putO_get, ↓putO_no, init_zero, init_succ, Nat.reduceEqDiff, ↓reduceIte, *]; done) | (simp only [↓putO_get, ↓putO_no, init_zero, init_succ, Nat.reduceEqDiff, ↓reduceIte, *]; rfl)), (by first | rfl | (simp only [↓putO_get, ↓putO_no, init_zero, init_succ, Nat.reduceEqDiff, ↓reduceIte, *]; done) | (simp only [↓putO_get, ↓putO_no, init_zero, init_succ, Nat.reduceEqDiff, ↓reduceIte, *]; rfl)), (by first | rfl | (simp only [↓putO_get, ↓putO_no, init_zero, init_succ, Nat.reduceEqDiff, ↓reduceIte, *]; done) | (simp only [↓putO_get, ↓putO_no, init_zero, init_succ, Nat.reduceEqDiff, ↓reduceIte, *]; rfl)), (by first | rfl | (simp only [↓putO_get, ↓putO_no, init_zero, init_succ, Nat.reduceEqDiff, ↓reduceIte, *]; done) | (simp only [↓putO_get, ↓putO_no, init_zero, init_succ, Nat.reduceEqDiff, ↓reduceIte, *]; rfl)), (by first | rfl | (simp only [↓putO_get, ↓putO_no, init_zero, init_succ, Nat.reduceEqDiff, ↓reduceIte, *]; done) | (simp only [↓putO_get, ↓putO_no, init_zero, init_succ, Nat.reduceEqDiff, ↓reduceIte, *]; rfl)), (by first | rfl | (simp only [↓putO_get, ↓putO_no, init_zero, init_succ, Nat.reduceEqDiff, ↓reduceIte, *]; done) | (simp only [↓putO_get, ↓putO_no, init_zero, init_succ, Nat.reduceEqDiff, ↓reduceIte, *]; rfl)), (by first | rfl | (simp only [↓putO_get, ↓putO_no, init_zero, init_succ, Nat.reduceEqDiff, ↓reduceIte, *]; done) | (simp only [↓putO_get, ↓putO_no, init_zero, init_succ, Nat.reduceEqDiff, ↓reduceIte, *]; rfl)), (by first | rfl | (simp only [↓putO_get, ↓putO_no, init_zero, init_succ, Nat.reduceEqDiff, ↓reduceIte, *]; done) | (simp only [↓putO_get, ↓putO_no, init_zero, init_succ, Nat.reduceEqDiff, ↓reduceIte, *]; rfl)), (by first | rfl | (simp only [↓putO_get, ↓putO_no, init_zero, init_succ, Nat.reduceEqDiff, ↓reduceIte, *]; done) | (simp only [↓putO_get, ↓putO_no, init_zero, init_succ, Nat.reduceEqDiff, ↓reduceIte, *]; rfl)), (by first | rfl | (simp only [↓putO_get, ↓putO_no, init_zero, init_succ, Nat.reduceEqDiff, ↓reduceIte, *]; done) | (simp only [↓putO_get, ↓putO_no, init_zero, init_succ, Nat.reduceEqDiff, ↓reduceIte, *]; rfl)), rfl⟩ ?_
  clear w0 s0 s1 s2 s3 s4 s18 s19 s20 s21
  rintro k s' τ ⟨i, j, hS, hk, s20, s21, s22, s0, s1, s2, s3, s4, s18, s19, hτ⟩
  subst hτ
  have hr := hS.r
  have bnd : ∀ x, lo ≤ x → x < hi → m ≤ md + m - 1 - x ∧ md + m - 1 - x < b ∧ a ≤ x ∧ x < m := fun x h1 h2 => by have := HL.out; omega
  have down : ∀ x y, lo ≤ x → x ≤ y → y < hi → le (f y) (f (md + m - 1 - y)) → le (f x) (f (md + m - 1 - x)) := fun x y h1 h2 h3 h4 => by
    have b1 := bnd x h1 (by omega)
    have b2 := bnd y (by omega) h3
    exact HH.out.1.lin.tr _ _ _ (HH.out.2.2.1.le HH.out.1.lin b1.2.2.1 h2 b2.2.2.2) (HH.out.1.lin.tr _ _ _ h4 (HH.out.2.2.2.le HH.out.1.lin b2.1 (by omega) b1.2.1))
  have HD := Hid.mk (And.intro hS (And.intro down bnd))
  clear hS down bnd
  rcases Nat.lt_or_ge i j with hlt | hge
  · have hd : decide ((i : Int) < (j : Int)) = true := by simp; omega
    obtain ⟨h, hh⟩ : ∃ h, h = (i + j) / 2 := ⟨_, rfl⟩
    have e3 := half (a := i) (b := j) (by omega)
    rw [← hh] at e3
    have e4 : IntKind.i64.wrap ((h : Int) + 1) = ((h + 1 : Nat) : Int) := by rw [wi64 (by omega)]; rfl
    have hb1 := HD.out.2.2 h (by omega) (by omega)
    obtain ⟨q1, q2, q3, q4⟩ := hb1
    have e5 : IntKind.i64.wrap (((md + m - 1 : Nat) : Int) - (h : Int)) = ((md + m - 1 - h : Nat) : Int) := by rw [wi64 (by omega)]; omega
    obtain ⟨y, hy⟩ : ∃ y, y = md + m - 1 - h := ⟨_, rfl⟩
    have HY := Hid.mk hy
    rw [← hy] at e5 q1 q2
    clear hy
    have i1 : h < n := by omega
    have i2 : y < n := by omega
    have r1 := rowN_get f i1
    have r2 := rowN_get f i2
    have l1 := rowN_len n f
    have q := HH.out.1.call (.row (rowN n f) (c * 1) 3) (f y) (f h) (HH.out.2.1 y i2) (HH.out.2.1 h i1)
    have hc1 : i ≤ h := by omega
    have hc2 : h < j := by omega
    have HX := Hid.mk hh
    clear hh
    rcases cmp_dec HH.out.1 (HH.out.2.1 y i2) (HH.out.2.1 h i1) with ⟨dc, hle⟩ | ⟨dc, hle⟩
    · have HLE := Hid.mk hle
      have HQ' := Hid.mk q
      clear hle q
      (repeat' (first | (simp +contextual -dsimp only [*, ↓reduceIte, ↓evP, evQ, splice_nil, splice_zero, splice_skip, Nat.reduceAdd, Nat.reduceEqDiff, Nat.reduceLeDiff, Nat.reduceMul, reduceCtorEq, Int.reduceLT, Int.reduceLE, Int.reduceGT, Int.reduceGE, Int.reduceEq, Int.reduceNeg]) | (refine condF_split (fun hc => ?_) (fun hc => ?_) <;> (try simp only [Bool.not_eq_true', Bool.not_eq_false', Bool.and_eq_true, Bool.or_eq_false_iff] at hc)) | (intro _; intros) | (refine And.intro ?_ ?_; focus (first | omega | ((repeat (first | exact Sub.refl _ | (refine Sub.drop ?_ ?_; focus (simp only [evN, *]; done)) | refine Sub.both ?_)); done) | (simp_all; done) | (simp_all; omega)))))
      refine vcallF_cs (cs := cs) (by kernel_rfl) ?_
      refine callF_v HQ'.out ?_
      (repeat' (first | (simp +contextual -dsimp only [*, ↓reduceIte, ↓evP, evQ, splice_nil, splice_zero, splice_skip, Nat.reduceAdd, Nat.reduceEqDiff, Nat.reduceLeDiff, Nat.reduceMul, reduceCtorEq, Int.reduceLT, Int.reduceLE, Int.reduceGT, Int.reduceGE, Int.reduceEq, Int.reduceNeg]) | (refine condF_split (fun hc => ?_) (fun hc => ?_) <;> (try simp only [Bool.not_eq_true', Bool.not_eq_false', Bool.and_eq_true, Bool.or_eq_false_iff] at hc)) | (intro _; intros) | (refine And.intro ?_ ?_; focus (first | omega | ((repeat (first | exact Sub.refl _ | (refine Sub.drop ?_ ?_; focus (simp only [evN, *]; done)) | refine Sub.both ?_)); done) | (simp_all; done) | (simp_all; omega)))))
      refine nextF_of (h - i) (by omega) (Sub.refl _) ⟨i, h, HD.out.1.left hc1 hc2 (by have := HLE.out; rw [HY.out] at this; exact this) HD.out.2.1, rfl, (by first | rfl | (simp only [↓putO_get, ↓putO_no, init_zero, init_succ, Nat.reduceEqDiff, ↓reduceIte, *]; done) | (simp only [↓putO_get, ↓putO_no, init_zero, init_succ, Nat.reduceEqDiff, ↓reduceIte, *]; rfl)), (by first | rfl | (simp only [↓putO_get, ↓putO_no, init_zero, init_succ, Nat.reduceEqDiff, ↓reduceIte, *]; done) | (simp only [↓putO_get, ↓putO_no, init_zero, init_succ, Nat.reduceEqDiff, ↓reduceIte, *]; rfl)), (by first | rfl | (simp only [↓putO_get, ↓putO_no, init_zero, init_succ, Nat.reduceEqDiff, ↓reduceIte, *]; done) | (simp only [↓putO_get, ↓putO_no, init_zero, init_succ, Nat.reduceEqDiff, ↓reduceIte, *]; rfl)), (by first | rfl | (simp only [↓putO_get, ↓putO_no, init_zero, init_succ, Nat.reduceEqDiff, ↓reduceIte, *]; done) | (simp only [↓putO_get, ↓putO_no, init_zero, init_succ, Nat.reduceEqDiff, ↓reduceIte, *]; rfl)), (by first | rfl | (simp only [↓putO_get, ↓putO_no, init_zero, init_succ, Nat.reduceEqDiff, ↓reduceIte, *]; done) | (simp only [↓putO_get, ↓putO_no, init_zero, init_succ, Nat.reduceEqDiff, ↓reduceIte, *]; rfl)), (by first | rfl | (simp only [↓putO_get, ↓putO_no, init_zero, init_succ, Nat.reduceEqDiff, ↓reduceIte, *]; done) | (simp only [↓putO_get, ↓putO_no, init_zero, init_succ, Nat.reduceEqDiff, ↓reduceIte, *]; rfl)), (by first | rfl | (simp only [↓putO_get, ↓putO_no, init_zero, init_succ, Nat.reduceEqDiff, ↓reduceIte, *]; done) | (simp only [↓putO_get, ↓putO_no, init_zero, init_succ, Nat.reduceEqDiff, ↓reduceIte, *]; rfl)), (by first | rfl | (simp only [↓putO_get, ↓putO_no, init_zero, init_succ, Nat.reduceEqDiff, ↓reduceIte, *]; done) | (simp only [↓putO_get, ↓putO_no, init_zero, init_succ, Nat.reduceEqDiff, ↓reduceIte, *]; rfl)), (by first | rfl | (simp only [↓putO_get, ↓putO_no, init_zero, init_succ, Nat.reduceEqDiff, ↓reduceIte, *]; done) | (simp only [↓putO_get, ↓putO_no, init_zero, init_succ, Nat.reduceEqDiff, ↓reduceIte, *]; rfl)), (by first | rfl | (simp only [↓putO_get, ↓putO_no, init_zero, init_succ, Nat.reduceEqDiff, ↓reduceIte, *]; done) | (simp only [↓putO_get, ↓putO_no, init_zero, init_succ, Nat.reduceEqDiff, ↓reduceIte, *]; rfl)), rfl⟩
    · have HLE := Hid.mk hle
      have HQ' := Hid.mk q
      clear hle q
      (repeat' (first | (simp +contextual -dsimp only [*, ↓reduceIte, ↓evP, evQ, splice_nil, splice_zero, splice_skip, Nat.reduceAdd, Nat.reduceEqDiff, Nat.reduceLeDiff, Nat.reduceMul, reduceCtorEq, Int.reduceLT, Int.reduceLE, Int.reduceGT, Int.reduceGE, Int.reduceEq, Int.reduceNeg]) | (refine condF_split (fun hc => ?_) (fun hc => ?_) <;> (try simp only [Bool.not_eq_true', Bool.not_eq_false', Bool.and_eq_true, Bool.or_eq_false_iff] at hc)) | (intro _; intros) | (refine And.intro ?_ ?_; focus (first | omega | ((repeat (first | exact Sub.refl _ | (refine Sub.drop ?_ ?_; focus (simp only [evN, *]; done)) | refine Sub.both ?_)); done) | (simp_all; done) | (simp_all; omega)))))
      refine vcallF_cs (cs := cs) (by kernel_rfl) ?_
      refine callF_v HQ'.out ?_
      (repeat' (first | (simp +contextual -dsimp only [*, ↓reduceIte, ↓evP, evQ, splice_nil, splice_zero, splice_skip, Nat.reduceAdd, Nat.reduceEqDiff, Nat.reduceLeDiff, Nat.reduceMul, reduceCtorEq, Int.reduceLT, Int.reduceLE, Int.reduceGT, Int.reduceGE, Int.reduceEq, Int.reduceNeg]) | (refine condF_split (fun hc => ?_) (fun hc => ?_) <;> (try simp only [Bool.not_eq_true', Bool.not_eq_false', Bool.and_eq_true, Bool.or_eq_false_iff] at hc)) | (intro _; intros) | (refine And.intro ?_ ?_; focus (first | omega | ((repeat (first | exact Sub.refl _ | (refine Sub.drop ?_ ?_; focus (simp only [evN, *]; done)) | refine Sub.both ?_)); done) | (simp_all; done) | (simp_all; omega)))))
      refine nextF_of (j - (h + 1)) (by omega) (Sub.refl _) ⟨h + 1, j, HD.out.1.right hc1 hc2 (by have := HLE.out; rw [HY.out] at this; exact this) HD.out.2.1, rfl, (by first | rfl | (simp only [↓putO_get, ↓putO_no, init_zero, init_succ, Nat.reduceEqDiff, ↓reduceIte, *]; done) | (simp only [↓putO_get, ↓putO_no, init_zero, init_succ, Nat.reduceEqDiff, ↓reduceIte, *]; rfl)), (by first | rfl | (simp only [↓putO_get, ↓putO_no, init_zero, init_succ, Nat.reduceEqDiff, ↓reduceIte, *]; done) | (simp only [↓putO_get, ↓putO_no, init_zero, init_succ, Nat.reduceEqDiff, ↓reduceIte, *]; rfl)), (by first | rfl | (simp only [↓putO_get, ↓putO_no, init_zero, init_succ, Nat.reduceEqDiff, ↓reduceIte, *]; done) | (simp only [↓putO_get, ↓putO_no, init_zero, init_succ, Nat.reduceEqDiff, ↓reduceIte, *]; rfl)), (by first | rfl | (simp only [↓putO_get, ↓putO_no, init_zero, init_succ, Nat.reduceEqDiff, ↓reduceIte, *]; done) | (simp only [↓putO_get, ↓putO_no, init_zero, init_succ, Nat.reduceEqDiff, ↓reduceIte, *]; rfl)), (by first | rfl | (simp only [↓putO_get, ↓putO_no, init_zero, init_succ, Nat.reduceEqDiff, ↓reduceIte, *]; done) | (simp only [↓putO_get, ↓putO_no, init_zero, init_succ, Nat.reduceEqDiff, ↓reduceIte, *]; rfl)), (by first | rfl | (simp only [↓putO_get, ↓putO_no, init_zero, init_succ, Nat.reduceEqDiff, ↓reduceIte, *]; done) | (simp only [↓putO_get, ↓putO_no, init_zero, init_succ, Nat.reduceEqDiff, ↓reduceIte, *]; rfl)), (by first | rfl | (simp only [↓putO_get, ↓putO_no, init_zero, init_succ, Nat.reduceEqDiff, ↓reduceIte, *]; done) | (simp only [↓putO_get, ↓putO_no, init_zero, init_succ, Nat.reduceEqDiff, ↓reduceIte, *]; rfl)), (by first | rfl | (simp only [↓putO_get, ↓putO_no, init_zero, init_succ, Nat.reduceEqDiff, ↓reduceIte, *]; done) | (simp only [↓putO_get, ↓putO_no, init_zero, init_succ, Nat.reduceEqDiff, ↓reduceIte, *]; rfl)), (by first | rfl | (simp only [↓putO_get, ↓putO_no, init_zero, init_succ, Nat.reduceEqDiff, ↓reduceIte, *]; done) | (simp only [↓putO_get, ↓putO_no, init_zero, init_succ, Nat.reduceEqDiff, ↓reduceIte, *]; rfl)), (by first | rfl | (simp only [↓putO_get, ↓putO_no, init_zero, init_succ, Nat.reduceEqDiff, ↓reduceIte, *]; done) | (simp only [↓putO_get, ↓putO_no, init_zero, init_succ, Nat.reduceEqDiff, ↓reduceIte, *]; rfl)), rfl⟩
  · obtain rfl : j = i := by omega
    have hd : decide ((j : Int) < (j : Int)) = false := by simp
    have w1 : IntKind.i64.wrap (((md + m : Nat) : Int) - (j : Int)) = ((md + m - j : Nat) : Int) := by rw [wi64 (by omega)]; omega
    obtain ⟨e, he⟩ : ∃ e, e = md + m - j := ⟨_, rfl⟩
    rw [← he] at w1
    have q : (a ≤ j ∧ j ≤ m ∧ m ≤ e ∧ e ≤ b ∧ j + e = md + m) := by have := HL.out; omega
    have H1 : a < j → e < b → le (f (j - 1)) (f e) := fun h1 h2 => by
      have := HD.out.1.yes (j - 1) (by have := HL.out; omega) (by omega)
      rwa [show md + m - 1 - (j - 1) = e by omega] at this
    have H2 : j < m → m < e → le (f (e - 1)) (f j) := fun h1 h2 => by
      have := HD.out.1.no j (Nat.le_refl _) (by have := HL.out; omega)
      rw [show md + m - 1 - j = e - 1 by omega] at this
      exact (HH.out.1.lin.tot _ _).resolve_right this
    have sl := split_law HH.out.1.lin HH.out.2.2.1 HH.out.2.2.2 q.1 q.2.1 q.2.2.1 q.2.2.2.1 q.2.2.2.2 H1 H2
    have SL := Hid.mk (And.intro sl q)
    clear sl q H1 H2 he HD
    (repeat' (first | (simp +contextual -dsimp only [*, ↓reduceIte, ↓evP, evQ, splice_nil, splice_zero, splice_skip, Nat.reduceAdd, Nat.reduceEqDiff, Nat.reduceLeDiff, Nat.reduceMul, reduceCtorEq, Int.reduceLT, Int.reduceLE, Int.reduceGT, Int.reduceGE, Int.reduceEq, Int.reduceNeg]) | (refine condF_split (fun hc => ?_) (fun hc => ?_) <;> (try simp only [Bool.not_eq_true', Bool.not_eq_false', Bool.and_eq_true, Bool.or_eq_false_iff] at hc)) | (intro _; intros) | (refine And.intro ?_ ?_; focus (first | omega | ((repeat (first | exact Sub.refl _ | (refine Sub.drop ?_ ?_; focus (simp only [evN, *]; done)) | refine Sub.both ?_)); done) | (simp_all; done) | (simp_all; omega)))))
    unfold c142_sr177 c142_br177
    simp +contextual -dsimp only [*, ↓reduceIte, ↓evP, evQ, splice_nil, splice_zero, splice_skip, Nat.reduceAdd, Nat.reduceEqDiff, Nat.reduceLeDiff, Nat.reduceMul, reduceCtorEq, Int.reduceLT, Int.reduceLE, Int.reduceGT, Int.reduceGE, Int.reduceEq, Int.reduceNeg]
    obtain ⟨⟨t1, t2, t3, t4, t5⟩, tq⟩ := SL.out
    refine tail142 HH.out.1 hb hn HH.out.2.1 (by omega) tq t1 t2 t3 t4 t5 HR.out (by first | rfl | (simp only [↓putO_get, ↓putO_no, init_zero, init_succ, Nat.reduceEqDiff, ↓reduceIte, *]; done) | (simp only [↓putO_get, ↓putO_no, init_zero, init_succ, Nat.reduceEqDiff, ↓reduceIte, *]; rfl)) (by first | rfl | (simp only [↓putO_get, ↓putO_no, init_zero, init_succ, Nat.reduceEqDiff, ↓reduceIte, *]; done) | (simp only [↓putO_get, ↓putO_no, init_zero, init_succ, Nat.reduceEqDiff, ↓reduceIte, *]; rfl)) (by first | rfl | (simp only [↓putO_get, ↓putO_no, init_zero, init_succ, Nat.reduceEqDiff, ↓reduceIte, *]; done) | (simp only [↓putO_get, ↓putO_no, init_zero, init_succ, Nat.reduceEqDiff, ↓reduceIte, *]; rfl)) (by first | rfl | (simp only [↓putO_get, ↓putO_no, init_zero, init_succ, Nat.reduceEqDiff, ↓reduceIte, *]; done) | (simp only [↓putO_get, ↓putO_no, init_zero, init_succ, Nat.reduceEqDiff, ↓reduceIte, *]; rfl)) (by first | rfl | (simp only [↓putO_get, ↓putO_no, init_zero, init_succ, Nat.reduceEqDiff, ↓reduceIte, *]; done) | (simp only [↓putO_get, ↓putO_no, init_zero, init_succ, Nat.reduceEqDiff, ↓reduceIte, *]; rfl)) (by first | rfl | (simp only [↓putO_get, ↓putO_no, init_zero, init_succ, Nat.reduceEqDiff, ↓reduceIte, *]; done) | (simp only [↓putO_get, ↓putO_no, init_zero, init_succ, Nat.reduceEqDiff, ↓reduceIte, *]; rfl)) (by first | rfl | (simp only [↓putO_get, ↓putO_no, init_zero, init_succ, Nat.reduceEqDiff, ↓reduceIte, *]; done) | (simp only [↓putO_get, ↓putO_no, init_zero, init_succ, Nat.reduceEqDiff, ↓reduceIte, *]; rfl)) (by first | rfl | (simp only [↓putO_get, ↓putO_no, init_zero, init_succ, Nat.reduceEqDiff, ↓reduceIte, *]; done) | (simp only [↓putO_get, ↓putO_no, init_zero, init_succ, Nat.reduceEqDiff, ↓reduceIte, *]; rfl)) ?_
    intro s'' f' h1 h2
    exact HQ.out s'' f' h1 h2
set_option maxRecDepth 100000 in
set_option maxHeartbeats 4000000 in
theorem sym142 {σ : Hp} {g n c N : Nat} {cs : List Value} {cm : Nat → Nat → Int} {le : Nat → Nat → Prop} (HC : CmpAt σ g N cs cm le) (hn : n ≤ 1099511627776) : ∀ (d : Nat) {a m b : Nat} {f : Nat → Nat}, b - a ≤ d → a < m → m < b → b ≤ n → InN N n f → So le f a m → So le f m b →
    ACalls Try.prog 142 #[.slice (some ⟨g, 0, none⟩) n c, .int .i64 a, .int .i64 m, .int .i64 b, .func (.func 95) #[] cs.toArray] (upd σ g (.row (rowN n f) (c * 1) 3)) fun u σ' => ∃ f', Mv a b f f' ∧ So le f' a b ∧ σ' = upd σ g (.row (rowN n f') (c * 1) 3) := by
  intro d
  induction d with
  | zero => intro a m b f h1 h2 h3; omega
  | succ d ih =>
    intro a m b f hd ham hmb hb hN hA hB
    by_cases c1 : m = a + 1
    · exact symA HC c1 hmb hb hn hN hB
    by_cases c2 : b = m + 1
    · exact symB HC (by omega) c2 hb hn hN hA
    have g1 : a + 1 < m := by omega
    have g2 : m + 1 < b := by omega
    have R : ∀ (a' m' b' : Nat) (f' : Nat → Nat), a ≤ a' → b' ≤ b → b' - a' < b - a → a' < m' → m' < b' → InN N n f' → So le f' a' m' → So le f' m' b' →
      ACalls Try.prog 142 #[.slice (some ⟨g, 0, none⟩) n c, .int .i64 a', .int .i64 m', .int .i64 b', .func (.func 95) #[] cs.toArray] (upd σ g (.row (rowN n f') (c * 1) 3)) fun u σ' => ∃ f'', Mv a' b' f' f'' ∧ So le f'' a' b' ∧ σ' = upd σ g (.row (rowN n f'') (c * 1) 3) :=
      fun a' m' b' f' _ q2 q3 q4 q5 q6 q7 q8 => ih (by omega) q4 q5 (by omega) q6 q7 q8
    have v0 : IntKind.i64.wrap ((m : Int) - (a : Int)) = ((m - a : Nat) : Int) := by rw [wi64 (by omega)]; omega
    have d0 : decide (((m - a : Nat) : Int) = 1) = false := by simp; omega
    have v1 : IntKind.i64.wrap ((b : Int) - (m : Int)) = ((b - m : Nat) : Int) := by rw [wi64 (by omega)]; omega
    have d1 : decide (((b - m : Nat) : Int) = 1) = false := by simp; omega
    obtain ⟨md, hmd⟩ : ∃ md, md = (a + b) / 2 := ⟨_, rfl⟩
    have e := half (a := a) (b := b) (by omega)
    rw [← hmd] at e
    have hmd' : md ≤ (a + b) / 2 ∧ (a + b) / 2 ≤ md := by omega
    have w2 : IntKind.i64.wrap ((md : Int) + (m : Int)) = ((md + m : Nat) : Int) := by rw [wi64 (by omega)]; rfl
    have H := Hid.mk (And.intro HC (And.intro R (And.intro hN (And.intro hA (And.intro hB hmd')))))
    clear R hN hA hB hmd hmd' ih c1 c2
    rcases Nat.lt_or_ge md m with c3 | c3
    · have d2 : decide ((m : Int) > (md : Int)) = true := by simp; omega
      obtain ⟨lo, hlo⟩ : ∃ lo, lo = md + m - b := ⟨_, rfl⟩
      have w3 : IntKind.i64.wrap (((md + m : Nat) : Int) - (b : Int)) = (lo : Int) := by have := H.out.2.2.2.2.2; rw [wi64 (by omega)]; omega
      have hlo' : (md < m ∧ lo + b ≤ md + m ∧ md + m ≤ lo + b ∧ md ≤ md ∧ md ≤ md) ∨ (m ≤ md ∧ lo ≤ a ∧ a ≤ lo ∧ md ≤ m ∧ m ≤ md) := .inl (by have := H.out.2.2.2.2.2; omega)
      have HL := Hid.mk hlo'
      clear hlo hlo'
      (refine acalls_F ok142 (by simp) ?_; unfold c142 r142)
      (repeat' (first | (simp +contextual -dsimp only [*, ↓reduceIte, ↓evP, evQ, splice_nil, splice_zero, splice_skip, Nat.reduceAdd, Nat.reduceEqDiff, Nat.reduceLeDiff, Nat.reduceMul, reduceCtorEq, Int.reduceLT, Int.reduceLE, Int.reduceGT, Int.reduceGE, Int.reduceEq, Int.reduceNeg]) | (refine condF_split (fun hc => ?_) (fun hc => ?_) <;> (try simp only [Bool.not_eq_true', Bool.not_eq_false', Bool.and_eq_true, Bool.or_eq_false_iff] at hc)) | (intro _; intros) | (refine And.intro ?_ ?_; focus (first | omega | ((repeat (first | exact Sub.refl _ | (refine Sub.drop ?_ ?_; focus (simp only [evN, *]; done)) | refine Sub.both ?_)); done) | (simp_all; done) | (simp_all; omega)))))
      refine find142 H.out.1 g1 g2 hb hn H.out.2.2.1 H.out.2.2.2.1 H.out.2.2.2.2.1 H.out.2.2.2.2.2 HL.out H.out.2.1 (by first | rfl | (simp only [↓putO_get, ↓putO_no, init_zero, init_succ, Nat.reduceEqDiff, ↓reduceIte, *]; done) | (simp only [↓putO_get, ↓putO_no, init_zero, init_succ, Nat.reduceEqDiff, ↓reduceIte, *]; rfl)) (by first | rfl | (simp only [↓putO_get, ↓putO_no, init_zero, init_succ, Nat.reduceEqDiff, ↓reduceIte, *]; done) | (simp only [↓putO_get, ↓putO_no, init_zero, init_succ, Nat.reduceEqDiff, ↓reduceIte, *]; rfl)) (by first | rfl | (simp only [↓putO_get, ↓putO_no, init_zero, init_succ, Nat.reduceEqDiff, ↓reduceIte, *]; done) | (simp only [↓putO_get, ↓putO_no, init_zero, init_succ, Nat.reduceEqDiff, ↓reduceIte, *]; rfl)) (by first | rfl | (simp only [↓putO_get, ↓putO_no, init_zero, init_succ, Nat.reduceEqDiff, ↓reduceIte, *]; done) | (simp only [↓putO_get, ↓putO_no, init_zero, init_succ, Nat.reduceEqDiff, ↓reduceIte, *]; rfl)) (by first | rfl | (simp only [↓putO_get, ↓putO_no, init_zero, init_succ, Nat.reduceEqDiff, ↓reduceIte, *]; done) | (simp only [↓putO_get, ↓putO_no, init_zero, init_succ, Nat.reduceEqDiff, ↓reduceIte, *]; rfl)) (by first | rfl | (simp only [↓putO_get, ↓putO_no, init_zero, init_succ, Nat.reduceEqDiff, ↓reduceIte, *]; done) | (simp only [↓putO_get, ↓putO_no, init_zero, init_succ, Nat.reduceEqDiff, ↓reduceIte, *]; rfl)) (by first | rfl | (simp only [↓putO_get, ↓putO_no, init_zero, init_succ, Nat.reduceEqDiff, ↓reduceIte, *]; done) | (simp only [↓putO_get, ↓putO_no, init_zero, init_succ, Nat.reduceEqDiff, ↓reduceIte, *]; rfl)) (by first | rfl | (simp only [↓putO_get, ↓putO_no, init_zero, init_succ, Nat.reduceEqDiff, ↓reduceIte, *]; done) | (simp only [↓putO_get, ↓putO_no, init_zero, init_succ, Nat.reduceEqDiff, ↓reduceIte, *]; rfl)) (by first | rfl | (simp only [↓putO_get, ↓putO_no, init_zero, init_succ, Nat.reduceEqDiff, ↓reduceIte, *]; done) | (simp only [↓putO_get, ↓putO_no, init_zero, init_succ, Nat.reduceEqDiff, ↓reduceIte, *]; rfl)) ?_
      intro s'' f' h1 h2
      simp +contextual -dsimp only [*, ↓reduceIte, ↓evP, evQ, splice_nil, splice_zero, splice_skip, Nat.reduceAdd, Nat.reduceEqDiff, Nat.reduceLeDiff, Nat.reduceMul, reduceCtorEq, Int.reduceLT, Int.reduceLE, Int.reduceGT, Int.reduceGE, Int.reduceEq, Int.reduceNeg]
      exact endF_at ⟨f', h1, h2, rfl⟩
    · have d2 : decide ((m : Int) > (md : Int)) = false := by simp; omega
      (refine acalls_F ok142 (by simp) ?_; unfold c142 r142)
      (repeat' (first | (simp +contextual -dsimp only [*, ↓reduceIte, ↓evP, evQ, splice_nil, splice_zero, splice_skip, Nat.reduceAdd, Nat.reduceEqDiff, Nat.reduceLeDiff, Nat.reduceMul, reduceCtorEq, Int.reduceLT, Int.reduceLE, Int.reduceGT, Int.reduceGE, Int.reduceEq, Int.reduceNeg]) | (refine condF_split (fun hc => ?_) (fun hc => ?_) <;> (try simp only [Bool.not_eq_true', Bool.not_eq_false', Bool.and_eq_true, Bool.or_eq_false_iff] at hc)) | (intro _; intros) | (refine And.intro ?_ ?_; focus (first | omega | ((repeat (first | exact Sub.refl _ | (refine Sub.drop ?_ ?_; focus (simp only [evN, *]; done)) | refine Sub.both ?_)); done) | (simp_all; done) | (simp_all; omega)))))
      refine find142 H.out.1 g1 g2 hb hn H.out.2.2.1 H.out.2.2.2.1 H.out.2.2.2.2.1 H.out.2.2.2.2.2 (.inr ⟨c3, Nat.le_refl _, Nat.le_refl _, Nat.le_refl _, Nat.le_refl _⟩) H.out.2.1 (by first | rfl | (simp only [↓putO_get, ↓putO_no, init_zero, init_succ, Nat.reduceEqDiff, ↓reduceIte, *]; done) | (simp only [↓putO_get, ↓putO_no, init_zero, init_succ, Nat.reduceEqDiff, ↓reduceIte, *]; rfl)) (by first | rfl | (simp only [↓putO_get, ↓putO_no, init_zero, init_succ, Nat.reduceEqDiff, ↓reduceIte, *]; done) | (simp only [↓putO_get, ↓putO_no, init_zero, init_succ, Nat.reduceEqDiff, ↓reduceIte, *]; rfl)) (by first | rfl | (simp only [↓putO_get, ↓putO_no, init_zero, init_succ, Nat.reduceEqDiff, ↓reduceIte, *]; done) | (simp only [↓putO_get, ↓putO_no, init_zero, init_succ, Nat.reduceEqDiff, ↓reduceIte, *]; rfl)) (by first | rfl | (simp only [↓putO_get, ↓putO_no, init_zero, init_succ, Nat.reduceEqDiff, ↓reduceIte, *]; done) | (simp only [↓putO_get, ↓putO_no, init_zero, init_succ, Nat.reduceEqDiff, ↓reduceIte, *]; rfl)) (by first | rfl | (simp only [↓putO_get, ↓putO_no, init_zero, init_succ, Nat.reduceEqDiff, ↓reduceIte, *]; done) | (simp only [↓putO_get, ↓putO_no, init_zero, init_succ, Nat.reduceEqDiff, ↓reduceIte, *]; rfl)) (by first | rfl | (simp only [↓putO_get, ↓putO_no, init_zero, init_succ, Nat.reduceEqDiff, ↓reduceIte, *]; done) | (simp only [↓putO_get, ↓putO_no, init_zero, init_succ, Nat.reduceEqDiff, ↓reduceIte, *]; rfl)) (by first | rfl | (simp only [↓putO_get, ↓putO_no, init_zero, init_succ, Nat.reduceEqDiff, ↓reduceIte, *]; done) | (simp only [↓putO_get, ↓putO_no, init_zero, init_succ, Nat.reduceEqDiff, ↓reduceIte, *]; rfl)) (by first | rfl | (simp only [↓putO_get, ↓putO_no, init_zero, init_succ, Nat.reduceEqDiff, ↓reduceIte, *]; done) | (simp only [↓putO_get, ↓putO_no, init_zero, init_succ, Nat.reduceEqDiff, ↓reduceIte, *]; rfl)) (by first | rfl | (simp only [↓putO_get, ↓putO_no, init_zero, init_succ, Nat.reduceEqDiff, ↓reduceIte, *]; done) | (simp only [↓putO_get, ↓putO_no, init_zero, init_succ, Nat.reduceEqDiff, ↓reduceIte, *]; rfl)) ?_
      intro s'' f' h1 h2
      simp +contextual -dsimp only [*, ↓reduceIte, ↓evP, evQ, splice_nil, splice_zero, splice_skip, Nat.reduceAdd, Nat.reduceEqDiff, Nat.reduceLeDiff, Nat.reduceMul, reduceCtorEq, Int.reduceLT, Int.reduceLE, Int.reduceGT, Int.reduceGE, Int.reduceEq, Int.reduceNeg]
      exact endF_at ⟨f', h1, h2, rfl⟩
/-- The blocks lo, .., hi - 1 of the size bs are sorted. -/
def Bls (le : Nat → Nat → Prop) (h : Nat → Nat) (bs n lo hi : Nat) : Prop := ∀ q, lo ≤ q → q < hi → So le h (q * bs) (min ((q + 1) * bs) n)
theorem Bls.step {le : Nat → Nat → Prop} {h h' : Nat → Nat} {bs n k A b : Nat} (H : Bls le h bs n 0 k) (hA : A = k * bs) (hb : b = min (A + bs) n) (hM : Mv A b h h') (hS : So le h' A b) : Bls le h' bs n 0 (k + 1) := fun q _ q2 => by
  rcases Nat.lt_or_ge q k with c | c
  · have := Nat.mul_le_mul_right bs (show q + 1 ≤ k by omega)
    exact (H q (Nat.zero_le _) c).congr fun x x1 x2 => hM.out (by omega)
  · obtain rfl : q = k := by omega
    rw [Nat.succ_mul, ← hA, ← hb]; exact hS
theorem Bls.part {le : Nat → Nat → Prop} {h h' : Nat → Nat} {bs n lo lo' hi A b : Nat} (H : Bls le h bs n lo hi) (hl : lo ≤ lo') (hb : b ≤ lo' * bs) (hM : Mv A b h h') : Bls le h' bs n lo' hi := fun q q1 q2 => by
  have := Nat.mul_le_mul_right bs q1
  exact (H q (by omega) q2).congr fun x x1 x2 => hM.out (by omega)
theorem Bls.all {le : Nat → Nat → Prop} {h : Nat → Nat} {bs n k : Nat} (H : Bls le h bs n 0 k) (hk : n ≤ k * bs) (hi : Nat) : Bls le h bs n 0 hi := fun q _ q2 => by
  rcases Nat.lt_or_ge q k with c | c
  · exact H q (Nat.zero_le _) c
  · have := Nat.mul_le_mul_right bs c
    intro i j h1 h2 h3; omega
theorem Bls.one {le : Nat → Nat → Prop} {h : Nat → Nat} {bs n hi : Nat} (H : Bls le h bs n 0 hi) (h0 : 0 < hi) (hb : n ≤ bs) : So le h 0 n := by
  have := H 0 (Nat.le_refl _) h0
  rw [Nat.zero_mul, Nat.zero_add, Nat.one_mul, Nat.min_eq_right hb] at this; exact this
set_option maxRecDepth 100000 in
set_option maxHeartbeats 4000000 in
theorem stable114 {σ : Hp} {g n c N : Nat} {f : Nat → Nat} {cs : List Value} {cm : Nat → Nat → Int} {le : Nat → Nat → Prop} (HC : CmpAt σ g N cs cm le) (hn : n ≤ 1099511627776) (hN : InN N n f) :
    ACalls Try.prog 114 #[.slice (some ⟨g, 0, none⟩) n c, .int .i64 n, .func (.func 95) #[] cs.toArray] (upd σ g (.row (rowN n f) (c * 1) 3)) fun u σ' => ∃ f', Mv 0 n f f' ∧ So le f' 0 n ∧ σ' = upd σ g (.row (rowN n f') (c * 1) 3) := by
  have HH := Hid.mk (And.intro HC hN)
  clear HC hN
  (refine acalls_F ok114 (by simp) ?_; unfold c114 r114)
  (repeat' (first | (simp +contextual -dsimp only [*, ↓reduceIte, ↓evP, evQ, splice_nil, splice_zero, splice_skip, Nat.reduceAdd, Nat.reduceEqDiff, Nat.reduceLeDiff, Nat.reduceMul, reduceCtorEq, Int.reduceLT, Int.reduceLE, Int.reduceGT, Int.reduceGE, Int.reduceEq, Int.reduceNeg]) | (refine condF_split (fun hc => ?_) (fun hc => ?_) <;> (try simp only [Bool.not_eq_true', Bool.not_eq_false', Bool.and_eq_true, Bool.or_eq_false_iff] at hc)) | (intro _; intros) | (refine And.intro ?_ ?_; focus (first | omega | ((repeat (first | exact Sub.refl _ | (refine Sub.drop ?_ ?_; focus (simp only [evN, *]; done)) | refine Sub.both ?_)); done) | (simp_all; done) | (simp_all; omega)))))
  refine loopF_of (fun k s σ' => ∃ (q A : Nat) (h : Nat → Nat), Hid (A = q * 20) ∧ A ≤ n ∧ k = n - A ∧ s 6 = .int .i64 20 ∧ s 7 = .int .i64 A ∧ s 8 = .int .i64 (A + 20 : Nat) ∧ s 0 = .slice (some ⟨g, 0, none⟩) n c ∧ s 1 = .int .i64 n ∧ s 2 = .func (.func 95) #[] cs.toArray ∧ σ' = upd σ g (.row (rowN n h) (c * 1) 3) ∧ Hid (Mv 0 n f h ∧ Bls le h 20 n 0 q)) n (Sub.refl _)
    ⟨0, 0, f, ⟨rfl⟩, Nat.zero_le _, rfl, (by first | rfl | (simp only [↓putO_get, ↓putO_no, init_zero, init_succ, Nat.reduceEqDiff, ↓reduceIte, *]; done) | (simp only [↓putO_get, ↓putO_no, init_zero, init_succ, Nat.reduceEqDiff, ↓reduceIte, *]; rfl)), (by first | rfl | (simp only [↓putO_get, ↓putO_no, init_zero, init_succ, Nat.reduceEqDiff, ↓reduceIte, *]; done) | (simp only [↓putO_get, ↓putO_no, init_zero, init_succ, Nat.reduceEqDiff, ↓reduceIte, *]; rfl)), (by first | rfl | (simp only [↓putO_get, ↓putO_no, init_zero, init_succ, Nat.reduceEqDiff, ↓reduceIte, *]; done) | (simp only [↓putO_get, ↓putO_no, init_zero, init_succ, Nat.reduceEqDiff, ↓reduceIte, *]; rfl)), (by first | rfl | (simp only [↓putO_get, ↓putO_no, init_zero, init_succ, Nat.reduceEqDiff, ↓reduceIte, *]; done) | (simp only [↓putO_get, ↓putO_no, init_zero, init_succ, Nat.reduceEqDiff, ↓reduceIte, *]; rfl)), (by first | rfl | (simp only [↓putO_get, ↓putO_no, init_zero, init_succ, Nat.reduceEqDiff, ↓reduceIte, *]; done) | (simp only [↓putO_get, ↓putO_no, init_zero, init_succ, Nat.reduceEqDiff, ↓reduceIte, *]; rfl)), (by first | rfl | (simp only [↓putO_get, ↓putO_no, init_zero, init_succ, Nat.reduceEqDiff, ↓reduceIte, *]; done) | (simp only [↓putO_get, ↓putO_no, init_zero, init_succ, Nat.reduceEqDiff, ↓reduceIte, *]; rfl)), rfl, ⟨Mv.refl _ _ _, fun q _ h => by omega⟩⟩ ?_
  rintro k s τ ⟨q, A, h, hA, hAn, hk, s6, s7, s8, s0, s1, s2, hτ, HM⟩
  subst hτ
  rcases Nat.lt_or_ge n (A + 20) with hgt | hle
  · have hd : decide (((A + 20 : Nat) : Int) ≤ (n : Int)) = false := by simp; omega
    (repeat' (first | (simp +contextual -dsimp only [*, ↓reduceIte, ↓evP, evQ, splice_nil, splice_zero, splice_skip, Nat.reduceAdd, Nat.reduceEqDiff, Nat.reduceLeDiff, Nat.reduceMul, reduceCtorEq, Int.reduceLT, Int.reduceLE, Int.reduceGT, Int.reduceGE, Int.reduceEq, Int.reduceNeg]) | (refine condF_split (fun hc => ?_) (fun hc => ?_) <;> (try simp only [Bool.not_eq_true', Bool.not_eq_false', Bool.and_eq_true, Bool.or_eq_false_iff] at hc)) | (intro _; intros) | (refine And.intro ?_ ?_; focus (first | omega | ((repeat (first | exact Sub.refl _ | (refine Sub.drop ?_ ?_; focus (simp only [evN, *]; done)) | refine Sub.both ?_)); done) | (simp_all; done) | (simp_all; omega)))))
    refine callF_of (ins141 HH.out.1 (a := A) (b := n) hAn (Nat.le_refl _) hn (HH.out.2.mv HM.out.1 (Nat.le_refl _))) ?_
    rintro u σ' ⟨h1, hM1, hS1, rfl⟩
    have HM1 : Hid (Mv 0 n f h1 ∧ Bls le h1 20 n 0 (2 * n + 2)) := ⟨HM.out.1.trans (hM1.mono (Nat.zero_le _) (Nat.le_refl _)), (HM.out.2.step hA.out (Nat.min_eq_right (by omega)).symm hM1 hS1).all (by rw [Nat.succ_mul q, ← hA.out]; omega) _⟩
    clear hM1 hS1 HM hd
    (repeat' (first | (simp +contextual -dsimp only [*, ↓reduceIte, ↓evP, evQ, splice_nil, splice_zero, splice_skip, Nat.reduceAdd, Nat.reduceEqDiff, Nat.reduceLeDiff, Nat.reduceMul, reduceCtorEq, Int.reduceLT, Int.reduceLE, Int.reduceGT, Int.reduceGE, Int.reduceEq, Int.reduceNeg]) | (refine condF_split (fun hc => ?_) (fun hc => ?_) <;> (try simp only [Bool.not_eq_true', Bool.not_eq_false', Bool.and_eq_true, Bool.or_eq_false_iff] at hc)) | (intro _; intros) | (refine And.intro ?_ ?_; focus (first | omega | ((repeat (first | exact Sub.refl _ | (refine Sub.drop ?_ ?_; focus (simp only [evN, *]; done)) | refine Sub.both ?_)); done) | (simp_all; done) | (simp_all; omega)))))
    refine loopF_of (fun k s σ' => ∃ (bs : Nat) (h : Nat → Nat), 0 < bs ∧ k = n - bs ∧ bs ≤ 2199023255552 ∧ s 6 = .int .i64 bs ∧ s 0 = .slice (some ⟨g, 0, none⟩) n c ∧ s 1 = .int .i64 n ∧ s 2 = .func (.func 95) #[] cs.toArray ∧ σ' = upd σ g (.row (rowN n h) (c * 1) 3) ∧ Hid (Mv 0 n f h ∧ Bls le h bs n 0 (2 * n + 2))) (n - 20) (Sub.refl _)
      ⟨20, h1, by omega, rfl, by omega, (by first | rfl | (simp only [↓putO_get, ↓putO_no, init_zero, init_succ, Nat.reduceEqDiff, ↓reduceIte, *]; done) | (simp only [↓putO_get, ↓putO_no, init_zero, init_succ, Nat.reduceEqDiff, ↓reduceIte, *]; rfl)), (by first | rfl | (simp only [↓putO_get, ↓putO_no, init_zero, init_succ, Nat.reduceEqDiff, ↓reduceIte, *]; done) | (simp only [↓putO_get, ↓putO_no, init_zero, init_succ, Nat.reduceEqDiff, ↓reduceIte, *]; rfl)), (by first | rfl | (simp only [↓putO_get, ↓putO_no, init_zero, init_succ, Nat.reduceEqDiff, ↓reduceIte, *]; done) | (simp only [↓putO_get, ↓putO_no, init_zero, init_succ, Nat.reduceEqDiff, ↓reduceIte, *]; rfl)), (by first | rfl | (simp only [↓putO_get, ↓putO_no, init_zero, init_succ, Nat.reduceEqDiff, ↓reduceIte, *]; done) | (simp only [↓putO_get, ↓putO_no, init_zero, init_succ, Nat.reduceEqDiff, ↓reduceIte, *]; rfl)), rfl, HM1⟩ ?_
    clear s6 s7 s8 s0 s1 s2 HM1 hA hAn hgt hk
    rintro k' s' τ' ⟨bs, h2, hbs, hk', hb40, s6, s0, s1, s2, hτ', HM2⟩
    subst hτ'
    rcases Nat.lt_or_ge bs n with hlt | hge
    · have hd : decide ((bs : Int) < (n : Int)) = true := by simp; omega
      have w1 : IntKind.i64.wrap (2 * (bs : Int)) = ((2 * bs : Nat) : Int) := by rw [wi64 (by omega)]; omega
      (repeat' (first | (simp +contextual -dsimp only [*, ↓reduceIte, ↓evP, evQ, splice_nil, splice_zero, splice_skip, Nat.reduceAdd, Nat.reduceEqDiff, Nat.reduceLeDiff, Nat.reduceMul, reduceCtorEq, Int.reduceLT, Int.reduceLE, Int.reduceGT, Int.reduceGE, Int.reduceEq, Int.reduceNeg]) | (refine condF_split (fun hc => ?_) (fun hc => ?_) <;> (try simp only [Bool.not_eq_true', Bool.not_eq_false', Bool.and_eq_true, Bool.or_eq_false_iff] at hc)) | (intro _; intros) | (refine And.intro ?_ ?_; focus (first | omega | ((repeat (first | exact Sub.refl _ | (refine Sub.drop ?_ ?_; focus (simp only [evN, *]; done)) | refine Sub.both ?_)); done) | (simp_all; done) | (simp_all; omega)))))
      refine loopF_of (fun k s σ' => ∃ (q A : Nat) (h : Nat → Nat), Hid (A = q * (2 * bs)) ∧ A ≤ n ∧ k = n - A ∧ s 6 = .int .i64 bs ∧ s 7 = .int .i64 A ∧ s 8 = .int .i64 (A + 2 * bs : Nat) ∧ s 0 = .slice (some ⟨g, 0, none⟩) n c ∧ s 1 = .int .i64 n ∧ s 2 = .func (.func 95) #[] cs.toArray ∧ σ' = upd σ g (.row (rowN n h) (c * 1) 3) ∧ Hid (Mv 0 n f h ∧ Bls le h (2 * bs) n 0 q ∧ Bls le h bs n (2 * q) (2 * n + 2))) n (Sub.refl _)
        ⟨0, 0, h2, ⟨by rw [Nat.zero_mul]⟩, Nat.zero_le _, rfl, (by first | rfl | (simp only [↓putO_get, ↓putO_no, init_zero, init_succ, Nat.reduceEqDiff, ↓reduceIte, *]; done) | (simp only [↓putO_get, ↓putO_no, init_zero, init_succ, Nat.reduceEqDiff, ↓reduceIte, *]; rfl)), (by first | rfl | (simp only [↓putO_get, ↓putO_no, init_zero, init_succ, Nat.reduceEqDiff, ↓reduceIte, *]; done) | (simp only [↓putO_get, ↓putO_no, init_zero, init_succ, Nat.reduceEqDiff, ↓reduceIte, *]; rfl)), (by rw [Nat.zero_add]; exact (by first | rfl | (simp only [↓putO_get, ↓putO_no, init_zero, init_succ, Nat.reduceEqDiff, ↓reduceIte, *]; done) | (simp only [↓putO_get, ↓putO_no, init_zero, init_succ, Nat.reduceEqDiff, ↓reduceIte, *]; rfl))), (by first | rfl | (simp only [↓putO_get, ↓putO_no, init_zero, init_succ, Nat.reduceEqDiff, ↓reduceIte, *]; done) | (simp only [↓putO_get, ↓putO_no, init_zero, init_succ, Nat.reduceEqDiff, ↓reduceIte, *]; rfl)), (by first | rfl | (simp only [↓putO_get, ↓putO_no, init_zero, init_succ, Nat.reduceEqDiff, ↓reduceIte, *]; done) | (simp only [↓putO_get, ↓putO_no, init_zero, init_succ, Nat.reduceEqDiff, ↓reduceIte, *]; rfl)), (by first | rfl | (simp only [↓putO_get, ↓putO_no, init_zero, init_succ, Nat.reduceEqDiff, ↓reduceIte, *]; done) | (simp only [↓putO_get, ↓putO_no, init_zero, init_succ, Nat.reduceEqDiff, ↓reduceIte, *]; rfl)), rfl, ⟨HM2.out.1, fun q _ h => by omega, fun q _ h => HM2.out.2 q (Nat.zero_le _) h⟩⟩ ?_
      clear s6 s0 s1 s2 HM2 hd w1
      rintro k s τ ⟨q, A, h, hA, hAn, hk, s6, s7, s8, s0, s1, s2, hτ, HM⟩
      subst hτ
      have w2 : IntKind.i64.wrap ((A : Int) + (bs : Int)) = ((A + bs : Nat) : Int) := by rw [wi64 (by omega)]; rfl
      have hqq : 2 * q < 2 * n + 2 := by
        have h1 := hA.out
        have h2 : q ≤ q * (2 * bs) := Nat.le_mul_of_pos_right _ (by omega)
        omega
      have e1 : 2 * q * bs = A := by rw [hA.out, Nat.mul_comm 2 q, Nat.mul_assoc]
      have b1 := HM.out.2.2 (2 * q) (Nat.le_refl _) hqq
      rw [e1, Nat.succ_mul, e1] at b1
      have B1 := Hid.mk b1
      have E1 := Hid.mk e1
      clear b1 e1
      rcases Nat.lt_or_ge n (A + 2 * bs) with hgt | hle
      · have hd : decide (((A + 2 * bs : Nat) : Int) ≤ (n : Int)) = false := by simp; omega
        have w4 : IntKind.i64.wrap ((bs : Int) * 2) = ((bs * 2 : Nat) : Int) := by rw [wi64 (by omega)]; omega
        have e2 : bs * 2 = 2 * bs := by omega
        rw [e2] at w4
        clear e2
        rcases Nat.lt_or_ge (A + bs) n with c1 | c1
        · have hd2 : decide (((A + bs : Nat) : Int) < (n : Int)) = true := by simp; omega
          have b2 := HM.out.2.2 (2 * q + 1) (by omega) (by
            have h1 := hA.out
            have h2 : q ≤ q * (2 * bs) := Nat.le_mul_of_pos_right _ (by omega)
            omega)
          rw [show (2 * q + 1) * bs = A + bs by rw [Nat.succ_mul, E1.out], show (2 * q + 1 + 1) * bs = A + 2 * bs by rw [Nat.succ_mul, Nat.succ_mul, E1.out]; omega, Nat.min_eq_right (by omega)] at b2
          have b1 := B1.out
          rw [Nat.min_eq_left (by omega)] at b1
          have B3 := Hid.mk (And.intro b1 b2)
          clear b1 b2
          (repeat' (first | (simp +contextual -dsimp only [*, ↓reduceIte, ↓evP, evQ, splice_nil, splice_zero, splice_skip, Nat.reduceAdd, Nat.reduceEqDiff, Nat.reduceLeDiff, Nat.reduceMul, reduceCtorEq, Int.reduceLT, Int.reduceLE, Int.reduceGT, Int.reduceGE, Int.reduceEq, Int.reduceNeg]) | (refine condF_split (fun hc => ?_) (fun hc => ?_) <;> (try simp only [Bool.not_eq_true', Bool.not_eq_false', Bool.and_eq_true, Bool.or_eq_false_iff] at hc)) | (intro _; intros) | (refine And.intro ?_ ?_; focus (first | omega | ((repeat (first | exact Sub.refl _ | (refine Sub.drop ?_ ?_; focus (simp only [evN, *]; done)) | refine Sub.both ?_)); done) | (simp_all; done) | (simp_all; omega)))))
          refine callF_of (sym142 HH.out.1 hn n (a := A) (m := A + bs) (b := n) (by omega) (by omega) c1 (Nat.le_refl _) (HH.out.2.mv HM.out.1 (Nat.le_refl _)) B3.out.1 B3.out.2) ?_
          rintro u σ' ⟨h3, hM3, hS3, rfl⟩
          have HM3 : Hid (Mv 0 n f h3 ∧ Bls le h3 (2 * bs) n 0 (2 * n + 2)) := ⟨HM.out.1.trans (hM3.mono (Nat.zero_le _) (Nat.le_refl _)), (HM.out.2.1.step hA.out (Nat.min_eq_right (by omega)).symm hM3 hS3).all (by rw [Nat.succ_mul q, ← hA.out]; omega) _⟩
          clear hM3 hS3
          (repeat' (first | (simp +contextual -dsimp only [*, ↓reduceIte, ↓evP, evQ, splice_nil, splice_zero, splice_skip, Nat.reduceAdd, Nat.reduceEqDiff, Nat.reduceLeDiff, Nat.reduceMul, reduceCtorEq, Int.reduceLT, Int.reduceLE, Int.reduceGT, Int.reduceGE, Int.reduceEq, Int.reduceNeg]) | (refine condF_split (fun hc => ?_) (fun hc => ?_) <;> (try simp only [Bool.not_eq_true', Bool.not_eq_false', Bool.and_eq_true, Bool.or_eq_false_iff] at hc)) | (intro _; intros) | (refine And.intro ?_ ?_; focus (first | omega | ((repeat (first | exact Sub.refl _ | (refine Sub.drop ?_ ?_; focus (simp only [evN, *]; done)) | refine Sub.both ?_)); done) | (simp_all; done) | (simp_all; omega)))))
          refine nextF_of (n - 2 * bs) (by omega) (Sub.refl _) ⟨2 * bs, h3, by omega, rfl, by omega, (by first | rfl | (simp only [↓putO_get, ↓putO_no, init_zero, init_succ, Nat.reduceEqDiff, ↓reduceIte, *]; done) | (simp only [↓putO_get, ↓putO_no, init_zero, init_succ, Nat.reduceEqDiff, ↓reduceIte, *]; rfl)), (by first | rfl | (simp only [↓putO_get, ↓putO_no, init_zero, init_succ, Nat.reduceEqDiff, ↓reduceIte, *]; done) | (simp only [↓putO_get, ↓putO_no, init_zero, init_succ, Nat.reduceEqDiff, ↓reduceIte, *]; rfl)), (by first | rfl | (simp only [↓putO_get, ↓putO_no, init_zero, init_succ, Nat.reduceEqDiff, ↓reduceIte, *]; done) | (simp only [↓putO_get, ↓putO_no, init_zero, init_succ, Nat.reduceEqDiff, ↓reduceIte, *]; rfl)), (by first | rfl | (simp only [↓putO_get, ↓putO_no, init_zero, init_succ, Nat.reduceEqDiff, ↓reduceIte, *]; done) | (simp only [↓putO_get, ↓putO_no, init_zero, init_succ, Nat.reduceEqDiff, ↓reduceIte, *]; rfl)), rfl, HM3⟩
        · have hd2 : decide (((A + bs : Nat) : Int) < (n : Int)) = false := by simp; omega
          have b1 := B1.out
          rw [Nat.min_eq_right c1] at b1
          have HM3 : Hid (Mv 0 n f h ∧ Bls le h (2 * bs) n 0 (2 * n + 2)) := ⟨HM.out.1, (HM.out.2.1.step hA.out (Nat.min_eq_right (by omega)).symm (Mv.refl _ _ _) b1).all (by rw [Nat.succ_mul q, ← hA.out]; omega) _⟩
          clear b1
          (repeat' (first | (simp +contextual -dsimp only [*, ↓reduceIte, ↓evP, evQ, splice_nil, splice_zero, splice_skip, Nat.reduceAdd, Nat.reduceEqDiff, Nat.reduceLeDiff, Nat.reduceMul, reduceCtorEq, Int.reduceLT, Int.reduceLE, Int.reduceGT, Int.reduceGE, Int.reduceEq, Int.reduceNeg]) | (refine condF_split (fun hc => ?_) (fun hc => ?_) <;> (try simp only [Bool.not_eq_true', Bool.not_eq_false', Bool.and_eq_true, Bool.or_eq_false_iff] at hc)) | (intro _; intros) | (refine And.intro ?_ ?_; focus (first | omega | ((repeat (first | exact Sub.refl _ | (refine Sub.drop ?_ ?_; focus (simp only [evN, *]; done)) | refine Sub.both ?_)); done) | (simp_all; done) | (simp_all; omega)))))
          refine nextF_of (n - 2 * bs) (by omega) (Sub.refl _) ⟨2 * bs, h, by omega, rfl, by omega, (by first | rfl | (simp only [↓putO_get, ↓putO_no, init_zero, init_succ, Nat.reduceEqDiff, ↓reduceIte, *]; done) | (simp only [↓putO_get, ↓putO_no, init_zero, init_succ, Nat.reduceEqDiff, ↓reduceIte, *]; rfl)), (by first | rfl | (simp only [↓putO_get, ↓putO_no, init_zero, init_succ, Nat.reduceEqDiff, ↓reduceIte, *]; done) | (simp only [↓putO_get, ↓putO_no, init_zero, init_succ, Nat.reduceEqDiff, ↓reduceIte, *]; rfl)), (by first | rfl | (simp only [↓putO_get, ↓putO_no, init_zero, init_succ, Nat.reduceEqDiff, ↓reduceIte, *]; done) | (simp only [↓putO_get, ↓putO_no, init_zero, init_succ, Nat.reduceEqDiff, ↓reduceIte, *]; rfl)), (by first | rfl | (simp only [↓putO_get, ↓putO_no, init_zero, init_succ, Nat.reduceEqDiff, ↓reduceIte, *]; done) | (simp only [↓putO_get, ↓putO_no, init_zero, init_succ, Nat.reduceEqDiff, ↓reduceIte, *]; rfl)), rfl, HM3⟩
      · have hd : decide (((A + 2 * bs : Nat) : Int) ≤ (n : Int)) = true := by simp; omega
        have w3 : IntKind.i64.wrap (2 * (bs : Int)) = ((2 * bs : Nat) : Int) := by rw [wi64 (by omega)]; omega
        have w4 : IntKind.i64.wrap (((A + 2 * bs : Nat) : Int) + ((2 * bs : Nat) : Int)) = ((A + 2 * bs + 2 * bs : Nat) : Int) := by rw [wi64 (by omega)]; rfl
        have b2 := HM.out.2.2 (2 * q + 1) (by omega) (by
          have h1 := hA.out
          have h2 : q ≤ q * (2 * bs) := Nat.le_mul_of_pos_right _ (by omega)
          omega)
        rw [show (2 * q + 1) * bs = A + bs by rw [Nat.succ_mul, E1.out], show (2 * q + 1 + 1) * bs = A + 2 * bs by rw [Nat.succ_mul, Nat.succ_mul, E1.out]; omega, Nat.min_eq_left hle] at b2
        have b1 := B1.out
        rw [Nat.min_eq_left (by omega)] at b1
        have B3 := Hid.mk (And.intro b1 b2)
        clear b1 b2
        (repeat' (first | (simp +contextual -dsimp only [*, ↓reduceIte, ↓evP, evQ, splice_nil, splice_zero, splice_skip, Nat.reduceAdd, Nat.reduceEqDiff, Nat.reduceLeDiff, Nat.reduceMul, reduceCtorEq, Int.reduceLT, Int.reduceLE, Int.reduceGT, Int.reduceGE, Int.reduceEq, Int.reduceNeg]) | (refine condF_split (fun hc => ?_) (fun hc => ?_) <;> (try simp only [Bool.not_eq_true', Bool.not_eq_false', Bool.and_eq_true, Bool.or_eq_false_iff] at hc)) | (intro _; intros) | (refine And.intro ?_ ?_; focus (first | omega | ((repeat (first | exact Sub.refl _ | (refine Sub.drop ?_ ?_; focus (simp only [evN, *]; done)) | refine Sub.both ?_)); done) | (simp_all; done) | (simp_all; omega)))))
        refine callF_of (sym142 HH.out.1 hn n (a := A) (m := A + bs) (b := A + 2 * bs) (by omega) (by omega) (by omega) hle (HH.out.2.mv HM.out.1 (Nat.le_refl _)) B3.out.1 B3.out.2) ?_
        rintro u σ' ⟨h3, hM3, hS3, rfl⟩
        have HM3 : Hid (Mv 0 n f h3 ∧ Bls le h3 (2 * bs) n 0 (q + 1) ∧ Bls le h3 bs n (2 * (q + 1)) (2 * n + 2)) := ⟨HM.out.1.trans (hM3.mono (Nat.zero_le _) hle), HM.out.2.1.step hA.out (Nat.min_eq_left hle).symm hM3 hS3, HM.out.2.2.part (by omega) (by rw [show 2 * (q + 1) * bs = A + 2 * bs by rw [show 2 * (q + 1) = 2 * q + 1 + 1 by omega, Nat.succ_mul, Nat.succ_mul, E1.out]; omega]; exact Nat.le_refl _) hM3⟩
        clear hM3 hS3
        (repeat' (first | (simp +contextual -dsimp only [*, ↓reduceIte, ↓evP, evQ, splice_nil, splice_zero, splice_skip, Nat.reduceAdd, Nat.reduceEqDiff, Nat.reduceLeDiff, Nat.reduceMul, reduceCtorEq, Int.reduceLT, Int.reduceLE, Int.reduceGT, Int.reduceGE, Int.reduceEq, Int.reduceNeg]) | (refine condF_split (fun hc => ?_) (fun hc => ?_) <;> (try simp only [Bool.not_eq_true', Bool.not_eq_false', Bool.and_eq_true, Bool.or_eq_false_iff] at hc)) | (intro _; intros) | (refine And.intro ?_ ?_; focus (first | omega | ((repeat (first | exact Sub.refl _ | (refine Sub.drop ?_ ?_; focus (simp only [evN, *]; done)) | refine Sub.both ?_)); done) | (simp_all; done) | (simp_all; omega)))))
        refine nextF_of (n - (A + 2 * bs)) (by omega) (Sub.refl _) ⟨q + 1, A + 2 * bs, h3, ⟨by rw [Nat.succ_mul q, ← hA.out]⟩, hle, rfl, (by first | rfl | (simp only [↓putO_get, ↓putO_no, init_zero, init_succ, Nat.reduceEqDiff, ↓reduceIte, *]; done) | (simp only [↓putO_get, ↓putO_no, init_zero, init_succ, Nat.reduceEqDiff, ↓reduceIte, *]; rfl)), (by first | rfl | (simp only [↓putO_get, ↓putO_no, init_zero, init_succ, Nat.reduceEqDiff, ↓reduceIte, *]; done) | (simp only [↓putO_get, ↓putO_no, init_zero, init_succ, Nat.reduceEqDiff, ↓reduceIte, *]; rfl)), (by first | rfl | (simp only [↓putO_get, ↓putO_no, init_zero, init_succ, Nat.reduceEqDiff, ↓reduceIte, *]; done) | (simp only [↓putO_get, ↓putO_no, init_zero, init_succ, Nat.reduceEqDiff, ↓reduceIte, *]; rfl)), (by first | rfl | (simp only [↓putO_get, ↓putO_no, init_zero, init_succ, Nat.reduceEqDiff, ↓reduceIte, *]; done) | (simp only [↓putO_get, ↓putO_no, init_zero, init_succ, Nat.reduceEqDiff, ↓reduceIte, *]; rfl)), (by first | rfl | (simp only [↓putO_get, ↓putO_no, init_zero, init_succ, Nat.reduceEqDiff, ↓reduceIte, *]; done) | (simp only [↓putO_get, ↓putO_no, init_zero, init_succ, Nat.reduceEqDiff, ↓reduceIte, *]; rfl)), (by first | rfl | (simp only [↓putO_get, ↓putO_no, init_zero, init_succ, Nat.reduceEqDiff, ↓reduceIte, *]; done) | (simp only [↓putO_get, ↓putO_no, init_zero, init_succ, Nat.reduceEqDiff, ↓reduceIte, *]; rfl)), rfl, HM3⟩
    · have hd : decide ((bs : Int) < (n : Int)) = false := by simp; omega
      have q := HM2.out.2.one (by omega) hge
      have Q := Hid.mk q
      clear q
      (repeat' (first | (simp +contextual -dsimp only [*, ↓reduceIte, ↓evP, evQ, splice_nil, splice_zero, splice_skip, Nat.reduceAdd, Nat.reduceEqDiff, Nat.reduceLeDiff, Nat.reduceMul, reduceCtorEq, Int.reduceLT, Int.reduceLE, Int.reduceGT, Int.reduceGE, Int.reduceEq, Int.reduceNeg]) | (refine condF_split (fun hc => ?_) (fun hc => ?_) <;> (try simp only [Bool.not_eq_true', Bool.not_eq_false', Bool.and_eq_true, Bool.or_eq_false_iff] at hc)) | (intro _; intros) | (refine And.intro ?_ ?_; focus (first | omega | ((repeat (first | exact Sub.refl _ | (refine Sub.drop ?_ ?_; focus (simp only [evN, *]; done)) | refine Sub.both ?_)); done) | (simp_all; done) | (simp_all; omega)))))
      exact endF_at ⟨h2, HM2.out.1, Q.out, rfl⟩
  · have hd : decide (((A + 20 : Nat) : Int) ≤ (n : Int)) = true := by simp; omega
    have w1 : IntKind.i64.wrap (((A + 20 : Nat) : Int) + 20) = ((A + 20 + 20 : Nat) : Int) := by rw [wi64 (by omega)]; rfl
    (repeat' (first | (simp +contextual -dsimp only [*, ↓reduceIte, ↓evP, evQ, splice_nil, splice_zero, splice_skip, Nat.reduceAdd, Nat.reduceEqDiff, Nat.reduceLeDiff, Nat.reduceMul, reduceCtorEq, Int.reduceLT, Int.reduceLE, Int.reduceGT, Int.reduceGE, Int.reduceEq, Int.reduceNeg]) | (refine condF_split (fun hc => ?_) (fun hc => ?_) <;> (try simp only [Bool.not_eq_true', Bool.not_eq_false', Bool.and_eq_true, Bool.or_eq_false_iff] at hc)) | (intro _; intros) | (refine And.intro ?_ ?_; focus (first | omega | ((repeat (first | exact Sub.refl _ | (refine Sub.drop ?_ ?_; focus (simp only [evN, *]; done)) | refine Sub.both ?_)); done) | (simp_all; done) | (simp_all; omega)))))
    refine callF_of (ins141 HH.out.1 (a := A) (b := A + 20) (by omega) hle hn (HH.out.2.mv HM.out.1 (Nat.le_refl _))) ?_
    rintro u σ' ⟨h1, hM1, hS1, rfl⟩
    have HM1 : Hid (Mv 0 n f h1 ∧ Bls le h1 20 n 0 (q + 1)) := ⟨HM.out.1.trans (hM1.mono (Nat.zero_le _) hle), HM.out.2.step hA.out (Nat.min_eq_left hle).symm hM1 hS1⟩
    clear hM1 hS1
    (repeat' (first | (simp +contextual -dsimp only [*, ↓reduceIte, ↓evP, evQ, splice_nil, splice_zero, splice_skip, Nat.reduceAdd, Nat.reduceEqDiff, Nat.reduceLeDiff, Nat.reduceMul, reduceCtorEq, Int.reduceLT, Int.reduceLE, Int.reduceGT, Int.reduceGE, Int.reduceEq, Int.reduceNeg]) | (refine condF_split (fun hc => ?_) (fun hc => ?_) <;> (try simp only [Bool.not_eq_true', Bool.not_eq_false', Bool.and_eq_true, Bool.or_eq_false_iff] at hc)) | (intro _; intros) | (refine And.intro ?_ ?_; focus (first | omega | ((repeat (first | exact Sub.refl _ | (refine Sub.drop ?_ ?_; focus (simp only [evN, *]; done)) | refine Sub.both ?_)); done) | (simp_all; done) | (simp_all; omega)))))
    refine nextF_of (n - (A + 20)) (by omega) (Sub.refl _) ⟨q + 1, A + 20, h1, ⟨by rw [Nat.succ_mul q, ← hA.out]⟩, hle, rfl, (by first | rfl | (simp only [↓putO_get, ↓putO_no, init_zero, init_succ, Nat.reduceEqDiff, ↓reduceIte, *]; done) | (simp only [↓putO_get, ↓putO_no, init_zero, init_succ, Nat.reduceEqDiff, ↓reduceIte, *]; rfl)), (by first | rfl | (simp only [↓putO_get, ↓putO_no, init_zero, init_succ, Nat.reduceEqDiff, ↓reduceIte, *]; done) | (simp only [↓putO_get, ↓putO_no, init_zero, init_succ, Nat.reduceEqDiff, ↓reduceIte, *]; rfl)), (by first | rfl | (simp only [↓putO_get, ↓putO_no, init_zero, init_succ, Nat.reduceEqDiff, ↓reduceIte, *]; done) | (simp only [↓putO_get, ↓putO_no, init_zero, init_succ, Nat.reduceEqDiff, ↓reduceIte, *]; rfl)), (by first | rfl | (simp only [↓putO_get, ↓putO_no, init_zero, init_succ, Nat.reduceEqDiff, ↓reduceIte, *]; done) | (simp only [↓putO_get, ↓putO_no, init_zero, init_succ, Nat.reduceEqDiff, ↓reduceIte, *]; rfl)), (by first | rfl | (simp only [↓putO_get, ↓putO_no, init_zero, init_succ, Nat.reduceEqDiff, ↓reduceIte, *]; done) | (simp only [↓putO_get, ↓putO_no, init_zero, init_succ, Nat.reduceEqDiff, ↓reduceIte, *]; rfl)), (by first | rfl | (simp only [↓putO_get, ↓putO_no, init_zero, init_succ, Nat.reduceEqDiff, ↓reduceIte, *]; done) | (simp only [↓putO_get, ↓putO_no, init_zero, init_succ, Nat.reduceEqDiff, ↓reduceIte, *]; rfl)), rfl, HM1⟩
theorem sortStable94 {σ : Hp} {g n c N : Nat} {f : Nat → Nat} {cs : List Value} {cm : Nat → Nat → Int} {le : Nat → Nat → Prop} (HC : CmpAt σ g N cs cm le) (hn : n ≤ 1099511627776) (hN : InN N n f) :
    ACalls Try.prog 94 #[.slice (some ⟨g, 0, none⟩) n c, .func (.func 95) #[] cs.toArray] (upd σ g (.row (rowN n f) (c * 1) 3)) fun u σ' => ∃ f', Mv 0 n f f' ∧ So le f' 0 n ∧ σ' = upd σ g (.row (rowN n f') (c * 1) 3) := by
  have HH := Hid.mk (And.intro HC hN)
  clear HC hN
  (refine acalls_F ok94 (by simp) ?_; unfold c94 r94)
  (repeat' (first | (simp +contextual -dsimp only [*, ↓reduceIte, ↓evP, evQ, splice_nil, splice_zero, splice_skip, Nat.reduceAdd, Nat.reduceEqDiff, Nat.reduceLeDiff, Nat.reduceMul, reduceCtorEq, Int.reduceLT, Int.reduceLE, Int.reduceGT, Int.reduceGE, Int.reduceEq, Int.reduceNeg]) | (refine condF_split (fun hc => ?_) (fun hc => ?_) <;> (try simp only [Bool.not_eq_true', Bool.not_eq_false', Bool.and_eq_true, Bool.or_eq_false_iff] at hc)) | (intro _; intros) | (refine And.intro ?_ ?_; focus (first | omega | ((repeat (first | exact Sub.refl _ | (refine Sub.drop ?_ ?_; focus (simp only [evN, *]; done)) | refine Sub.both ?_)); done) | (simp_all; done) | (simp_all; omega)))))
  refine callF_of (stable114 HH.out.1 hn HH.out.2) ?_
  rintro u σ' ⟨h1, hM1, hS1, rfl⟩
  have HM1 := Hid.mk (And.intro hM1 hS1)
  clear hM1 hS1
  simp +contextual -dsimp only [*, ↓reduceIte, ↓evP, evQ, splice_nil, splice_zero, splice_skip, Nat.reduceAdd, Nat.reduceEqDiff, Nat.reduceLeDiff, Nat.reduceMul, reduceCtorEq, Int.reduceLT, Int.reduceLE, Int.reduceGT, Int.reduceGE, Int.reduceEq, Int.reduceNeg]
  exact endF_at ⟨h1, HM1.out.1, HM1.out.2, rfl⟩
set_option maxRecDepth 100000 in
theorem closure95 {σ : Hp} {bo bl : Nat} {A : Option Addr} {c : Nat} {L : List En} (ho : Go.Sp.rd σ bo 0 = some (.func (.func 72) #[] #[])) (hl : Go.Sp.rd σ bl 0 = some (.slice A L.length c)) (hro : RoRows 8 En.cells σ (.slice A L.length c) L) {x y : Nat} (hx : x < L.length) (hy : y < L.length) :
    ACalls Try.prog 95 #[.int .i64 x, .int .i64 y, .pointer (some ⟨bo, 0, none⟩), .pointer (some ⟨bl, 0, none⟩)] σ fun u σ' => u = .int .i64 (cmpL (atE L x).rk (atE L y).rk) ∧ σ' = σ := by
  have hx' := atE_get hx
  have hy' := atE_get hy
  obtain ⟨b, o, e, h1⟩ := hro.get hx
  subst e
  rw [show L[x] = atE L x by rw [List.getElem?_eq_getElem hx] at hx'; exact Option.some.inj hx'] at h1
  obtain ⟨b', o', e, h2⟩ := hro.get hy
  cases e
  rw [show L[y] = atE L y by rw [List.getElem?_eq_getElem hy] at hy'; exact Option.some.inj hy'] at h2
  have hx1 : (x : Int) < (L.length : Int) := by omega
  have hy1 : (y : Int) < (L.length : Int) := by omega
  have q := Hid.mk (compare72 (atE L x) (atE L y) σ)
  clear hx' hy' hro
  (refine acalls_F ok95 (by simp) ?_; unfold c95 r95)
  (repeat' (first | (simp +contextual -dsimp only [*, ↓reduceIte, ↓evP, evQ, splice, Nat.reduceAdd, Nat.reduceEqDiff, Nat.reduceLeDiff, Nat.reduceMul, reduceCtorEq, Int.reduceLT, Int.reduceLE, Int.reduceGT, Int.reduceGE, Int.reduceEq, Int.reduceNeg]) | (refine condF_split (fun hc => ?_) (fun hc => ?_) <;> (try simp only [Bool.not_eq_true', Bool.not_eq_false', Bool.and_eq_true, Bool.or_eq_false_iff] at hc)) | (intro _; intros) | (refine And.intro ?_ ?_; focus (first | omega | ((repeat (first | exact Sub.refl _ | (refine Sub.drop ?_ ?_; focus (simp only [evN, *]; done)) | refine Sub.both ?_)); done) | (simp_all; done) | (simp_all; omega)))))
  refine vcallF_mk (by kernel_rfl) ?_
  refine callF_v q.out ?_
  (repeat' (first | (simp +contextual -dsimp only [*, ↓reduceIte, ↓evP, evQ, splice, Nat.reduceAdd, Nat.reduceEqDiff, Nat.reduceLeDiff, Nat.reduceMul, reduceCtorEq, Int.reduceLT, Int.reduceLE, Int.reduceGT, Int.reduceGE, Int.reduceEq, Int.reduceNeg]) | (refine condF_split (fun hc => ?_) (fun hc => ?_) <;> (try simp only [Bool.not_eq_true', Bool.not_eq_false', Bool.and_eq_true, Bool.or_eq_false_iff] at hc)) | (intro _; intros) | (refine And.intro ?_ ?_; focus (first | omega | ((repeat (first | exact Sub.refl _ | (refine Sub.drop ?_ ?_; focus (simp only [evN, *]; done)) | refine Sub.both ?_)); done) | (simp_all; done) | (simp_all; omega)))))
  all_goals (refine endF_det ?_ ?_; (focus ((try simp only [cond_true, cond_false, *]) <;> ((try simp only [decide_eq_true_eq, decide_eq_false_iff_not] at *) <;> first | rfl | (simp []; done) | (simp_all []; done) | (simp []; omega) | (simp []; (rw [Bool.eq_iff_iff]); simp; omega) | (simp_all [] <;> omega) | ((try unfold id); (rw [Value.bool.injEq, Bool.eq_iff_iff]); simp <;> omega) | ((try unfold id); (repeat' split) <;> simp_all <;> omega) | (simp_all [] <;> (repeat' split) <;> simp_all <;> omega)))); (focus ((try simp only [cond_true, cond_false, set_same, *]); exact (by (repeat (first | exact Sub.refl _ | (refine Sub.drop ?_ ?_; focus (simp only [evN, *]; done)) | refine Sub.both ?_)); done))))
def pC (i : Nat) : List Value := [.int .i64 (i : Nat)]
theorem pC_len (i : Nat) : (pC i).length = 1 := rfl
theorem rowN_flat (n : Nat) (f : Nat → Nat) : rowN n f = ((List.range n).map f).flatMap pC := by
  unfold rowN pC
  generalize List.range n = l
  induction l with
  | nil => rfl
  | cons a l ih => rw [List.map_cons, List.map_cons, List.flatMap_cons, ih]; rfl
theorem sub_off {σ τ : Hp} {b : Nat} (h : Same (fun _ => False) σ τ) (hb : σ b = none) (o : Blk) : Sub σ (upd (off τ b) b o) := fun k => by
  by_cases e : σ k = none
  · exact .inl e
  · right
    have hk : k ≠ b := fun x => e (by rw [x]; exact hb)
    rw [upd_ne _ _ hk]; unfold off; rw [if_neg hk]; exact (h k e (fun x => x)).symm
theorem cmpAt_of {σ τ : Hp} {bo bl b : Nat} {A : Option Addr} {c : Nat} {L : List En} (ho : Go.Sp.rd σ bo 0 = some (.func (.func 72) #[] #[])) (hl : Go.Sp.rd σ bl 0 = some (.slice A L.length c)) (hro : RoRows 8 En.cells σ (.slice A L.length c) L) (h : Same (fun _ => False) σ τ) (hb : σ b = none) :
    CmpAt (off τ b) b L.length [.pointer (some ⟨bo, 0, none⟩), .pointer (some ⟨bl, 0, none⟩)] (fun x y => cmpL (atE L x).rk (atE L y).rk) (leP L) := by
  refine ⟨fun o x y hx hy => ?_, fun x y _ _ => ?_, leP_lin L⟩
  · have hs := sub_off h hb o
    exact closure95 (rd_sub hs ho) (rd_sub hs hl) (hro.sub hs) hx hy
  · rw [cmpL_lt]; unfold leP En.le
    exact ⟨fun h1 h2 => h2 h1, fun h1 => Classical.byContradiction h1⟩
set_option maxRecDepth 100000 in
set_option maxHeartbeats 4000000 in
theorem places71 {σ : Hp} {A : Option Addr} {c : Nat} {L : List En} (hro : RoRows 8 En.cells σ (.slice A L.length c) L) (h0 : 0 < L.length) (hn : L.length ≤ 1048576) :
    ACalls Try.prog 71 #[.slice A L.length c, .func (.func 72) #[] #[]] σ fun u σ' => ∃ b c' f', σ b = none ∧ L.length ≤ c' ∧ u = .slice (some ⟨b, 0, none⟩) L.length c' ∧ Mv 0 L.length id f' ∧ So (leP L) f' 0 L.length ∧ σ' = upd σ b (.row (rowN L.length f') (c' * 1) 3) := by
  have HV := Hid.mk hro
  clear hro
  (refine acalls_F ok71 (by simp) ?_; unfold c71 r71)
  (repeat' (first | (simp +contextual -dsimp only [*, ↓reduceIte, ↓evP, evQ, splice, Nat.reduceAdd, Nat.reduceEqDiff, Nat.reduceLeDiff, Nat.reduceMul, reduceCtorEq, Int.reduceLT, Int.reduceLE, Int.reduceGT, Int.reduceGE, Int.reduceEq, Int.reduceNeg]) | (refine condF_split (fun hc => ?_) (fun hc => ?_) <;> (try simp only [Bool.not_eq_true', Bool.not_eq_false', Bool.and_eq_true, Bool.or_eq_false_iff] at hc)) | (intro _; intros) | (refine And.intro ?_ ?_; focus (first | omega | ((repeat (first | exact Sub.refl _ | (refine Sub.drop ?_ ?_; focus (simp only [evN, *]; done)) | refine Sub.both ?_)); done) | (simp_all; done) | (simp_all; omega)))))
  rename_i l l0 o o1 o1' o0
  obtain ⟨σ1, hσ1⟩ : ∃ σ1, σ1 = upd (upd σ l (.cells [.slice A L.length c] 83)) o (.cells (cl (.func (.func 72) #[] #[])) 162) := ⟨_, rfl⟩
  rw [← hσ1]
  have ho : Go.Sp.rd σ1 o 0 = some (.func (.func 72) #[] #[]) := by rw [hσ1]; unfold Go.Sp.rd; rw [upd_same]; rfl
  have hl : Go.Sp.rd σ1 l 0 = some (.slice A L.length c) := by rw [hσ1]; unfold Go.Sp.rd; rw [upd_ne _ _ o1', upd_same]; rfl
  have hs1 : Same (fun _ => False) σ σ1 := by rw [hσ1]; exact Same.updNew o0 (Same.updNew l0 (Same.refl _ _))
  have hl1 : σ1 l ≠ none := by rw [hσ1, upd_ne _ _ o1', upd_same]; simp
  have HS := Hid.mk (And.intro ho (And.intro hl (And.intro hs1 (HV.out.sub hs1.sub))))
  have KN := Hid.mk hl1
  clear hσ1 ho hl hs1 hl1
  refine loopF_of (fun k s τ => ∃ (i : Nat) (v : Value), i ≤ L.length ∧ k = L.length - i ∧ s 9 = .int .i64 i ∧ s 8 = .int .i64 L.length ∧ s 5 = v ∧ s 2 = .pointer (some ⟨l, 0, none⟩) ∧ s 3 = .pointer (some ⟨o, 0, none⟩) ∧ RowsAt 3 1 pC τ v (List.range i) ∧ Made σ1 τ v) L.length (Sub.refl _)
    ⟨0, .slice none 0 0, by omega, rfl, (by first | rfl | (simp only [↓putO_get, ↓putO_no, init_zero, init_succ, Nat.reduceEqDiff, ↓reduceIte, *]; done) | (simp only [↓putO_get, ↓putO_no, init_zero, init_succ, Nat.reduceEqDiff, ↓reduceIte, *]; rfl)), (by first | rfl | (simp only [↓putO_get, ↓putO_no, init_zero, init_succ, Nat.reduceEqDiff, ↓reduceIte, *]; done) | (simp only [↓putO_get, ↓putO_no, init_zero, init_succ, Nat.reduceEqDiff, ↓reduceIte, *]; rfl)), (by first | rfl | (simp only [↓putO_get, ↓putO_no, init_zero, init_succ, Nat.reduceEqDiff, ↓reduceIte, *]; done) | (simp only [↓putO_get, ↓putO_no, init_zero, init_succ, Nat.reduceEqDiff, ↓reduceIte, *]; rfl)), (by first | rfl | (simp only [↓putO_get, ↓putO_no, init_zero, init_succ, Nat.reduceEqDiff, ↓reduceIte, *]; done) | (simp only [↓putO_get, ↓putO_no, init_zero, init_succ, Nat.reduceEqDiff, ↓reduceIte, *]; rfl)), (by first | rfl | (simp only [↓putO_get, ↓putO_no, init_zero, init_succ, Nat.reduceEqDiff, ↓reduceIte, *]; done) | (simp only [↓putO_get, ↓putO_no, init_zero, init_succ, Nat.reduceEqDiff, ↓reduceIte, *]; rfl)), .inl ⟨rfl, rfl⟩, Made.nil _⟩ ?_
  rintro k s τ ⟨i, v, hi, hk, s9, s8, s5, s2, s3, hr, hm⟩
  rcases Nat.lt_or_ge i L.length with hlt | hge
  · have hd : decide ((i : Int) < (L.length : Int)) = true := by simp; omega
    have e1 : IntKind.i64.wrap ((i : Int) + 1) = ((i + 1 : Nat) : Int) := by rw [wi64 (by omega)]; rfl
    have HR := Hid.mk (And.intro hr hm)
    clear hr hm
    (repeat' (first | (simp +contextual -dsimp only [*, ↓reduceIte, ↓evP, evQ, splice, Nat.reduceAdd, Nat.reduceEqDiff, Nat.reduceLeDiff, Nat.reduceMul, reduceCtorEq, Int.reduceLT, Int.reduceLE, Int.reduceGT, Int.reduceGE, Int.reduceEq, Int.reduceNeg]) | (refine condF_split (fun hc => ?_) (fun hc => ?_) <;> (try simp only [Bool.not_eq_true', Bool.not_eq_false', Bool.and_eq_true, Bool.or_eq_false_iff] at hc)) | (intro _; intros) | (refine And.intro ?_ ?_; focus (first | omega | ((repeat (first | exact Sub.refl _ | (refine Sub.drop ?_ ?_; focus (simp only [evN, *]; done)) | refine Sub.both ?_)); done) | (simp_all; done) | (simp_all; omega)))))
    rename_i n n0
    have hr := HR.out.1.fresh n0 (.row [.int .i64 (i : Nat)] 1 3)
    have hrl : (List.range i).length = i := List.length_range
    refine app_row (ys := [i]) pC_len (fun _ => rfl) hr (by first | (simp only [Nat.reduceMul, Nat.one_mul, Nat.zero_mul, rdn_row, rdn_same, rdn_ne, seg_zero, seg_cons, seg_skip, Option.map_some, not_false_eq_true, *]; done) | (simp only [Nat.reduceMul, Nat.one_mul, Nat.zero_mul, rdn_row, rdn_same, rdn_ne, seg_zero, seg_cons, seg_skip, Option.map_some, not_false_eq_true, *]; exact rfl)) rfl (by omega) (by omega) (by unfold maxLen; omega) ?_
    intro v' σ' hv' hG
    (repeat' (first | (simp +contextual -dsimp only [*, ↓reduceIte, ↓evP, evQ, splice, Nat.reduceAdd, Nat.reduceEqDiff, Nat.reduceLeDiff, Nat.reduceMul, reduceCtorEq, Int.reduceLT, Int.reduceLE, Int.reduceGT, Int.reduceGE, Int.reduceEq, Int.reduceNeg]) | (refine condF_split (fun hc => ?_) (fun hc => ?_) <;> (try simp only [Bool.not_eq_true', Bool.not_eq_false', Bool.and_eq_true, Bool.or_eq_false_iff] at hc)) | (intro _; intros) | (refine And.intro ?_ ?_; focus (first | omega | ((repeat (first | exact Sub.refl _ | (refine Sub.drop ?_ ?_; focus (simp only [evN, *]; done)) | refine Sub.both ?_)); done) | (simp_all; done) | (simp_all; omega)))))
    refine nextF_of (L.length - (i + 1)) (by omega) (Sub.refl _) ⟨i + 1, v', by omega, rfl, (by first | rfl | (simp only [↓putO_get, ↓putO_no, init_zero, init_succ, Nat.reduceEqDiff, ↓reduceIte, *]; done) | (simp only [↓putO_get, ↓putO_no, init_zero, init_succ, Nat.reduceEqDiff, ↓reduceIte, *]; rfl)), (by first | rfl | (simp only [↓putO_get, ↓putO_no, init_zero, init_succ, Nat.reduceEqDiff, ↓reduceIte, *]; done) | (simp only [↓putO_get, ↓putO_no, init_zero, init_succ, Nat.reduceEqDiff, ↓reduceIte, *]; rfl)), (by first | rfl | (simp only [↓putO_get, ↓putO_no, init_zero, init_succ, Nat.reduceEqDiff, ↓reduceIte, *]; done) | (simp only [↓putO_get, ↓putO_no, init_zero, init_succ, Nat.reduceEqDiff, ↓reduceIte, *]; rfl)), (by first | rfl | (simp only [↓putO_get, ↓putO_no, init_zero, init_succ, Nat.reduceEqDiff, ↓reduceIte, *]; done) | (simp only [↓putO_get, ↓putO_no, init_zero, init_succ, Nat.reduceEqDiff, ↓reduceIte, *]; rfl)), (by first | rfl | (simp only [↓putO_get, ↓putO_no, init_zero, init_succ, Nat.reduceEqDiff, ↓reduceIte, *]; done) | (simp only [↓putO_get, ↓putO_no, init_zero, init_succ, Nat.reduceEqDiff, ↓reduceIte, *]; rfl)), by rw [List.range_succ]; exact hv', (HR.out.2.beside n0 _).grew hG⟩
  · obtain rfl : i = L.length := by omega
    have hd : decide ((L.length : Int) < (L.length : Int)) = false := by simp
    rcases hr with ⟨_, hnil⟩ | ⟨b, c', hv, hc', hb⟩
    · exfalso
      have := congrArg List.length hnil
      rw [List.length_range, List.length_nil] at this; omega
    · rw [List.length_range] at hv hc'
      subst hv
      have hb1 : σ1 b = none := hm.2 b rfl
      have hb0 : σ b = none := HS.out.2.2.1.sub.noneAt hb1
      have hrow : (List.range L.length).flatMap pC = rowN L.length id := by rw [rowN_flat, List.map_id]
      rw [hrow] at hb
      have HC := Hid.mk (cmpAt_of HS.out.1 HS.out.2.1 HS.out.2.2.2 hm.1 hb1)
      have hτ := off_upd hb
      have HB := Hid.mk (And.intro hb0 (And.intro hc' (sub_off (HS.out.2.2.1.trans hm.1 (fun _ _ h => h)) hb0)))
      clear hb hm hb1 hb0 hrow hc'
      rw [hτ]
      clear hτ
      (repeat' (first | (simp +contextual -dsimp only [*, ↓reduceIte, ↓evP, evQ, splice, Nat.reduceAdd, Nat.reduceEqDiff, Nat.reduceLeDiff, Nat.reduceMul, reduceCtorEq, Int.reduceLT, Int.reduceLE, Int.reduceGT, Int.reduceGE, Int.reduceEq, Int.reduceNeg]) | (refine condF_split (fun hc => ?_) (fun hc => ?_) <;> (try simp only [Bool.not_eq_true', Bool.not_eq_false', Bool.and_eq_true, Bool.or_eq_false_iff] at hc)) | (intro _; intros) | (refine And.intro ?_ ?_; focus (first | omega | ((repeat (first | exact Sub.refl _ | (refine Sub.drop ?_ ?_; focus (simp only [evN, *]; done)) | refine Sub.both ?_)); done) | (simp_all; done) | (simp_all; omega)))))
      refine callF_of (sortStable94 HC.out (by omega) (fun k hk => hk)) ?_
      rintro u σ' ⟨f', hM, hS, rfl⟩
      have HF := Hid.mk (And.intro hM hS)
      clear hM hS
      (repeat' (first | (simp +contextual -dsimp only [*, ↓reduceIte, ↓evP, evQ, splice, Nat.reduceAdd, Nat.reduceEqDiff, Nat.reduceLeDiff, Nat.reduceMul, reduceCtorEq, Int.reduceLT, Int.reduceLE, Int.reduceGT, Int.reduceGE, Int.reduceEq, Int.reduceNeg]) | (refine condF_split (fun hc => ?_) (fun hc => ?_) <;> (try simp only [Bool.not_eq_true', Bool.not_eq_false', Bool.and_eq_true, Bool.or_eq_false_iff] at hc)) | (intro _; intros) | (refine And.intro ?_ ?_; focus (first | omega | ((repeat (first | exact Sub.refl _ | (refine Sub.drop ?_ ?_; focus (simp only [evN, *]; done)) | refine Sub.both ?_)); done) | (simp_all; done) | (simp_all; omega)))))
      refine endF_sub (τ := upd σ b (.row (rowN L.length f') (c' * 1) 3)) ?_ ⟨b, c', f', HB.out.1, HB.out.2.1, rfl, HF.out.1, HF.out.2, rfl⟩
      intro k
      by_cases e : k = b
      · subst e; exact .inr (by rw [upd_same, upd_same])
      · rw [upd_ne _ _ e]; exact HB.out.2.2 _ k
theorem order35 {σ : Hp} {A : Option Addr} {c : Nat} {L : List En} (hro : RoRows 8 En.cells σ (.slice A L.length c) L) (h0 : 0 < L.length) (hn : L.length ≤ 1048576) :
    ACalls Try.prog 35 #[.slice A L.length c] σ fun u σ' => ∃ b c' f', σ b = none ∧ L.length ≤ c' ∧ u = .slice (some ⟨b, 0, none⟩) L.length c' ∧ Mv 0 L.length id f' ∧ So (leP L) f' 0 L.length ∧ σ' = upd σ b (.row (rowN L.length f') (c' * 1) 3) := by
  have q := Hid.mk (places71 hro h0 hn)
  clear hro
  (refine acalls_F ok35 (by simp) ?_; unfold c35 r35)
  (repeat' (first | (simp +contextual -dsimp only [*, ↓reduceIte, ↓evP, evQ, splice, Nat.reduceAdd, Nat.reduceEqDiff, Nat.reduceLeDiff, Nat.reduceMul, reduceCtorEq, Int.reduceLT, Int.reduceLE, Int.reduceGT, Int.reduceGE, Int.reduceEq, Int.reduceNeg]) | (refine condF_split (fun hc => ?_) (fun hc => ?_) <;> (try simp only [Bool.not_eq_true', Bool.not_eq_false', Bool.and_eq_true, Bool.or_eq_false_iff] at hc)) | (intro _; intros) | (refine And.intro ?_ ?_; focus (first | omega | ((repeat (first | exact Sub.refl _ | (refine Sub.drop ?_ ?_; focus (simp only [evN, *]; done)) | refine Sub.both ?_)); done) | (simp_all; done) | (simp_all; omega)))))
  refine callF_of q.out ?_
  rintro u σ' ⟨b, c', f', h1, h2, rfl, h3, h4, rfl⟩
  have H := Hid.mk (And.intro h1 (And.intro h2 (And.intro h3 h4)))
  clear h1 h2 h3 h4
  simp +contextual -dsimp only [*, ↓reduceIte, ↓evP, evQ, splice, Nat.reduceAdd, Nat.reduceEqDiff, Nat.reduceLeDiff, Nat.reduceMul, reduceCtorEq, Int.reduceLT, Int.reduceLE, Int.reduceGT, Int.reduceGE, Int.reduceEq, Int.reduceNeg]
  exact endF_at ⟨b, c', f', H.out.1, H.out.2.1, rfl, H.out.2.2.1, H.out.2.2.2, rfl⟩
set_option maxRecDepth 100000 in
set_option maxHeartbeats 2000000 in
theorem victim37 {σ : Hp} {A : Option Addr} {c : Nat} {L : List En} (hro : RoRows 8 En.cells σ (.slice A L.length c) L) (h0 : 0 < L.length) (hn : L.length ≤ 1048576) :
    ACalls Try.prog 37 #[.slice A L.length c] σ fun u σ' => (∃ v : Nat, v < L.length ∧ u = .int .i64 v ∧ ∀ i, i < L.length → (atE L v).le (atE L i)) ∧ σ' = σ := by
  have HV := Hid.mk hro
  clear hro
  (refine acalls_F ok37 (by simp) ?_; unfold c37 r37)
  (repeat' (first | (simp +contextual -dsimp only [*, En.cells, ↓reduceIte, ↓evP, evQ, splice, Nat.reduceAdd, Nat.reduceEqDiff, Nat.reduceLeDiff, Nat.reduceMul, reduceCtorEq, Int.reduceLT, Int.reduceLE, Int.reduceGT, Int.reduceGE, Int.reduceEq, Int.reduceNeg]) | (refine condF_split (fun hc => ?_) (fun hc => ?_) <;> (try simp only [Bool.not_eq_true', Bool.not_eq_false', Bool.and_eq_true, Bool.or_eq_false_iff] at hc)) | (intro _; intros) | (refine And.intro ?_ ?_; focus (first | omega | ((repeat (first | exact Sub.refl _ | (refine Sub.drop ?_ ?_; focus (simp only [evN, *]; done)) | refine Sub.both ?_)); done) | (simp_all; done) | (simp_all; omega)))))
  refine loopF_of (fun k s τ => ∃ (i : Nat) (best : Int), i ≤ L.length ∧ k = L.length - i ∧ s 8 = .int .i64 i ∧ s 7 = .int .i64 L.length ∧ s 6 = .slice A L.length c ∧ s 0 = .slice A L.length c ∧ s 3 = .int .i64 best ∧ Hid ((best = -1 ∧ i = 0) ∨ ∃ v : Nat, best = v ∧ v < i ∧ ∀ j, j < i → (atE L v).le (atE L j)) ∧ τ = σ) L.length (Sub.refl _)
    ⟨0, -1, by omega, rfl, (by first | rfl | (simp only [↓putO_get, ↓putO_no, init_zero, init_succ, Nat.reduceEqDiff, ↓reduceIte, *]; done) | (simp only [↓putO_get, ↓putO_no, init_zero, init_succ, Nat.reduceEqDiff, ↓reduceIte, *]; rfl)), (by first | rfl | (simp only [↓putO_get, ↓putO_no, init_zero, init_succ, Nat.reduceEqDiff, ↓reduceIte, *]; done) | (simp only [↓putO_get, ↓putO_no, init_zero, init_succ, Nat.reduceEqDiff, ↓reduceIte, *]; rfl)), (by first | rfl | (simp only [↓putO_get, ↓putO_no, init_zero, init_succ, Nat.reduceEqDiff, ↓reduceIte, *]; done) | (simp only [↓putO_get, ↓putO_no, init_zero, init_succ, Nat.reduceEqDiff, ↓reduceIte, *]; rfl)), (by first | rfl | (simp only [↓putO_get, ↓putO_no, init_zero, init_succ, Nat.reduceEqDiff, ↓reduceIte, *]; done) | (simp only [↓putO_get, ↓putO_no, init_zero, init_succ, Nat.reduceEqDiff, ↓reduceIte, *]; rfl)), (by first | rfl | (simp only [↓putO_get, ↓putO_no, init_zero, init_succ, Nat.reduceEqDiff, ↓reduceIte, *]; done) | (simp only [↓putO_get, ↓putO_no, init_zero, init_succ, Nat.reduceEqDiff, ↓reduceIte, *]; rfl)), ⟨.inl ⟨rfl, rfl⟩⟩, rfl⟩ ?_
  rintro k s τ ⟨i, best, hi, hk, s8, s7, s6, s0, s3, hB, hτ⟩
  subst hτ
  rcases Nat.lt_or_ge i L.length with hlt | hge
  · have hd : decide ((i : Int) < (L.length : Int)) = true := by simp; omega
    have e1 : IntKind.i64.wrap ((i : Int) + 1) = ((i + 1 : Nat) : Int) := by rw [wi64 (by omega)]; rfl
    have hx' := atE_get hlt
    obtain ⟨b, o, e, h1⟩ := HV.out.get hlt
    subst e
    rw [show L[i] = atE L i by rw [List.getElem?_eq_getElem hlt] at hx'; exact Option.some.inj hx'] at h1
    clear hx'
    rcases hB.out with ⟨hb, hi0⟩ | ⟨v, hb, hv, hmin⟩
    · have hd2 : decide (best < 0) = true := by simp; omega
      have HB : Hid (((i : Nat) : Int) = -1 ∧ i + 1 = 0 ∨ ∃ v : Nat, ((i : Nat) : Int) = v ∧ v < i + 1 ∧ ∀ j, j < i + 1 → (atE L v).le (atE L j)) := ⟨.inr ⟨i, rfl, by omega, fun j hj => by rw [show j = i by omega]; exact (En.le_tot _ _).elim id id⟩⟩
      clear hb hi0 hB
      (repeat' (first | (simp +contextual -dsimp only [*, En.cells, ↓reduceIte, ↓evP, evQ, splice, Nat.reduceAdd, Nat.reduceEqDiff, Nat.reduceLeDiff, Nat.reduceMul, reduceCtorEq, Int.reduceLT, Int.reduceLE, Int.reduceGT, Int.reduceGE, Int.reduceEq, Int.reduceNeg]) | (refine condF_split (fun hc => ?_) (fun hc => ?_) <;> (try simp only [Bool.not_eq_true', Bool.not_eq_false', Bool.and_eq_true, Bool.or_eq_false_iff] at hc)) | (intro _; intros) | (refine And.intro ?_ ?_; focus (first | omega | ((repeat (first | exact Sub.refl _ | (refine Sub.drop ?_ ?_; focus (simp only [evN, *]; done)) | refine Sub.both ?_)); done) | (simp_all; done) | (simp_all; omega)))))
      refine nextF_of (L.length - (i + 1)) (by omega) (by (repeat (first | exact Sub.refl _ | (refine Sub.drop ?_ ?_; focus (simp only [evN, *]; done)) | refine Sub.both ?_)); done) ⟨i + 1, i, by omega, rfl, (by first | rfl | (simp only [↓putO_get, ↓putO_no, init_zero, init_succ, Nat.reduceEqDiff, ↓reduceIte, *]; done) | (simp only [↓putO_get, ↓putO_no, init_zero, init_succ, Nat.reduceEqDiff, ↓reduceIte, *]; rfl)), (by first | rfl | (simp only [↓putO_get, ↓putO_no, init_zero, init_succ, Nat.reduceEqDiff, ↓reduceIte, *]; done) | (simp only [↓putO_get, ↓putO_no, init_zero, init_succ, Nat.reduceEqDiff, ↓reduceIte, *]; rfl)), (by first | rfl | (simp only [↓putO_get, ↓putO_no, init_zero, init_succ, Nat.reduceEqDiff, ↓reduceIte, *]; done) | (simp only [↓putO_get, ↓putO_no, init_zero, init_succ, Nat.reduceEqDiff, ↓reduceIte, *]; rfl)), (by first | rfl | (simp only [↓putO_get, ↓putO_no, init_zero, init_succ, Nat.reduceEqDiff, ↓reduceIte, *]; done) | (simp only [↓putO_get, ↓putO_no, init_zero, init_succ, Nat.reduceEqDiff, ↓reduceIte, *]; rfl)), (by first | rfl | (simp only [↓putO_get, ↓putO_no, init_zero, init_succ, Nat.reduceEqDiff, ↓reduceIte, *]; done) | (simp only [↓putO_get, ↓putO_no, init_zero, init_succ, Nat.reduceEqDiff, ↓reduceIte, *]; rfl)), HB, rfl⟩
    · subst hb
      have hd2 : decide ((v : Int) < 0) = false := by simp
      have hvl : v < L.length := by omega
      have hv' : (v : Int) < (L.length : Int) := by omega
      have hx' := atE_get hvl
      obtain ⟨b', o', e, h2⟩ := HV.out.get hvl
      cases e
      rw [show L[v] = atE L v by rw [List.getElem?_eq_getElem hvl] at hx'; exact Option.some.inj hx'] at h2
      clear hx'
      cases hbf : (atE L i).bef (atE L v) with
      | true =>
        have hlt := (En.bef_iff _ _).1 hbf
        have HB : Hid (((i : Nat) : Int) = -1 ∧ i + 1 = 0 ∨ ∃ v : Nat, ((i : Nat) : Int) = v ∧ v < i + 1 ∧ ∀ j, j < i + 1 → (atE L v).le (atE L j)) := ⟨.inr ⟨i, rfl, by omega, fun j hj => by
          rcases Nat.lt_or_ge j i with c1 | c1
          · exact En.le_tr (fun q => Lt.irr _ (hlt.trans q)) (hmin j c1)
          · rw [show j = i by omega]; exact (En.le_tot _ _).elim id id⟩⟩
        have q := Hid.mk (before40 (atE L i) (atE L v))
        rw [hbf] at q
        clear hlt hmin hB hbf
        (repeat' (first | (simp +contextual -dsimp only [*, En.cells, ↓reduceIte, ↓evP, evQ, splice, Nat.reduceAdd, Nat.reduceEqDiff, Nat.reduceLeDiff, Nat.reduceMul, reduceCtorEq, Int.reduceLT, Int.reduceLE, Int.reduceGT, Int.reduceGE, Int.reduceEq, Int.reduceNeg]) | (refine condF_split (fun hc => ?_) (fun hc => ?_) <;> (try simp only [Bool.not_eq_true', Bool.not_eq_false', Bool.and_eq_true, Bool.or_eq_false_iff] at hc)) | (intro _; intros) | (refine And.intro ?_ ?_; focus (first | omega | ((repeat (first | exact Sub.refl _ | (refine Sub.drop ?_ ?_; focus (simp only [evN, *]; done)) | refine Sub.both ?_)); done) | (simp_all; done) | (simp_all; omega)))))
        rename_i n n0
        rw [rdn_upd_none n0 h2]
        (repeat' (first | (simp +contextual -dsimp only [*, En.cells, ↓reduceIte, ↓evP, evQ, splice, Nat.reduceAdd, Nat.reduceEqDiff, Nat.reduceLeDiff, Nat.reduceMul, reduceCtorEq, Int.reduceLT, Int.reduceLE, Int.reduceGT, Int.reduceGE, Int.reduceEq, Int.reduceNeg]) | (refine condF_split (fun hc => ?_) (fun hc => ?_) <;> (try simp only [Bool.not_eq_true', Bool.not_eq_false', Bool.and_eq_true, Bool.or_eq_false_iff] at hc)) | (intro _; intros) | (refine And.intro ?_ ?_; focus (first | omega | ((repeat (first | exact Sub.refl _ | (refine Sub.drop ?_ ?_; focus (simp only [evN, *]; done)) | refine Sub.both ?_)); done) | (simp_all; done) | (simp_all; omega)))))
        refine callF_v (q.out _) ?_
        (repeat' (first | (simp +contextual -dsimp only [*, En.cells, ↓reduceIte, ↓evP, evQ, splice, Nat.reduceAdd, Nat.reduceEqDiff, Nat.reduceLeDiff, Nat.reduceMul, reduceCtorEq, Int.reduceLT, Int.reduceLE, Int.reduceGT, Int.reduceGE, Int.reduceEq, Int.reduceNeg]) | (refine condF_split (fun hc => ?_) (fun hc => ?_) <;> (try simp only [Bool.not_eq_true', Bool.not_eq_false', Bool.and_eq_true, Bool.or_eq_false_iff] at hc)) | (intro _; intros) | (refine And.intro ?_ ?_; focus (first | omega | ((repeat (first | exact Sub.refl _ | (refine Sub.drop ?_ ?_; focus (simp only [evN, *]; done)) | refine Sub.both ?_)); done) | (simp_all; done) | (simp_all; omega)))))
        refine nextF_of (L.length - (i + 1)) (by omega) (by (repeat (first | exact Sub.refl _ | (refine Sub.drop ?_ ?_; focus (simp only [evN, *]; done)) | refine Sub.both ?_)); done) ⟨i + 1, i, by omega, rfl, (by first | rfl | (simp only [↓putO_get, ↓putO_no, init_zero, init_succ, Nat.reduceEqDiff, ↓reduceIte, *]; done) | (simp only [↓putO_get, ↓putO_no, init_zero, init_succ, Nat.reduceEqDiff, ↓reduceIte, *]; rfl)), (by first | rfl | (simp only [↓putO_get, ↓putO_no, init_zero, init_succ, Nat.reduceEqDiff, ↓reduceIte, *]; done) | (simp only [↓putO_get, ↓putO_no, init_zero, init_succ, Nat.reduceEqDiff, ↓reduceIte, *]; rfl)), (by first | rfl | (simp only [↓putO_get, ↓putO_no, init_zero, init_succ, Nat.reduceEqDiff, ↓reduceIte, *]; done) | (simp only [↓putO_get, ↓putO_no, init_zero, init_succ, Nat.reduceEqDiff, ↓reduceIte, *]; rfl)), (by first | rfl | (simp only [↓putO_get, ↓putO_no, init_zero, init_succ, Nat.reduceEqDiff, ↓reduceIte, *]; done) | (simp only [↓putO_get, ↓putO_no, init_zero, init_succ, Nat.reduceEqDiff, ↓reduceIte, *]; rfl)), (by first | rfl | (simp only [↓putO_get, ↓putO_no, init_zero, init_succ, Nat.reduceEqDiff, ↓reduceIte, *]; done) | (simp only [↓putO_get, ↓putO_no, init_zero, init_succ, Nat.reduceEqDiff, ↓reduceIte, *]; rfl)), HB, rfl⟩
      | false =>
        have hnl : ¬ Lt (atE L i).rk (atE L v).rk := fun q => by rw [(En.bef_iff _ _).2 q] at hbf; cases hbf
        have HB : Hid (((v : Nat) : Int) = -1 ∧ i + 1 = 0 ∨ ∃ w : Nat, ((v : Nat) : Int) = w ∧ w < i + 1 ∧ ∀ j, j < i + 1 → (atE L w).le (atE L j)) := ⟨.inr ⟨v, rfl, by omega, fun j hj => by
          rcases Nat.lt_or_ge j i with c1 | c1
          · exact hmin j c1
          · rw [show j = i by omega]; exact hnl⟩⟩
        have q := Hid.mk (before40 (atE L i) (atE L v))
        rw [hbf] at q
        clear hnl hmin hB hbf
        (repeat' (first | (simp +contextual -dsimp only [*, En.cells, ↓reduceIte, ↓evP, evQ, splice, Nat.reduceAdd, Nat.reduceEqDiff, Nat.reduceLeDiff, Nat.reduceMul, reduceCtorEq, Int.reduceLT, Int.reduceLE, Int.reduceGT, Int.reduceGE, Int.reduceEq, Int.reduceNeg]) | (refine condF_split (fun hc => ?_) (fun hc => ?_) <;> (try simp only [Bool.not_eq_true', Bool.not_eq_false', Bool.and_eq_true, Bool.or_eq_false_iff] at hc)) | (intro _; intros) | (refine And.intro ?_ ?_; focus (first | omega | ((repeat (first | exact Sub.refl _ | (refine Sub.drop ?_ ?_; focus (simp only [evN, *]; done)) | refine Sub.both ?_)); done) | (simp_all; done) | (simp_all; omega)))))
        rename_i n n0
        rw [rdn_upd_none n0 h2]
        (repeat' (first | (simp +contextual -dsimp only [*, En.cells, ↓reduceIte, ↓evP, evQ, splice, Nat.reduceAdd, Nat.reduceEqDiff, Nat.reduceLeDiff, Nat.reduceMul, reduceCtorEq, Int.reduceLT, Int.reduceLE, Int.reduceGT, Int.reduceGE, Int.reduceEq, Int.reduceNeg]) | (refine condF_split (fun hc => ?_) (fun hc => ?_) <;> (try simp only [Bool.not_eq_true', Bool.not_eq_false', Bool.and_eq_true, Bool.or_eq_false_iff] at hc)) | (intro _; intros) | (refine And.intro ?_ ?_; focus (first | omega | ((repeat (first | exact Sub.refl _ | (refine Sub.drop ?_ ?_; focus (simp only [evN, *]; done)) | refine Sub.both ?_)); done) | (simp_all; done) | (simp_all; omega)))))
        refine callF_v (q.out _) ?_
        (repeat' (first | (simp +contextual -dsimp only [*, En.cells, ↓reduceIte, ↓evP, evQ, splice, Nat.reduceAdd, Nat.reduceEqDiff, Nat.reduceLeDiff, Nat.reduceMul, reduceCtorEq, Int.reduceLT, Int.reduceLE, Int.reduceGT, Int.reduceGE, Int.reduceEq, Int.reduceNeg]) | (refine condF_split (fun hc => ?_) (fun hc => ?_) <;> (try simp only [Bool.not_eq_true', Bool.not_eq_false', Bool.and_eq_true, Bool.or_eq_false_iff] at hc)) | (intro _; intros) | (refine And.intro ?_ ?_; focus (first | omega | ((repeat (first | exact Sub.refl _ | (refine Sub.drop ?_ ?_; focus (simp only [evN, *]; done)) | refine Sub.both ?_)); done) | (simp_all; done) | (simp_all; omega)))))
        refine nextF_of (L.length - (i + 1)) (by omega) (by (repeat (first | exact Sub.refl _ | (refine Sub.drop ?_ ?_; focus (simp only [evN, *]; done)) | refine Sub.both ?_)); done) ⟨i + 1, v, by omega, rfl, (by first | rfl | (simp only [↓putO_get, ↓putO_no, init_zero, init_succ, Nat.reduceEqDiff, ↓reduceIte, *]; done) | (simp only [↓putO_get, ↓putO_no, init_zero, init_succ, Nat.reduceEqDiff, ↓reduceIte, *]; rfl)), (by first | rfl | (simp only [↓putO_get, ↓putO_no, init_zero, init_succ, Nat.reduceEqDiff, ↓reduceIte, *]; done) | (simp only [↓putO_get, ↓putO_no, init_zero, init_succ, Nat.reduceEqDiff, ↓reduceIte, *]; rfl)), (by first | rfl | (simp only [↓putO_get, ↓putO_no, init_zero, init_succ, Nat.reduceEqDiff, ↓reduceIte, *]; done) | (simp only [↓putO_get, ↓putO_no, init_zero, init_succ, Nat.reduceEqDiff, ↓reduceIte, *]; rfl)), (by first | rfl | (simp only [↓putO_get, ↓putO_no, init_zero, init_succ, Nat.reduceEqDiff, ↓reduceIte, *]; done) | (simp only [↓putO_get, ↓putO_no, init_zero, init_succ, Nat.reduceEqDiff, ↓reduceIte, *]; rfl)), (by first | rfl | (simp only [↓putO_get, ↓putO_no, init_zero, init_succ, Nat.reduceEqDiff, ↓reduceIte, *]; done) | (simp only [↓putO_get, ↓putO_no, init_zero, init_succ, Nat.reduceEqDiff, ↓reduceIte, *]; rfl)), HB, rfl⟩
  · have hd : decide ((i : Int) < (L.length : Int)) = false := by simp; omega
    rcases hB.out with ⟨hb, hi0⟩ | ⟨v, hb, hv, hmin⟩
    · omega
    · subst hb
      have HB := Hid.mk (And.intro hv hmin)
      clear hv hmin hB
      (repeat' (first | (simp +contextual -dsimp only [*, En.cells, ↓reduceIte, ↓evP, evQ, splice, Nat.reduceAdd, Nat.reduceEqDiff, Nat.reduceLeDiff, Nat.reduceMul, reduceCtorEq, Int.reduceLT, Int.reduceLE, Int.reduceGT, Int.reduceGE, Int.reduceEq, Int.reduceNeg]) | (refine condF_split (fun hc => ?_) (fun hc => ?_) <;> (try simp only [Bool.not_eq_true', Bool.not_eq_false', Bool.and_eq_true, Bool.or_eq_false_iff] at hc)) | (intro _; intros) | (refine And.intro ?_ ?_; focus (first | omega | ((repeat (first | exact Sub.refl _ | (refine Sub.drop ?_ ?_; focus (simp only [evN, *]; done)) | refine Sub.both ?_)); done) | (simp_all; done) | (simp_all; omega)))))
      exact endF_at ⟨⟨v, by have := HB.out.1; omega, rfl, fun j hj => HB.out.2 j (by omega)⟩, rfl⟩
/-- The place of the first entry from x on. -/
def pl (l : List En) (x : Int) : Nat := l.findIdx (fun e => decide (x ≤ e.lo))
theorem pl_le (l : List En) (x : Int) : pl l x ≤ l.length := List.findIdx_le_length
def Rising (l : List En) : Prop := l.Pairwise fun a b => a.lo < b.lo
theorem pl_iff {l : List En} {x : Int} (hs : Rising l) {i : Nat} {e : En} (h : l[i]? = some e) : decide (e.lo < x) = decide (i < pl l x) := by
  obtain ⟨hi, hv⟩ := List.getElem?_eq_some_iff.1 h
  rw [Bool.eq_iff_iff, decide_eq_true_eq, decide_eq_true_eq]
  constructor
  · intro hc
    rcases Nat.lt_or_ge i (pl l x) with hlt | hge
    · exact hlt
    · exfalso
      have hlt : pl l x < l.length := by omega
      have h1 : decide (x ≤ (l[pl l x]).lo) = true := List.findIdx_getElem (w := hlt)
      have h1 := of_decide_eq_true h1
      rcases Nat.lt_or_ge (pl l x) i with h2 | h2
      · have := List.pairwise_iff_getElem.1 hs (pl l x) i hlt hi h2
        rw [hv] at this; omega
      · have e2 : l[pl l x] = e := by rw [← hv]; congr 1; omega
        rw [e2] at h1; omega
  · intro hlt
    have := List.not_of_lt_findIdx hlt
    rw [hv] at this
    simp at this; omega
/-- Is there an entry at x? -/
def hasE (l : List En) (x : Int) : Bool := match l[pl l x]? with | some e => decide (e.lo = x) | none => false
theorem closure87 (e : En) (x : Int) (σ : Hp) : ACalls Try.prog 87 #[.agg e.cells.toArray, .int .i64 x] σ fun u σ' => u = .int .i64 (cmpI e.lo x) ∧ σ' = σ := by
  (refine acalls_F ok87 (by simp) ?_; unfold c87 r87; simp +contextual -dsimp only [En.cells, ↓reduceIte, ↓evP, evQ, splice, Nat.reduceAdd, Nat.reduceEqDiff, Nat.reduceLeDiff, Nat.reduceMul, reduceCtorEq, Int.reduceLT, Int.reduceLE, Int.reduceGT, Int.reduceGE, Int.reduceEq, Int.reduceNeg])
  unfold En.cells
  (repeat' (first | (simp +contextual -dsimp only [*, En.cells, ↓reduceIte, ↓evP, evQ, splice, Nat.reduceAdd, Nat.reduceEqDiff, Nat.reduceLeDiff, Nat.reduceMul, reduceCtorEq, Int.reduceLT, Int.reduceLE, Int.reduceGT, Int.reduceGE, Int.reduceEq, Int.reduceNeg]) | (refine condF_split (fun hc => ?_) (fun hc => ?_) <;> (try simp only [Bool.not_eq_true', Bool.not_eq_false', Bool.and_eq_true, Bool.or_eq_false_iff] at hc)) | refine callF_v (cmp88 _ _ _) ?_ | refine ccallF_of (cmp88 _ _ _) ?_ | refine gcallF_of (cmp88 _ _ _) ?_ | (intro _; intros) | (refine And.intro ?_ ?_; focus (first | omega | ((repeat (first | exact Sub.refl _ | (refine Sub.drop ?_ ?_; focus (simp only [evN, *]; done)) | refine Sub.both ?_)); done) | (simp_all; done) | (simp_all; omega)))))
  all_goals (refine endF_det ?_ ?_; (focus ((try simp only [cond_true, cond_false, *]) <;> ((try simp only [decide_eq_true_eq, decide_eq_false_iff_not] at *) <;> first | rfl | (simp []; done) | (simp_all []; done) | (simp []; omega) | (simp []; (rw [Bool.eq_iff_iff]); simp; omega) | (simp_all [] <;> omega) | ((try unfold id); (rw [Value.bool.injEq, Bool.eq_iff_iff]); simp <;> omega) | ((try unfold id); (repeat' split) <;> simp_all <;> omega) | (simp_all [] <;> (repeat' split) <;> simp_all <;> omega)))); (focus ((try simp only [cond_true, cond_false, set_same, *]); exact (by (repeat (first | exact Sub.refl _ | (refine Sub.drop ?_ ?_; focus (simp only [evN, *]; done)) | refine Sub.both ?_)); done))))
theorem cmpI_lt (a b : Int) : decide (cmpI a b < 0) = decide (a < b) := by
  unfold cmpI
  rw [Bool.eq_iff_iff, decide_eq_true_eq, decide_eq_true_eq]
  by_cases h : a < b
  · rw [if_pos h]; omega
  · rw [if_neg h]
    by_cases h2 : a > b
    · rw [if_pos h2]; omega
    · rw [if_neg h2]; omega
theorem cmpI_eq (a b : Int) : decide (cmpI a b = 0) = decide (a = b) := by
  unfold cmpI
  rw [Bool.eq_iff_iff, decide_eq_true_eq, decide_eq_true_eq]
  by_cases h : a < b
  · rw [if_pos h]; omega
  · rw [if_neg h]
    by_cases h2 : a > b
    · rw [if_pos h2]; omega
    · rw [if_neg h2]; omega
set_option maxRecDepth 100000 in
set_option maxHeartbeats 2000000 in
theorem search85 {σ : Hp} {A : Option Addr} {c : Nat} {l : List En} (hro : RoRows 8 En.cells σ (.slice A l.length c) l) (hs : Rising l) (hn : l.length ≤ 1048576) (x : Int) :
    ACalls Try.prog 85 #[.slice A l.length c, .int .i64 x, .func (.func 87) #[] #[]] σ fun u σ' => u = .tuple #[.int .i64 (pl l x), .bool (hasE l x)] ∧ σ' = σ := by
  have hp := pl_le l x
  have HV := Hid.mk (And.intro hro hs)
  clear hro hs
  (refine acalls_F ok85 (by simp) ?_; unfold c85 r85)
  (repeat' (first | (simp +contextual -dsimp only [*, En.cells, ↓reduceIte, ↓evP, evQ, splice, Nat.reduceAdd, Nat.reduceEqDiff, Nat.reduceLeDiff, Nat.reduceMul, reduceCtorEq, Int.reduceLT, Int.reduceLE, Int.reduceGT, Int.reduceGE, Int.reduceEq, Int.reduceNeg]) | (refine condF_split (fun hc => ?_) (fun hc => ?_) <;> (try simp only [Bool.not_eq_true', Bool.not_eq_false', Bool.and_eq_true, Bool.or_eq_false_iff] at hc)) | (intro _; intros) | (refine And.intro ?_ ?_; focus (first | omega | ((repeat (first | exact Sub.refl _ | (refine Sub.drop ?_ ?_; focus (simp only [evN, *]; done)) | refine Sub.both ?_)); done) | (simp_all; done) | (simp_all; omega)))))
  refine loopF_of (fun k s τ => ∃ i j : Nat, i ≤ pl l x ∧ pl l x ≤ j ∧ j ≤ l.length ∧ k = j - i ∧ s 9 = .int .i64 i ∧ s 10 = .int .i64 j ∧ s 8 = .int .i64 l.length ∧ s 0 = .slice A l.length c ∧ s 1 = .int .i64 x ∧ s 2 = .func (.func 87) #[] #[] ∧ τ = σ) l.length (Sub.refl _)
    ⟨0, l.length, by omega, hp, by omega, rfl, (by first | rfl | (simp only [↓putO_get, ↓putO_no, init_zero, init_succ, Nat.reduceEqDiff, ↓reduceIte, *]; done) | (simp only [↓putO_get, ↓putO_no, init_zero, init_succ, Nat.reduceEqDiff, ↓reduceIte, *]; rfl)), (by first | rfl | (simp only [↓putO_get, ↓putO_no, init_zero, init_succ, Nat.reduceEqDiff, ↓reduceIte, *]; done) | (simp only [↓putO_get, ↓putO_no, init_zero, init_succ, Nat.reduceEqDiff, ↓reduceIte, *]; rfl)), (by first | rfl | (simp only [↓putO_get, ↓putO_no, init_zero, init_succ, Nat.reduceEqDiff, ↓reduceIte, *]; done) | (simp only [↓putO_get, ↓putO_no, init_zero, init_succ, Nat.reduceEqDiff, ↓reduceIte, *]; rfl)), (by first | rfl | (simp only [↓putO_get, ↓putO_no, init_zero, init_succ, Nat.reduceEqDiff, ↓reduceIte, *]; done) | (simp only [↓putO_get, ↓putO_no, init_zero, init_succ, Nat.reduceEqDiff, ↓reduceIte, *]; rfl)), (by first | rfl | (simp only [↓putO_get, ↓putO_no, init_zero, init_succ, Nat.reduceEqDiff, ↓reduceIte, *]; done) | (simp only [↓putO_get, ↓putO_no, init_zero, init_succ, Nat.reduceEqDiff, ↓reduceIte, *]; rfl)), (by first | rfl | (simp only [↓putO_get, ↓putO_no, init_zero, init_succ, Nat.reduceEqDiff, ↓reduceIte, *]; done) | (simp only [↓putO_get, ↓putO_no, init_zero, init_succ, Nat.reduceEqDiff, ↓reduceIte, *]; rfl)), rfl⟩ ?_
  rintro k s τ ⟨i, j, h1, h2, h3, hk, s9, s10, s8, s0, s1, s2, hτ⟩
  subst hτ
  rcases Nat.lt_or_ge i j with hlt | hge
  · have hd : decide ((i : Int) < (j : Int)) = true := by simp; omega
    obtain ⟨h, hh⟩ : ∃ h, h = (i + j) / 2 := ⟨_, rfl⟩
    have e3 := half (a := i) (b := j) (by omega)
    rw [← hh] at e3
    have hhl : h < l.length := by omega
    have e4 : IntKind.i64.wrap ((h : Int) + 1) = ((h + 1 : Nat) : Int) := by rw [wi64 (by omega)]; rfl
    have hx' := atE_get hhl
    obtain ⟨b, o, e, hr⟩ := HV.out.1.get hhl
    subst e
    rw [show l[h] = atE l h by rw [List.getElem?_eq_getElem hhl] at hx'; exact Option.some.inj hx'] at hr
    have hdec := cmpI_lt (atE l h).lo x
    rw [pl_iff HV.out.2 hx'] at hdec
    have hhl' : (h : Int) < (l.length : Int) := by omega
    have q := Hid.mk (closure87 (atE l h) x)
    have HH := Hid.mk hh
    clear hh hx'
    rcases Nat.lt_or_ge h (pl l x) with c1 | c1
    · have hdec' : decide (cmpI (atE l h).lo x < 0) = true := by rw [hdec]; exact decide_eq_true c1
      clear hdec
      (repeat' (first | (simp +contextual -dsimp only [*, En.cells, ↓reduceIte, ↓evP, evQ, splice, Nat.reduceAdd, Nat.reduceEqDiff, Nat.reduceLeDiff, Nat.reduceMul, reduceCtorEq, Int.reduceLT, Int.reduceLE, Int.reduceGT, Int.reduceGE, Int.reduceEq, Int.reduceNeg]) | (refine condF_split (fun hc => ?_) (fun hc => ?_) <;> (try simp only [Bool.not_eq_true', Bool.not_eq_false', Bool.and_eq_true, Bool.or_eq_false_iff] at hc)) | (intro _; intros) | (refine And.intro ?_ ?_; focus (first | omega | ((repeat (first | exact Sub.refl _ | (refine Sub.drop ?_ ?_; focus (simp only [evN, *]; done)) | refine Sub.both ?_)); done) | (simp_all; done) | (simp_all; omega)))))
      refine vcallF_mk (by kernel_rfl) ?_
      refine callF_v (q.out _) ?_
      (repeat' (first | (simp +contextual -dsimp only [*, En.cells, ↓reduceIte, ↓evP, evQ, splice, Nat.reduceAdd, Nat.reduceEqDiff, Nat.reduceLeDiff, Nat.reduceMul, reduceCtorEq, Int.reduceLT, Int.reduceLE, Int.reduceGT, Int.reduceGE, Int.reduceEq, Int.reduceNeg]) | (refine condF_split (fun hc => ?_) (fun hc => ?_) <;> (try simp only [Bool.not_eq_true', Bool.not_eq_false', Bool.and_eq_true, Bool.or_eq_false_iff] at hc)) | (intro _; intros) | (refine And.intro ?_ ?_; focus (first | omega | ((repeat (first | exact Sub.refl _ | (refine Sub.drop ?_ ?_; focus (simp only [evN, *]; done)) | refine Sub.both ?_)); done) | (simp_all; done) | (simp_all; omega)))))
      have := HH.out
      refine nextF_of (j - (h + 1)) (by omega) (Sub.refl _) ⟨h + 1, j, by omega, by omega, by omega, rfl, (by first | rfl | (simp only [↓putO_get, ↓putO_no, init_zero, init_succ, Nat.reduceEqDiff, ↓reduceIte, *]; done) | (simp only [↓putO_get, ↓putO_no, init_zero, init_succ, Nat.reduceEqDiff, ↓reduceIte, *]; rfl)), (by first | rfl | (simp only [↓putO_get, ↓putO_no, init_zero, init_succ, Nat.reduceEqDiff, ↓reduceIte, *]; done) | (simp only [↓putO_get, ↓putO_no, init_zero, init_succ, Nat.reduceEqDiff, ↓reduceIte, *]; rfl)), (by first | rfl | (simp only [↓putO_get, ↓putO_no, init_zero, init_succ, Nat.reduceEqDiff, ↓reduceIte, *]; done) | (simp only [↓putO_get, ↓putO_no, init_zero, init_succ, Nat.reduceEqDiff, ↓reduceIte, *]; rfl)), (by first | rfl | (simp only [↓putO_get, ↓putO_no, init_zero, init_succ, Nat.reduceEqDiff, ↓reduceIte, *]; done) | (simp only [↓putO_get, ↓putO_no, init_zero, init_succ, Nat.reduceEqDiff, ↓reduceIte, *]; rfl)), (by first | rfl | (simp only [↓putO_get, ↓putO_no, init_zero, init_succ, Nat.reduceEqDiff, ↓reduceIte, *]; done) | (simp only [↓putO_get, ↓putO_no, init_zero, init_succ, Nat.reduceEqDiff, ↓reduceIte, *]; rfl)), (by first | rfl | (simp only [↓putO_get, ↓putO_no, init_zero, init_succ, Nat.reduceEqDiff, ↓reduceIte, *]; done) | (simp only [↓putO_get, ↓putO_no, init_zero, init_succ, Nat.reduceEqDiff, ↓reduceIte, *]; rfl)), rfl⟩
    · have hdec' : decide (cmpI (atE l h).lo x < 0) = false := by rw [hdec]; exact decide_eq_false (by omega)
      clear hdec
      (repeat' (first | (simp +contextual -dsimp only [*, En.cells, ↓reduceIte, ↓evP, evQ, splice, Nat.reduceAdd, Nat.reduceEqDiff, Nat.reduceLeDiff, Nat.reduceMul, reduceCtorEq, Int.reduceLT, Int.reduceLE, Int.reduceGT, Int.reduceGE, Int.reduceEq, Int.reduceNeg]) | (refine condF_split (fun hc => ?_) (fun hc => ?_) <;> (try simp only [Bool.not_eq_true', Bool.not_eq_false', Bool.and_eq_true, Bool.or_eq_false_iff] at hc)) | (intro _; intros) | (refine And.intro ?_ ?_; focus (first | omega | ((repeat (first | exact Sub.refl _ | (refine Sub.drop ?_ ?_; focus (simp only [evN, *]; done)) | refine Sub.both ?_)); done) | (simp_all; done) | (simp_all; omega)))))
      refine vcallF_mk (by kernel_rfl) ?_
      refine callF_v (q.out _) ?_
      (repeat' (first | (simp +contextual -dsimp only [*, En.cells, ↓reduceIte, ↓evP, evQ, splice, Nat.reduceAdd, Nat.reduceEqDiff, Nat.reduceLeDiff, Nat.reduceMul, reduceCtorEq, Int.reduceLT, Int.reduceLE, Int.reduceGT, Int.reduceGE, Int.reduceEq, Int.reduceNeg]) | (refine condF_split (fun hc => ?_) (fun hc => ?_) <;> (try simp only [Bool.not_eq_true', Bool.not_eq_false', Bool.and_eq_true, Bool.or_eq_false_iff] at hc)) | (intro _; intros) | (refine And.intro ?_ ?_; focus (first | omega | ((repeat (first | exact Sub.refl _ | (refine Sub.drop ?_ ?_; focus (simp only [evN, *]; done)) | refine Sub.both ?_)); done) | (simp_all; done) | (simp_all; omega)))))
      have := HH.out
      refine nextF_of (h - i) (by omega) (Sub.refl _) ⟨i, h, by omega, by omega, by omega, rfl, (by first | rfl | (simp only [↓putO_get, ↓putO_no, init_zero, init_succ, Nat.reduceEqDiff, ↓reduceIte, *]; done) | (simp only [↓putO_get, ↓putO_no, init_zero, init_succ, Nat.reduceEqDiff, ↓reduceIte, *]; rfl)), (by first | rfl | (simp only [↓putO_get, ↓putO_no, init_zero, init_succ, Nat.reduceEqDiff, ↓reduceIte, *]; done) | (simp only [↓putO_get, ↓putO_no, init_zero, init_succ, Nat.reduceEqDiff, ↓reduceIte, *]; rfl)), (by first | rfl | (simp only [↓putO_get, ↓putO_no, init_zero, init_succ, Nat.reduceEqDiff, ↓reduceIte, *]; done) | (simp only [↓putO_get, ↓putO_no, init_zero, init_succ, Nat.reduceEqDiff, ↓reduceIte, *]; rfl)), (by first | rfl | (simp only [↓putO_get, ↓putO_no, init_zero, init_succ, Nat.reduceEqDiff, ↓reduceIte, *]; done) | (simp only [↓putO_get, ↓putO_no, init_zero, init_succ, Nat.reduceEqDiff, ↓reduceIte, *]; rfl)), (by first | rfl | (simp only [↓putO_get, ↓putO_no, init_zero, init_succ, Nat.reduceEqDiff, ↓reduceIte, *]; done) | (simp only [↓putO_get, ↓putO_no, init_zero, init_succ, Nat.reduceEqDiff, ↓reduceIte, *]; rfl)), (by first | rfl | (simp only [↓putO_get, ↓putO_no, init_zero, init_succ, Nat.reduceEqDiff, ↓reduceIte, *]; done) | (simp only [↓putO_get, ↓putO_no, init_zero, init_succ, Nat.reduceEqDiff, ↓reduceIte, *]; rfl)), rfl⟩
  · have hd : decide ((i : Int) < (j : Int)) = false := by simp; omega
    have e := Hid.mk (show i = pl l x by omega)
    rcases Nat.lt_or_ge i l.length with c1 | c1
    · have hd2 : decide ((i : Int) < (l.length : Int)) = true := by simp; omega
      have hx' := atE_get c1
      obtain ⟨b, o, ee, hr⟩ := HV.out.1.get c1
      subst ee
      rw [show l[i] = atE l i by rw [List.getElem?_eq_getElem c1] at hx'; exact Option.some.inj hx'] at hr
      have c1' : (i : Int) < (l.length : Int) := by omega
      have hdec := cmpI_eq (atE l i).lo x
      have q := Hid.mk (closure87 (atE l i) x)
      have HE := Hid.mk (show hasE l x = decide ((atE l i).lo = x) by unfold hasE; rw [← e.out, hx'])
      clear hx'
      (repeat' (first | (simp +contextual -dsimp only [*, En.cells, ↓reduceIte, ↓evP, evQ, splice, Nat.reduceAdd, Nat.reduceEqDiff, Nat.reduceLeDiff, Nat.reduceMul, reduceCtorEq, Int.reduceLT, Int.reduceLE, Int.reduceGT, Int.reduceGE, Int.reduceEq, Int.reduceNeg]) | (refine condF_split (fun hc => ?_) (fun hc => ?_) <;> (try simp only [Bool.not_eq_true', Bool.not_eq_false', Bool.and_eq_true, Bool.or_eq_false_iff] at hc)) | (intro _; intros) | (refine And.intro ?_ ?_; focus (first | omega | ((repeat (first | exact Sub.refl _ | (refine Sub.drop ?_ ?_; focus (simp only [evN, *]; done)) | refine Sub.both ?_)); done) | (simp_all; done) | (simp_all; omega)))))
      refine vcallF_mk (by kernel_rfl) ?_
      refine callF_v (q.out _) ?_
      (repeat' (first | (simp +contextual -dsimp only [*, En.cells, ↓reduceIte, ↓evP, evQ, splice, Nat.reduceAdd, Nat.reduceEqDiff, Nat.reduceLeDiff, Nat.reduceMul, reduceCtorEq, Int.reduceLT, Int.reduceLE, Int.reduceGT, Int.reduceGE, Int.reduceEq, Int.reduceNeg]) | (refine condF_split (fun hc => ?_) (fun hc => ?_) <;> (try simp only [Bool.not_eq_true', Bool.not_eq_false', Bool.and_eq_true, Bool.or_eq_false_iff] at hc)) | (intro _; intros) | (refine And.intro ?_ ?_; focus (first | omega | ((repeat (first | exact Sub.refl _ | (refine Sub.drop ?_ ?_; focus (simp only [evN, *]; done)) | refine Sub.both ?_)); done) | (simp_all; done) | (simp_all; omega)))))
      refine endF_det ?_ (Sub.refl _)
      rw [HE.out, ← e.out]
    · have hd2 : decide ((i : Int) < (l.length : Int)) = false := by simp; omega
      have HE := Hid.mk (show hasE l x = false by unfold hasE; rw [← e.out, List.getElem?_eq_none (by omega)])
      (repeat' (first | (simp +contextual -dsimp only [*, En.cells, ↓reduceIte, ↓evP, evQ, splice, Nat.reduceAdd, Nat.reduceEqDiff, Nat.reduceLeDiff, Nat.reduceMul, reduceCtorEq, Int.reduceLT, Int.reduceLE, Int.reduceGT, Int.reduceGE, Int.reduceEq, Int.reduceNeg]) | (refine condF_split (fun hc => ?_) (fun hc => ?_) <;> (try simp only [Bool.not_eq_true', Bool.not_eq_false', Bool.and_eq_true, Bool.or_eq_false_iff] at hc)) | (intro _; intros) | (refine And.intro ?_ ?_; focus (first | omega | ((repeat (first | exact Sub.refl _ | (refine Sub.drop ?_ ?_; focus (simp only [evN, *]; done)) | refine Sub.both ?_)); done) | (simp_all; done) | (simp_all; omega)))))
      refine endF_det ?_ (Sub.refl _)
      rw [HE.out, ← e.out]
theorem sll_in (sz b o n c i : Nat) (h : i ≤ n) (hc : i < c) : lf (.sll sz) [.slice (some ⟨b, o, none⟩) n c, .int .i64 i] = some (.slice (some ⟨b, o + i * sz, none⟩) (n - i) (c - i)) := by
  rw [lf_sll_eq _ _ _ _ _ _ (by omega)]
  unfold sliced
  rw [Int.toNat_natCast, if_neg (by omega)]
  simp only [Option.map_some, Addr.add]
  by_cases e : i * sz = 0
  · rw [if_pos e, e]; rfl
  · rw [if_neg e]
theorem sll_all (sz n c i : Nat) (A : Option Addr) (h : i ≤ n) (hc : c = i) : lf (.sll sz) [.slice A n c, .int .i64 i] = some (.slice A (n - i) 0) := by
  subst hc
  rw [lf_sll_eq _ _ _ _ _ _ (by omega)]
  unfold sliced
  rw [Int.toNat_natCast, if_pos rfl, Nat.sub_self]
theorem slh_in (sz b o n c j : Nat) (h : j ≤ c) (h0 : 0 < c) : lf (.slh sz) [.slice (some ⟨b, o, none⟩) n c, .int .i64 j] = some (.slice (some ⟨b, o, none⟩) j c) := by
  rw [lf_slh_eq _ _ _ _ _ _ (by omega)]
  unfold sliced
  rw [Int.toNat_natCast, if_neg (by omega)]
  simp [Addr.add]
theorem entInfo : ∃ ie z, Try.prog.info? 89 = some ie ∧ ie.size = 8 ∧ ie.bytes = 80 ∧ ie.zero = some z ∧ z.cells.size = 8 ∧ z.cells.toList.all Go.Sp.one = true := by
  have h : (Try.prog.info? 89).map (fun i => (i.size, i.bytes, i.zero.map fun z => (z.cells.size, z.cells.toList.all Go.Sp.one))) = some (8, 80, some (8, true)) := by kernel_rfl
  cases hq : Try.prog.info? 89 with
  | none => rw [hq] at h; cases h
  | some ie =>
    rw [hq] at h
    simp only [Option.map_some, Option.some.injEq, Prod.mk.injEq, Option.map_eq_some_iff] at h
    obtain ⟨h1, h2, z, hz, h3, h4⟩ := h
    exact ⟨ie, z, rfl, h1, h2, hz, h3, h4⟩
theorem one_flat (l : List En) : (l.flatMap En.cells).all Go.Sp.one = true := by
  induction l with
  | nil => rfl
  | cons e l ih => rw [List.flatMap_cons, List.all_append, ih]; rfl
theorem rdn_flat {σ : Hp} {g room : Nat} {T : TypeId} {l : List En} (hg : σ g = some (.row (l.flatMap En.cells) room T)) {i m : Nat} (h : i + m ≤ l.length) : rdn σ g (i * 8) (m * 8) = some (((l.drop i).take m).flatMap En.cells) := by
  unfold rdn; rw [hg]
  show seg _ _ _ = _
  have e : l = l.take i ++ ((l.drop i).take m ++ (l.drop i).drop m) := by rw [List.take_append_drop, List.take_append_drop]
  have h1 : ((l.take i).flatMap En.cells).length = i * 8 := by rw [flat_len En.cells_len, List.length_take, Nat.min_eq_left (by omega)]
  have h2 : (((l.drop i).take m).flatMap En.cells).length = m * 8 := by rw [flat_len En.cells_len, List.length_take, List.length_drop, Nat.min_eq_left (by omega)]
  conv => lhs; rw [e, List.flatMap_append, List.flatMap_append]
  unfold seg
  rw [if_pos (by simp only [List.length_append]; omega), ← h1, List.drop_left, ← h2, List.take_left]
set_option maxRecDepth 100000 in
set_option maxHeartbeats 2000000 in
theorem delete73 {σ : Hp} {g c i : Nat} {l : List En} (hi : i < l.length) (hc : l.length ≤ c) (hn : l.length ≤ 1048576) :
    ACalls Try.prog 73 #[.slice (some ⟨g, 0, none⟩) l.length c, .int .i64 i, .int .i64 (i + 1 : Nat)] (upd σ g (.row (l.flatMap En.cells) (c * 8) 89)) fun u σ' => u = .slice (some ⟨g, 0, none⟩) (l.length - 1) c ∧ σ' = upd σ g (.row ((l.eraseIdx i).flatMap En.cells) (c * 8) 89) := by
  have hd : decide ((i : Int) = ((i + 1 : Nat) : Int)) = false := by simp; omega
  have hl1 := slh_in 8 g 0 l.length c i (by omega) (by omega)
  have e0 : l.length - (i + 1) + i = l.length - 1 := by omega
  have esplit : l.flatMap En.cells = (l.take i).flatMap En.cells ++ (l.drop i).flatMap En.cells := by rw [← List.flatMap_append, List.take_append_drop]
  have hxl : ((l.take i).flatMap En.cells).length = i * 8 := by rw [flat_len En.cells_len, List.length_take, Nat.min_eq_left (by omega)]
  have er : (l.take i).flatMap En.cells ++ (l.drop (i + 1)).flatMap En.cells = (l.eraseIdx i).flatMap En.cells := by rw [← List.flatMap_append, List.eraseIdx_eq_take_drop_succ]
  have hel : ((l.eraseIdx i).flatMap En.cells).length = (l.length - 1) * 8 := by rw [flat_len En.cells_len, List.length_eraseIdx_of_lt hi]
  have H := Hid.mk (And.intro esplit (And.intro hxl (And.intro er (And.intro hel e0))))
  clear esplit hxl er hel e0
  rcases Nat.lt_or_ge (i + 1) l.length with c1 | c1
  · have hl2 := sll_in 8 g 0 l.length c (i + 1) (by omega) (by omega)
    (refine acalls_F ok73 (by simp) ?_; unfold c73 r73)
    (repeat' (first | (simp +contextual -dsimp only [*, En.cells, ↓reduceIte, ↓evP, evQ, splice_nil, splice_zero, splice_skip, Nat.reduceAdd, Nat.reduceEqDiff, Nat.reduceLeDiff, Nat.reduceMul, reduceCtorEq, Int.reduceLT, Int.reduceLE, Int.reduceGT, Int.reduceGE, Int.reduceEq, Int.reduceNeg]) | (refine condF_split (fun hc => ?_) (fun hc => ?_) <;> (try simp only [Bool.not_eq_true', Bool.not_eq_false', Bool.and_eq_true, Bool.or_eq_false_iff] at hc)) | (intro _; intros) | (refine And.intro ?_ ?_; focus (first | omega | ((repeat (first | exact Sub.refl _ | (refine Sub.drop ?_ ?_; focus (simp only [evN, *]; done)) | refine Sub.both ?_)); done) | (simp_all; done) | (simp_all; omega)))))
    refine raw_s3 Try.underlying83 (by kernel_rfl) (by first | rfl | (simp only [↓putO_get, ↓putO_no, init_zero, init_succ, Nat.reduceEqDiff, ↓reduceIte, *]; done) | (simp only [↓putO_get, ↓putO_no, init_zero, init_succ, Nat.reduceEqDiff, ↓reduceIte, *]; rfl)) (by first | rfl | (simp only [↓putO_get, ↓putO_no, init_zero, init_succ, Nat.reduceEqDiff, ↓reduceIte, *]; done) | (simp only [↓putO_get, ↓putO_no, init_zero, init_succ, Nat.reduceEqDiff, ↓reduceIte, *]; rfl)) (by first | rfl | (simp only [↓putO_get, ↓putO_no, init_zero, init_succ, Nat.reduceEqDiff, ↓reduceIte, *]; done) | (simp only [↓putO_get, ↓putO_no, init_zero, init_succ, Nat.reduceEqDiff, ↓reduceIte, *]; rfl)) (by first | rfl | (simp only [↓putO_get, ↓putO_no, init_zero, init_succ, Nat.reduceEqDiff, ↓reduceIte, *]; done) | (simp only [↓putO_get, ↓putO_no, init_zero, init_succ, Nat.reduceEqDiff, ↓reduceIte, *]; rfl)) (by omega) (fun v => ?_)
    (repeat' (first | (simp +contextual -dsimp only [*, En.cells, ↓reduceIte, ↓evP, evQ, splice_nil, splice_zero, splice_skip, Nat.reduceAdd, Nat.reduceEqDiff, Nat.reduceLeDiff, Nat.reduceMul, reduceCtorEq, Int.reduceLT, Int.reduceLE, Int.reduceGT, Int.reduceGE, Int.reduceEq, Int.reduceNeg]) | (refine condF_split (fun hc => ?_) (fun hc => ?_) <;> (try simp only [Bool.not_eq_true', Bool.not_eq_false', Bool.and_eq_true, Bool.or_eq_false_iff] at hc)) | (intro _; intros) | (refine And.intro ?_ ?_; focus (first | omega | ((repeat (first | exact Sub.refl _ | (refine Sub.drop ?_ ?_; focus (simp only [evN, *]; done)) | refine Sub.both ?_)); done) | (simp_all; done) | (simp_all; omega)))))
    refine app_cut (xs := (l.take i).flatMap En.cells) (tl := (l.drop i).flatMap En.cells) (ys := (l.drop (i + 1)).flatMap En.cells) ?_ (one_flat _) (by rw [upd_same, H.out.1]) H.out.2.1 (by omega) (by omega) (by unfold maxLen; omega) ?_
    · rw [rdn_flat (upd_same _ _ _) (by omega)]
      rw [List.take_of_length_le (by rw [List.length_drop]; omega)]
    rw [H.out.2.2.1, show i + (l.length - (i + 1)) = l.length - 1 by omega]
    (repeat' (first | (simp +contextual -dsimp only [*, En.cells, ↓reduceIte, ↓evP, evQ, splice_nil, splice_zero, splice_skip, Nat.reduceAdd, Nat.reduceEqDiff, Nat.reduceLeDiff, Nat.reduceMul, reduceCtorEq, Int.reduceLT, Int.reduceLE, Int.reduceGT, Int.reduceGE, Int.reduceEq, Int.reduceNeg]) | (refine condF_split (fun hc => ?_) (fun hc => ?_) <;> (try simp only [Bool.not_eq_true', Bool.not_eq_false', Bool.and_eq_true, Bool.or_eq_false_iff] at hc)) | (intro _; intros) | (refine And.intro ?_ ?_; focus (first | omega | ((repeat (first | exact Sub.refl _ | (refine Sub.drop ?_ ?_; focus (simp only [evN, *]; done)) | refine Sub.both ?_)); done) | (simp_all; done) | (simp_all; omega)))))
    refine raw_s2 (i := l.length - 1) (j := l.length) (size := 8) Try.underlying83 (by kernel_rfl) (by first | rfl | (simp only [↓putO_get, ↓putO_no, init_zero, init_succ, Nat.reduceEqDiff, ↓reduceIte, *]; done) | (simp only [↓putO_get, ↓putO_no, init_zero, init_succ, Nat.reduceEqDiff, ↓reduceIte, *]; rfl)) (by first | rfl | (simp only [↓putO_get, ↓putO_no, init_zero, init_succ, Nat.reduceEqDiff, ↓reduceIte, *]; done) | (simp only [↓putO_get, ↓putO_no, init_zero, init_succ, Nat.reduceEqDiff, ↓reduceIte, *]; rfl)) (by first | rfl | (simp only [↓putO_get, ↓putO_no, init_zero, init_succ, Nat.reduceEqDiff, ↓reduceIte, *]; done) | (simp only [↓putO_get, ↓putO_no, init_zero, init_succ, Nat.reduceEqDiff, ↓reduceIte, *]; rfl)) (by omega) ?_
    rw [show l.length - (l.length - 1) = 1 by omega]
    simp +contextual -dsimp only [*, En.cells, ↓reduceIte, ↓evP, evQ, splice_nil, splice_zero, splice_skip, Nat.reduceAdd, Nat.reduceEqDiff, Nat.reduceLeDiff, Nat.reduceMul, reduceCtorEq, Int.reduceLT, Int.reduceLE, Int.reduceGT, Int.reduceGE, Int.reduceEq, Int.reduceNeg]
    obtain ⟨ie, z, q1, q2, q3, q4, q5, q6⟩ := entInfo
    refine hop_clear (ie := ie) (z := z) (xs := (l.eraseIdx i).flatMap En.cells) (tl := []) (room := c * 8) (T := 89) (size := 8) Try.underlying83 q1 q4 q5 (by first | rfl | (simp only [↓putO_get, ↓putO_no, init_zero, init_succ, Nat.reduceEqDiff, ↓reduceIte, *]; done) | (simp only [↓putO_get, ↓putO_no, init_zero, init_succ, Nat.reduceEqDiff, ↓reduceIte, *]; rfl)) (by rw [upd_same, List.append_nil]) q6 (by rw [H.out.2.2.2.1, Nat.zero_add]) (by omega) ?_
    rw [upd_upd]
    (repeat' (first | (simp +contextual -dsimp only [*, En.cells, ↓reduceIte, ↓evP, evQ, splice_nil, splice_zero, splice_skip, Nat.reduceAdd, Nat.reduceEqDiff, Nat.reduceLeDiff, Nat.reduceMul, reduceCtorEq, Int.reduceLT, Int.reduceLE, Int.reduceGT, Int.reduceGE, Int.reduceEq, Int.reduceNeg]) | (refine condF_split (fun hc => ?_) (fun hc => ?_) <;> (try simp only [Bool.not_eq_true', Bool.not_eq_false', Bool.and_eq_true, Bool.or_eq_false_iff] at hc)) | (intro _; intros) | (refine And.intro ?_ ?_; focus (first | omega | ((repeat (first | exact Sub.refl _ | (refine Sub.drop ?_ ?_; focus (simp only [evN, *]; done)) | refine Sub.both ?_)); done) | (simp_all; done) | (simp_all; omega)))))
    refine endF_at ⟨?_, rfl⟩
    rfl
  · have ei : i + 1 = l.length := by omega
    have EI := Hid.mk ei
    have hap : ∀ A C, lf (.sll 8) [.slice (some ⟨g, 0, none⟩) l.length c, .int .i64 (i + 1 : Nat)] = some (.slice A 0 C) → lf (.sll 8) [.slice (some ⟨g, 0, none⟩) l.length c, .int .i64 (i + 1 : Nat)] = some (.slice A 0 C) := fun _ _ h => h
    obtain ⟨A, C, hl2⟩ : ∃ A C, lf (.sll 8) [.slice (some ⟨g, 0, none⟩) l.length c, .int .i64 (i + 1 : Nat)] = some (.slice A 0 C) := by
      by_cases ec : c = i + 1
      · exact ⟨_, _, by rw [sll_all 8 _ _ _ _ (by omega) ec, show l.length - (i + 1) = 0 by omega]⟩
      · exact ⟨_, _, by rw [sll_in 8 g 0 l.length c (i + 1) (by omega) (by omega), show l.length - (i + 1) = 0 by omega]⟩
    have ELAST := Hid.mk (show (l.eraseIdx i).flatMap En.cells = (l.take i).flatMap En.cells by rw [← H.out.2.2.1, List.drop_of_length_le (by omega)]; simp)
    clear hap ei
    (refine acalls_F ok73 (by simp) ?_; unfold c73 r73)
    (repeat' (first | (simp +contextual -dsimp only [*, En.cells, ↓reduceIte, ↓evP, evQ, splice_nil, splice_zero, splice_skip, Nat.reduceAdd, Nat.reduceEqDiff, Nat.reduceLeDiff, Nat.reduceMul, reduceCtorEq, Int.reduceLT, Int.reduceLE, Int.reduceGT, Int.reduceGE, Int.reduceEq, Int.reduceNeg]) | (refine condF_split (fun hc => ?_) (fun hc => ?_) <;> (try simp only [Bool.not_eq_true', Bool.not_eq_false', Bool.and_eq_true, Bool.or_eq_false_iff] at hc)) | (intro _; intros) | (refine And.intro ?_ ?_; focus (first | omega | ((repeat (first | exact Sub.refl _ | (refine Sub.drop ?_ ?_; focus (simp only [evN, *]; done)) | refine Sub.both ?_)); done) | (simp_all; done) | (simp_all; omega)))))
    refine raw_s3 Try.underlying83 (by kernel_rfl) (by first | rfl | (simp only [↓putO_get, ↓putO_no, init_zero, init_succ, Nat.reduceEqDiff, ↓reduceIte, *]; done) | (simp only [↓putO_get, ↓putO_no, init_zero, init_succ, Nat.reduceEqDiff, ↓reduceIte, *]; rfl)) (by first | rfl | (simp only [↓putO_get, ↓putO_no, init_zero, init_succ, Nat.reduceEqDiff, ↓reduceIte, *]; done) | (simp only [↓putO_get, ↓putO_no, init_zero, init_succ, Nat.reduceEqDiff, ↓reduceIte, *]; rfl)) (by first | rfl | (simp only [↓putO_get, ↓putO_no, init_zero, init_succ, Nat.reduceEqDiff, ↓reduceIte, *]; done) | (simp only [↓putO_get, ↓putO_no, init_zero, init_succ, Nat.reduceEqDiff, ↓reduceIte, *]; rfl)) (by first | rfl | (simp only [↓putO_get, ↓putO_no, init_zero, init_succ, Nat.reduceEqDiff, ↓reduceIte, *]; done) | (simp only [↓putO_get, ↓putO_no, init_zero, init_succ, Nat.reduceEqDiff, ↓reduceIte, *]; rfl)) (by omega) (fun v => ?_)
    (repeat' (first | (simp +contextual -dsimp only [*, En.cells, ↓reduceIte, ↓evP, evQ, splice_nil, splice_zero, splice_skip, Nat.reduceAdd, Nat.reduceEqDiff, Nat.reduceLeDiff, Nat.reduceMul, reduceCtorEq, Int.reduceLT, Int.reduceLE, Int.reduceGT, Int.reduceGE, Int.reduceEq, Int.reduceNeg]) | (refine condF_split (fun hc => ?_) (fun hc => ?_) <;> (try simp only [Bool.not_eq_true', Bool.not_eq_false', Bool.and_eq_true, Bool.or_eq_false_iff] at hc)) | (intro _; intros) | (refine And.intro ?_ ?_; focus (first | omega | ((repeat (first | exact Sub.refl _ | (refine Sub.drop ?_ ?_; focus (simp only [evN, *]; done)) | refine Sub.both ?_)); done) | (simp_all; done) | (simp_all; omega)))))
    refine app_be (by omega) ?_
    rw [show i = l.length - 1 by omega]
    (repeat' (first | (simp +contextual -dsimp only [*, En.cells, ↓reduceIte, ↓evP, evQ, splice_nil, splice_zero, splice_skip, Nat.reduceAdd, Nat.reduceEqDiff, Nat.reduceLeDiff, Nat.reduceMul, reduceCtorEq, Int.reduceLT, Int.reduceLE, Int.reduceGT, Int.reduceGE, Int.reduceEq, Int.reduceNeg]) | (refine condF_split (fun hc => ?_) (fun hc => ?_) <;> (try simp only [Bool.not_eq_true', Bool.not_eq_false', Bool.and_eq_true, Bool.or_eq_false_iff] at hc)) | (intro _; intros) | (refine And.intro ?_ ?_; focus (first | omega | ((repeat (first | exact Sub.refl _ | (refine Sub.drop ?_ ?_; focus (simp only [evN, *]; done)) | refine Sub.both ?_)); done) | (simp_all; done) | (simp_all; omega)))))
    refine raw_s2 (i := l.length - 1) (j := l.length) (size := 8) Try.underlying83 (by kernel_rfl) (by first | rfl | (simp only [↓putO_get, ↓putO_no, init_zero, init_succ, Nat.reduceEqDiff, ↓reduceIte, *]; done) | (simp only [↓putO_get, ↓putO_no, init_zero, init_succ, Nat.reduceEqDiff, ↓reduceIte, *]; rfl)) (by first | rfl | (simp only [↓putO_get, ↓putO_no, init_zero, init_succ, Nat.reduceEqDiff, ↓reduceIte, *]; done) | (simp only [↓putO_get, ↓putO_no, init_zero, init_succ, Nat.reduceEqDiff, ↓reduceIte, *]; rfl)) (by first | rfl | (simp only [↓putO_get, ↓putO_no, init_zero, init_succ, Nat.reduceEqDiff, ↓reduceIte, *]; done) | (simp only [↓putO_get, ↓putO_no, init_zero, init_succ, Nat.reduceEqDiff, ↓reduceIte, *]; rfl)) (by omega) ?_
    rw [show l.length - (l.length - 1) = 1 by omega]
    simp +contextual -dsimp only [*, En.cells, ↓reduceIte, ↓evP, evQ, splice_nil, splice_zero, splice_skip, Nat.reduceAdd, Nat.reduceEqDiff, Nat.reduceLeDiff, Nat.reduceMul, reduceCtorEq, Int.reduceLT, Int.reduceLE, Int.reduceGT, Int.reduceGE, Int.reduceEq, Int.reduceNeg]
    obtain ⟨ie, z, q1, q2, q3, q4, q5, q6⟩ := entInfo
    refine hop_clear (ie := ie) (z := z) (xs := (l.eraseIdx i).flatMap En.cells) (tl := (l.drop i).flatMap En.cells) (room := c * 8) (T := 89) (size := 8) Try.underlying83 q1 q4 q5 (by first | rfl | (simp only [↓putO_get, ↓putO_no, init_zero, init_succ, Nat.reduceEqDiff, ↓reduceIte, *]; done) | (simp only [↓putO_get, ↓putO_no, init_zero, init_succ, Nat.reduceEqDiff, ↓reduceIte, *]; rfl)) (by first | rw [upd_same, List.append_nil] | (rw [upd_same, ELAST.out, ← H.out.1])) q6 (by rw [H.out.2.2.2.1, Nat.zero_add]) (by omega) ?_
    rw [upd_upd]
    (repeat' (first | (simp +contextual -dsimp only [*, En.cells, ↓reduceIte, ↓evP, evQ, splice_nil, splice_zero, splice_skip, Nat.reduceAdd, Nat.reduceEqDiff, Nat.reduceLeDiff, Nat.reduceMul, reduceCtorEq, Int.reduceLT, Int.reduceLE, Int.reduceGT, Int.reduceGE, Int.reduceEq, Int.reduceNeg]) | (refine condF_split (fun hc => ?_) (fun hc => ?_) <;> (try simp only [Bool.not_eq_true', Bool.not_eq_false', Bool.and_eq_true, Bool.or_eq_false_iff] at hc)) | (intro _; intros) | (refine And.intro ?_ ?_; focus (first | omega | ((repeat (first | exact Sub.refl _ | (refine Sub.drop ?_ ?_; focus (simp only [evN, *]; done)) | refine Sub.both ?_)); done) | (simp_all; done) | (simp_all; omega)))))
    refine endF_at ⟨?_, by rw [show l.length - 1 = i by omega]⟩
    rfl
def cost (e : En) : Nat := 32 + e.key.size + e.data.size
theorem cost68 (k : ByteArray) (has : Bool) (d : ByteArray) (lo hi : Int) (σ : Hp) (hk : k.size ≤ 4096) (hd : d.size ≤ 4096) : ACalls Try.prog 68 #[.agg #[.string k, .bool has, .string d, .int .i64 lo, .int .i64 hi]] σ fun u σ' => u = .int .i64 (32 + k.size + d.size : Nat) ∧ σ' = σ := by
  have w1 : IntKind.i64.wrap (32 + (k.size : Int)) = ((32 + k.size : Nat) : Int) := by rw [wi64 (by omega)]; rfl
  have w2 : IntKind.i64.wrap (((32 + k.size : Nat) : Int) + (d.size : Int)) = ((32 + k.size + d.size : Nat) : Int) := by rw [wi64 (by omega)]; rfl
  (refine acalls_F ok68 (by simp) ?_; unfold c68 r68)
  (repeat' (first | (simp +contextual -dsimp only [*, En.cells, ↓reduceIte, ↓evP, evQ, splice_nil, splice_zero, splice_skip, Nat.reduceAdd, Nat.reduceEqDiff, Nat.reduceLeDiff, Nat.reduceMul, reduceCtorEq, Int.reduceLT, Int.reduceLE, Int.reduceGT, Int.reduceGE, Int.reduceEq, Int.reduceNeg]) | (refine condF_split (fun hc => ?_) (fun hc => ?_) <;> (try simp only [Bool.not_eq_true', Bool.not_eq_false', Bool.and_eq_true, Bool.or_eq_false_iff] at hc)) | (intro _; intros) | (refine And.intro ?_ ?_; focus (first | omega | ((repeat (first | exact Sub.refl _ | (refine Sub.drop ?_ ?_; focus (simp only [evN, *]; done)) | refine Sub.both ?_)); done) | (simp_all; done) | (simp_all; omega)))))
  exact endF_det rfl (by (repeat (first | exact Sub.refl _ | (refine Sub.drop ?_ ?_; focus (simp only [evN, *]; done)) | refine Sub.both ?_)); done)
theorem over89 : ∀ args w, (callFunc 89 args).run Try.prog w = ((Extern.SlicesOverlaps.overlaps #[83, 83] #[4] args).run Try.prog w).andThen fun v w' => .ok (.value v) w' := fun args w =>
  run_callFunc_extern Try.func89 (by kernel_rfl) (by kernel_rfl) (by kernel_rfl) (by kernel_rfl) args w
theorem size89 : ∀ w, (Go.sizeOf 89).run Try.prog w = .ok 8 w := fun w => by
  obtain ⟨ie, z, q1, q2, q3, q4, q5, q6⟩ := entInfo
  simp [sizeOf, typeInfo, q1, q2]
def laid (l : List En) (i : Nat) (e : En) : List En := l.take i ++ e :: l.drop i
theorem laid_len (l : List En) (i : Nat) (e : En) : (laid l i e).length = l.length + 1 := by unfold laid; simp; omega
theorem laid_flat (l : List En) (i : Nat) (e : En) : (laid l i e).flatMap En.cells = (l.take i).flatMap En.cells ++ e.cells ++ (l.drop i).flatMap En.cells := by unfold laid; rw [List.flatMap_append, List.flatMap_cons, List.append_assoc]
theorem info89 : (Try.prog.info? 89).map (·.size) = some 8 := by kernel_rfl
set_option maxRecDepth 100000 in
set_option maxHeartbeats 4000000 in
/-- There is no room. -/
theorem insert67g {σ : Hp} {g bv c i : Nat} {l : List En} {e : En} (hg : σ g = some (.row (l.flatMap En.cells) (c * 8) 89)) (hbv : σ bv = some (.row e.cells 8 89)) (hi : i < l.length) (hc : l.length ≤ c) (hroom : c < l.length + 1) (hn : l.length ≤ 1048576) :
    ACalls Try.prog 67 #[.slice (some ⟨g, 0, none⟩) l.length c, .int .i64 i, .slice (some ⟨bv, 0, none⟩) 1 1] σ fun u σ' => ∃ b c', σ b = none ∧ l.length + 1 ≤ c' ∧ u = .slice (some ⟨b, 0, none⟩) (l.length + 1) c' ∧ σ' = upd σ b (.row ((laid l i e).flatMap En.cells) (c' * 8) 89) := by
  have hl1 := sll_in 8 g 0 l.length c i (by omega) (by omega)
  have hl2 := slh_in 8 g 0 l.length c i (by omega) (by omega)
  have w1 : IntKind.i64.wrap ((l.length : Int) + 1) = ((l.length + 1 : Nat) : Int) := by rw [wi64 (by omega)]; rfl
  have w2 : IntKind.i64.wrap (((l.length + 1 : Nat) : Int) - (i : Int)) = ((l.length + 1 - i : Nat) : Int) := by rw [wi64 (by omega)]; omega
  have w3 : IntKind.i64.wrap ((i : Int) + 1) = ((i + 1 : Nat) : Int) := by rw [wi64 (by omega)]; rfl
  have d1 : decide ((i : Int) = (l.length : Int)) = false := by simp; omega
  have d2 : decide (((l.length + 1 : Nat) : Int) > (c : Int)) = true := by simp; omega
  have esplit : l.flatMap En.cells = (l.take i).flatMap En.cells ++ (l.drop i).flatMap En.cells := by rw [← List.flatMap_append, List.take_append_drop]
  have hxl : ((l.take i).flatMap En.cells).length = i * 8 := by rw [flat_len En.cells_len, List.length_take, Nat.min_eq_left (by omega)]
  have H := Hid.mk (And.intro hg (And.intro hbv (And.intro esplit hxl)))
  clear hg hbv esplit hxl
  (refine acalls_F ok67 (by simp) ?_; unfold c67 r67)
  (repeat' (first | (simp +contextual -dsimp only [*, En.cells, ↓reduceIte, ↓evP, evQ, splice_nil, splice_zero, splice_skip, Nat.reduceAdd, Nat.reduceEqDiff, Nat.reduceLeDiff, Nat.reduceMul, reduceCtorEq, Int.reduceLT, Int.reduceLE, Int.reduceGT, Int.reduceGE, Int.reduceEq, Int.reduceNeg]) | (refine condF_split (fun hc => ?_) (fun hc => ?_) <;> (try simp only [Bool.not_eq_true', Bool.not_eq_false', Bool.and_eq_true, Bool.or_eq_false_iff] at hc)) | (intro _; intros) | (refine And.intro ?_ ?_; focus (first | omega | ((repeat (first | exact Sub.refl _ | (refine Sub.drop ?_ ?_; focus (simp only [evN, *]; done)) | refine Sub.both ?_)); done) | (simp_all; done) | (simp_all; omega)))))
  refine raw_cap Try.underlying83 (by first | rfl | (simp only [↓putO_get, ↓putO_no, init_zero, init_succ, Nat.reduceEqDiff, ↓reduceIte, *]; done) | (simp only [↓putO_get, ↓putO_no, init_zero, init_succ, Nat.reduceEqDiff, ↓reduceIte, *]; rfl)) ?_
  (repeat' (first | (simp +contextual -dsimp only [*, En.cells, ↓reduceIte, ↓evP, evQ, splice_nil, splice_zero, splice_skip, Nat.reduceAdd, Nat.reduceEqDiff, Nat.reduceLeDiff, Nat.reduceMul, reduceCtorEq, Int.reduceLT, Int.reduceLE, Int.reduceGT, Int.reduceGE, Int.reduceEq, Int.reduceNeg]) | (refine condF_split (fun hc => ?_) (fun hc => ?_) <;> (try simp only [Bool.not_eq_true', Bool.not_eq_false', Bool.and_eq_true, Bool.or_eq_false_iff] at hc)) | (intro _; intros) | (refine And.intro ?_ ?_; focus (first | omega | ((repeat (first | exact Sub.refl _ | (refine Sub.drop ?_ ?_; focus (simp only [evN, *]; done)) | refine Sub.both ?_)); done) | (simp_all; done) | (simp_all; omega)))))
  obtain ⟨ie, z, q1, q2, q3, q4, q5, q6⟩ := entInfo
  refine hop_zeros (xs := (l.take i).flatMap En.cells) (tl := (l.drop i).flatMap En.cells) (room := c * 8) (k := l.length + 1 - i) (size := 8) (bytes := 80) (T := 89) Try.underlying83 Try.underlying3 q1 q4 q2 q3 q5 (by omega) (by first | rfl | (simp only [↓putO_get, ↓putO_no, init_zero, init_succ, Nat.reduceEqDiff, ↓reduceIte, *]; done) | (simp only [↓putO_get, ↓putO_no, init_zero, init_succ, Nat.reduceEqDiff, ↓reduceIte, *]; rfl)) (by first | rfl | (simp only [↓putO_get, ↓putO_no, init_zero, init_succ, Nat.reduceEqDiff, ↓reduceIte, *]; done) | (simp only [↓putO_get, ↓putO_no, init_zero, init_succ, Nat.reduceEqDiff, ↓reduceIte, *]; rfl)) (by rw [H.out.1, H.out.2.2.1]) H.out.2.2.2 (by omega) (by omega) (by omega) (by unfold maxLen; omega) ?_
  intro b c' Z hb hc' hZ
  rw [show i + (l.length + 1 - i) = l.length + 1 by omega] at hc' ⊢
  have hl3 := sll_in 8 b 0 (l.length + 1) c' i (by omega) (by omega)
  have hl4 := sll_in 8 b 0 (l.length + 1) c' (i + 1) (by omega) (by omega)
  have HB := Hid.mk (And.intro hb (And.intro hc' hZ))
  clear hb hc' hZ
  (repeat' (first | (simp +contextual -dsimp only [*, En.cells, ↓reduceIte, ↓evP, evQ, splice_nil, splice_zero, splice_skip, Nat.reduceAdd, Nat.reduceEqDiff, Nat.reduceLeDiff, Nat.reduceMul, reduceCtorEq, Int.reduceLT, Int.reduceLE, Int.reduceGT, Int.reduceGE, Int.reduceEq, Int.reduceNeg]) | (refine condF_split (fun hc => ?_) (fun hc => ?_) <;> (try simp only [Bool.not_eq_true', Bool.not_eq_false', Bool.and_eq_true, Bool.or_eq_false_iff] at hc)) | (intro _; intros) | (refine And.intro ?_ ?_; focus (first | omega | ((repeat (first | exact Sub.refl _ | (refine Sub.drop ?_ ?_; focus (simp only [evN, *]; done)) | refine Sub.both ?_)); done) | (simp_all; done) | (simp_all; omega)))))
  have hne1 : bv ≠ b := fun x => by have := HB.out.1; rw [← x, H.out.2.1] at this; cases this
  have hne2 : g ≠ b := fun x => by have := HB.out.1; rw [← x, H.out.1] at this; cases this
  have hAZ : ((l.take i).flatMap En.cells ++ Z).length = (l.length + 1) * 8 := by rw [List.length_append, H.out.2.2.2, HB.out.2.2]; omega
  have e1 : ((l.take i).flatMap En.cells ++ Z).take (i * 8) ++ e.cells ++ ((l.take i).flatMap En.cells ++ Z).drop (i * 8 + e.cells.length) = (l.take i).flatMap En.cells ++ e.cells ++ Z.drop 8 := by
    rw [← H.out.2.2.2, List.take_left, List.drop_append, List.drop_of_length_le (by omega), List.nil_append, Nat.add_sub_cancel_left]; rfl
  refine hop_copy (b := bv) (off := 0) (sLen := 1) (sCap := 1) (g := b) (o := i * 8) (dLen := l.length + 1 - i) (dCap := c' - i) (room := c' * 8) (size := 8) (T := 89) (xs := (l.take i).flatMap En.cells ++ Z) (ys := e.cells) Try.underlying83 info89 (by first | rfl | (simp only [↓putO_get, ↓putO_no, init_zero, init_succ, Nat.reduceEqDiff, ↓reduceIte, *]; done) | (simp only [↓putO_get, ↓putO_no, init_zero, init_succ, Nat.reduceEqDiff, ↓reduceIte, *]; rfl)) (by first | rfl | (simp only [↓putO_get, ↓putO_no, init_zero, init_succ, Nat.reduceEqDiff, ↓reduceIte, *]; done) | (simp only [↓putO_get, ↓putO_no, init_zero, init_succ, Nat.reduceEqDiff, ↓reduceIte, *]; rfl)) (upd_same _ _ _) (n := 1) (Nat.min_eq_left (by omega)) (by
      unfold rdn; rw [upd_ne _ _ hne1, H.out.2.1]; rfl) rfl (by rw [hAZ]; omega) (by show i * 8 + 8 ≤ c' * 8; have := HB.out.2.1; omega) ?_
  rw [e1, upd_upd]
  have hA2 : ((l.take i).flatMap En.cells ++ e.cells).length = (i + 1) * 8 := by rw [List.length_append, H.out.2.2.2]; show i * 8 + 8 = _; omega
  have hdl : ((l.drop i).flatMap En.cells).length = (l.length - i) * 8 := by rw [flat_len En.cells_len, List.length_drop]
  have e2 : ((l.take i).flatMap En.cells ++ e.cells ++ Z.drop 8).take ((i + 1) * 8) ++ (l.drop i).flatMap En.cells ++ ((l.take i).flatMap En.cells ++ e.cells ++ Z.drop 8).drop ((i + 1) * 8 + ((l.drop i).flatMap En.cells).length) = (laid l i e).flatMap En.cells := by
    have hz : ((l.take i).flatMap En.cells ++ e.cells ++ Z.drop 8).drop ((i + 1) * 8 + ((l.drop i).flatMap En.cells).length) = [] := List.drop_of_length_le (by rw [List.length_append, List.length_drop, HB.out.2.2, hdl, hA2]; omega)
    rw [hz, List.append_nil, ← hA2, List.take_left, laid_flat]
  have E := Hid.mk (And.intro e2 (And.intro hA2 hdl))
  clear e1 e2 hA2 hdl hAZ
  (repeat' (first | (simp +contextual -dsimp only [*, En.cells, ↓reduceIte, ↓evP, evQ, splice_nil, splice_zero, splice_skip, Nat.reduceAdd, Nat.reduceEqDiff, Nat.reduceLeDiff, Nat.reduceMul, reduceCtorEq, Int.reduceLT, Int.reduceLE, Int.reduceGT, Int.reduceGE, Int.reduceEq, Int.reduceNeg]) | (refine condF_split (fun hc => ?_) (fun hc => ?_) <;> (try simp only [Bool.not_eq_true', Bool.not_eq_false', Bool.and_eq_true, Bool.or_eq_false_iff] at hc)) | (intro _; intros) | (refine And.intro ?_ ?_; focus (first | omega | ((repeat (first | exact Sub.refl _ | (refine Sub.drop ?_ ?_; focus (simp only [evN, *]; done)) | refine Sub.both ?_)); done) | (simp_all; done) | (simp_all; omega)))))
  refine hop_copy (b := g) (off := i * 8) (sLen := l.length - i) (sCap := c - i) (g := b) (o := (i + 1) * 8) (dLen := l.length + 1 - (i + 1)) (dCap := c' - (i + 1)) (room := c' * 8) (size := 8) (T := 89) (xs := (l.take i).flatMap En.cells ++ e.cells ++ Z.drop 8) (ys := (l.drop i).flatMap En.cells) Try.underlying83 info89 (by first | rfl | (simp only [↓putO_get, ↓putO_no, init_zero, init_succ, Nat.reduceEqDiff, ↓reduceIte, *]; done) | (simp only [↓putO_get, ↓putO_no, init_zero, init_succ, Nat.reduceEqDiff, ↓reduceIte, *]; rfl)) (by first | rfl | (simp only [↓putO_get, ↓putO_no, init_zero, init_succ, Nat.reduceEqDiff, ↓reduceIte, *]; done) | (simp only [↓putO_get, ↓putO_no, init_zero, init_succ, Nat.reduceEqDiff, ↓reduceIte, *]; rfl)) (upd_same _ _ _) (n := l.length - i) (Nat.min_eq_left (by omega)) (by
      have := rdn_flat H.out.1 (i := i) (m := l.length - i) (by omega)
      rw [List.take_of_length_le (by rw [List.length_drop]; omega)] at this
      exact rdn_upd_none HB.out.1 this) (one_flat _) (by rw [List.length_append, E.out.2.1]; omega) (by rw [E.out.2.2]; have := HB.out.2.1; omega) ?_
  rw [E.out.1, upd_upd]
  (repeat' (first | (simp +contextual -dsimp only [*, En.cells, ↓reduceIte, ↓evP, evQ, splice_nil, splice_zero, splice_skip, Nat.reduceAdd, Nat.reduceEqDiff, Nat.reduceLeDiff, Nat.reduceMul, reduceCtorEq, Int.reduceLT, Int.reduceLE, Int.reduceGT, Int.reduceGE, Int.reduceEq, Int.reduceNeg]) | (refine condF_split (fun hc => ?_) (fun hc => ?_) <;> (try simp only [Bool.not_eq_true', Bool.not_eq_false', Bool.and_eq_true, Bool.or_eq_false_iff] at hc)) | (intro _; intros) | (refine And.intro ?_ ?_; focus (first | omega | ((repeat (first | exact Sub.refl _ | (refine Sub.drop ?_ ?_; focus (simp only [evN, *]; done)) | refine Sub.both ?_)); done) | (simp_all; done) | (simp_all; omega)))))
  exact endF_at ⟨b, c', HB.out.1, HB.out.2.1, rfl, rfl⟩
set_option maxRecDepth 100000 in
set_option maxHeartbeats 4000000 in
/-- There is room. -/
theorem insert67s {σ : Hp} {g bv c i : Nat} {l : List En} {e : En} (hg : σ g = some (.row (l.flatMap En.cells) (c * 8) 89)) (hbv : σ bv = some (.row e.cells 8 89)) (hne : bv ≠ g) (hi : i < l.length) (hroom : l.length + 1 ≤ c) (hn : l.length ≤ 1048576) :
    ACalls Try.prog 67 #[.slice (some ⟨g, 0, none⟩) l.length c, .int .i64 i, .slice (some ⟨bv, 0, none⟩) 1 1] σ fun u σ' => u = .slice (some ⟨g, 0, none⟩) (l.length + 1) c ∧ σ' = upd σ g (.row ((laid l i e).flatMap En.cells) (c * 8) 89) := by
  have hl1 := sll_in 8 g 0 l.length c i (by omega) (by omega)
  have hl2 := slh_in 8 g 0 l.length c (l.length + 1) (by omega) (by omega)
  have hl3 := sll_in 8 g 0 (l.length + 1) c (i + 1) (by omega) (by omega)
  have hl4 := sll_in 8 g 0 (l.length + 1) c i (by omega) (by omega)
  have w1 : IntKind.i64.wrap ((l.length : Int) + 1) = ((l.length + 1 : Nat) : Int) := by rw [wi64 (by omega)]; rfl
  have w3 : IntKind.i64.wrap ((i : Int) + 1) = ((i + 1 : Nat) : Int) := by rw [wi64 (by omega)]; rfl
  have d1 : decide ((i : Int) = (l.length : Int)) = false := by simp; omega
  have d2 : decide (((l.length + 1 : Nat) : Int) > (c : Int)) = false := by simp; omega
  have hxl : (l.flatMap En.cells).length = l.length * 8 := flat_len En.cells_len _
  have htl : ((l.take (i + 1)).flatMap En.cells).length = (i + 1) * 8 := by rw [flat_len En.cells_len, List.length_take, Nat.min_eq_left (by omega)]
  have hti : ((l.take i).flatMap En.cells).length = i * 8 := by rw [flat_len En.cells_len, List.length_take, Nat.min_eq_left (by omega)]
  have hdl : ((l.drop i).flatMap En.cells).length = (l.length - i) * 8 := by rw [flat_len En.cells_len, List.length_drop]
  have s1 : l.flatMap En.cells = (l.take (i + 1)).flatMap En.cells ++ (l.drop (i + 1)).flatMap En.cells := by rw [← List.flatMap_append, List.take_append_drop]
  obtain ⟨x, hx⟩ : ∃ x, l[i]? = some x := ⟨_, List.getElem?_eq_getElem hi⟩
  have s2 : (l.take (i + 1)).flatMap En.cells = (l.take i).flatMap En.cells ++ x.cells := by rw [List.take_add_one, hx]; simp
  have e1 : (l.flatMap En.cells).take ((i + 1) * 8) ++ (l.drop i).flatMap En.cells ++ (l.flatMap En.cells).drop ((i + 1) * 8 + ((l.drop i).flatMap En.cells).length) = (l.take i).flatMap En.cells ++ x.cells ++ (l.drop i).flatMap En.cells := by
    have hz : (l.flatMap En.cells).drop ((i + 1) * 8 + ((l.drop i).flatMap En.cells).length) = [] := List.drop_of_length_le (by rw [hxl, hdl]; omega)
    rw [hz, List.append_nil, ← s2]
    congr 1
    rw [s1, ← htl, List.take_left]
  have e2 : ((l.take i).flatMap En.cells ++ x.cells ++ (l.drop i).flatMap En.cells).take (i * 8) ++ e.cells ++ ((l.take i).flatMap En.cells ++ x.cells ++ (l.drop i).flatMap En.cells).drop (i * 8 + e.cells.length) = (laid l i e).flatMap En.cells := by
    rw [laid_flat]
    have h8 : i * 8 + e.cells.length = ((l.take i).flatMap En.cells ++ x.cells).length := by rw [List.length_append, hti]; rfl
    rw [h8, List.drop_left, List.append_assoc ((l.take i).flatMap En.cells) x.cells, ← hti, List.take_left]
  have H := Hid.mk (And.intro hg (And.intro hbv (And.intro e1 (And.intro e2 (And.intro hti (And.intro hdl hxl))))))
  clear hg hbv e1 e2 hti hdl hxl s1 s2 hx htl
  (refine acalls_F ok67 (by simp) ?_; unfold c67 r67)
  (repeat' (first | (simp +contextual -dsimp only [*, En.cells, ↓reduceIte, ↓evP, evQ, splice_nil, splice_zero, splice_skip, Nat.reduceAdd, Nat.reduceEqDiff, Nat.reduceLeDiff, Nat.reduceMul, reduceCtorEq, Int.reduceLT, Int.reduceLE, Int.reduceGT, Int.reduceGE, Int.reduceEq, Int.reduceNeg]) | (refine condF_split (fun hc => ?_) (fun hc => ?_) <;> (try simp only [Bool.not_eq_true', Bool.not_eq_false', Bool.and_eq_true, Bool.or_eq_false_iff] at hc)) | (intro _; intros) | (refine And.intro ?_ ?_; focus (first | omega | ((repeat (first | exact Sub.refl _ | (refine Sub.drop ?_ ?_; focus (simp only [evN, *]; done)) | refine Sub.both ?_)); done) | (simp_all; done) | (simp_all; omega)))))
  refine raw_cap Try.underlying83 (by first | rfl | (simp only [↓putO_get, ↓putO_no, init_zero, init_succ, Nat.reduceEqDiff, ↓reduceIte, *]; done) | (simp only [↓putO_get, ↓putO_no, init_zero, init_succ, Nat.reduceEqDiff, ↓reduceIte, *]; rfl)) ?_
  (repeat' (first | (simp +contextual -dsimp only [*, En.cells, ↓reduceIte, ↓evP, evQ, splice_nil, splice_zero, splice_skip, Nat.reduceAdd, Nat.reduceEqDiff, Nat.reduceLeDiff, Nat.reduceMul, reduceCtorEq, Int.reduceLT, Int.reduceLE, Int.reduceGT, Int.reduceGE, Int.reduceEq, Int.reduceNeg]) | (refine condF_split (fun hc => ?_) (fun hc => ?_) <;> (try simp only [Bool.not_eq_true', Bool.not_eq_false', Bool.and_eq_true, Bool.or_eq_false_iff] at hc)) | (intro _; intros) | (refine And.intro ?_ ?_; focus (first | omega | ((repeat (first | exact Sub.refl _ | (refine Sub.drop ?_ ?_; focus (simp only [evN, *]; done)) | refine Sub.both ?_)); done) | (simp_all; done) | (simp_all; omega)))))
  refine hop_overlaps (vb := bv) (g := g) (o1 := 0) (o2 := (i + 1) * 8) (n1 := 1) (c1 := 1) (n2 := l.length + 1 - (i + 1)) (c2 := c - (i + 1)) over89 Try.underlying83 size89 (by first | rfl | (simp only [↓putO_get, ↓putO_no, init_zero, init_succ, Nat.reduceEqDiff, ↓reduceIte, *]; done) | (simp only [↓putO_get, ↓putO_no, init_zero, init_succ, Nat.reduceEqDiff, ↓reduceIte, *]; rfl)) (by first | rfl | (simp only [↓putO_get, ↓putO_no, init_zero, init_succ, Nat.reduceEqDiff, ↓reduceIte, *]; done) | (simp only [↓putO_get, ↓putO_no, init_zero, init_succ, Nat.reduceEqDiff, ↓reduceIte, *]; rfl)) H.out.2.1 H.out.1 hne (by omega) ?_
  (repeat' (first | (simp +contextual -dsimp only [*, En.cells, ↓reduceIte, ↓evP, evQ, splice_nil, splice_zero, splice_skip, Nat.reduceAdd, Nat.reduceEqDiff, Nat.reduceLeDiff, Nat.reduceMul, reduceCtorEq, Int.reduceLT, Int.reduceLE, Int.reduceGT, Int.reduceGE, Int.reduceEq, Int.reduceNeg]) | (refine condF_split (fun hc => ?_) (fun hc => ?_) <;> (try simp only [Bool.not_eq_true', Bool.not_eq_false', Bool.and_eq_true, Bool.or_eq_false_iff] at hc)) | (intro _; intros) | (refine And.intro ?_ ?_; focus (first | omega | ((repeat (first | exact Sub.refl _ | (refine Sub.drop ?_ ?_; focus (simp only [evN, *]; done)) | refine Sub.both ?_)); done) | (simp_all; done) | (simp_all; omega)))))
  refine hop_copy (b := g) (off := i * 8) (sLen := l.length + 1 - i) (sCap := c - i) (g := g) (o := (i + 1) * 8) (dLen := l.length + 1 - (i + 1)) (dCap := c - (i + 1)) (room := c * 8) (size := 8) (T := 89) (xs := l.flatMap En.cells) (ys := (l.drop i).flatMap En.cells) Try.underlying83 info89 (by first | rfl | (simp only [↓putO_get, ↓putO_no, init_zero, init_succ, Nat.reduceEqDiff, ↓reduceIte, *]; done) | (simp only [↓putO_get, ↓putO_no, init_zero, init_succ, Nat.reduceEqDiff, ↓reduceIte, *]; rfl)) (by first | rfl | (simp only [↓putO_get, ↓putO_no, init_zero, init_succ, Nat.reduceEqDiff, ↓reduceIte, *]; done) | (simp only [↓putO_get, ↓putO_no, init_zero, init_succ, Nat.reduceEqDiff, ↓reduceIte, *]; rfl)) H.out.1 (n := l.length - i) (by rw [show l.length + 1 - (i + 1) = l.length - i by omega]; exact Nat.min_eq_right (by omega)) (by
      have := rdn_flat H.out.1 (i := i) (m := l.length - i) (by omega)
      rw [List.take_of_length_le (by rw [List.length_drop]; omega)] at this
      exact this) (one_flat _) (by rw [H.out.2.2.2.2.2.2]; omega) (by rw [H.out.2.2.2.2.2.1]; omega) ?_
  rw [H.out.2.2.1]
  (repeat' (first | (simp +contextual -dsimp only [*, En.cells, ↓reduceIte, ↓evP, evQ, splice_nil, splice_zero, splice_skip, Nat.reduceAdd, Nat.reduceEqDiff, Nat.reduceLeDiff, Nat.reduceMul, reduceCtorEq, Int.reduceLT, Int.reduceLE, Int.reduceGT, Int.reduceGE, Int.reduceEq, Int.reduceNeg]) | (refine condF_split (fun hc => ?_) (fun hc => ?_) <;> (try simp only [Bool.not_eq_true', Bool.not_eq_false', Bool.and_eq_true, Bool.or_eq_false_iff] at hc)) | (intro _; intros) | (refine And.intro ?_ ?_; focus (first | omega | ((repeat (first | exact Sub.refl _ | (refine Sub.drop ?_ ?_; focus (simp only [evN, *]; done)) | refine Sub.both ?_)); done) | (simp_all; done) | (simp_all; omega)))))
  refine hop_copy (b := bv) (off := 0) (sLen := 1) (sCap := 1) (g := g) (o := i * 8) (dLen := l.length + 1 - i) (dCap := c - i) (room := c * 8) (size := 8) (T := 89) (xs := (l.take i).flatMap En.cells ++ x.cells ++ (l.drop i).flatMap En.cells) (ys := e.cells) Try.underlying83 info89 (by first | rfl | (simp only [↓putO_get, ↓putO_no, init_zero, init_succ, Nat.reduceEqDiff, ↓reduceIte, *]; done) | (simp only [↓putO_get, ↓putO_no, init_zero, init_succ, Nat.reduceEqDiff, ↓reduceIte, *]; rfl)) (by first | rfl | (simp only [↓putO_get, ↓putO_no, init_zero, init_succ, Nat.reduceEqDiff, ↓reduceIte, *]; done) | (simp only [↓putO_get, ↓putO_no, init_zero, init_succ, Nat.reduceEqDiff, ↓reduceIte, *]; rfl)) (upd_same _ _ _) (n := 1) (Nat.min_eq_left (by omega)) (by
      unfold rdn; rw [upd_ne _ _ hne, H.out.2.1]; rfl) rfl (by rw [List.length_append, List.length_append, H.out.2.2.2.2.1]; omega) (by show i * 8 + 8 ≤ c * 8; omega) ?_
  rw [H.out.2.2.2.1, upd_upd]
  (repeat' (first | (simp +contextual -dsimp only [*, En.cells, ↓reduceIte, ↓evP, evQ, splice_nil, splice_zero, splice_skip, Nat.reduceAdd, Nat.reduceEqDiff, Nat.reduceLeDiff, Nat.reduceMul, reduceCtorEq, Int.reduceLT, Int.reduceLE, Int.reduceGT, Int.reduceGE, Int.reduceEq, Int.reduceNeg]) | (refine condF_split (fun hc => ?_) (fun hc => ?_) <;> (try simp only [Bool.not_eq_true', Bool.not_eq_false', Bool.and_eq_true, Bool.or_eq_false_iff] at hc)) | (intro _; intros) | (refine And.intro ?_ ?_; focus (first | omega | ((repeat (first | exact Sub.refl _ | (refine Sub.drop ?_ ?_; focus (simp only [evN, *]; done)) | refine Sub.both ?_)); done) | (simp_all; done) | (simp_all; omega)))))
  exact endF_at ⟨rfl, rfl⟩
theorem En.one_cells (x : En) : x.cells.all Go.Sp.one = true := rfl
set_option maxRecDepth 100000 in
set_option maxHeartbeats 4000000 in
theorem insert67e {σ : Hp} {bv : Nat} {v : Value} {l : List En} {e : En} (hv : RowsAt 89 8 En.cells σ v l) (hbv : σ bv = some (.row e.cells 8 89)) (hn : l.length ≤ 1048576) :
    ACalls Try.prog 67 #[v, .int .i64 l.length, .slice (some ⟨bv, 0, none⟩) 1 1] σ fun u σ' => RowsAt 89 8 En.cells σ' u (l ++ [e]) ∧ Grew σ v σ' u := by
  obtain ⟨A, c, rfl⟩ := hv.slice
  have hy : rdn σ bv 0 (1 * 8) = some ([e].flatMap En.cells) := by unfold rdn; rw [hbv]; rfl
  have hsl := lf_sll_eq 8 A l.length c .i64 (l.length : Int) (by omega)
  have d1 : decide ((l.length : Int) = (l.length : Int)) = true := by simp
  have H := Hid.mk (And.intro hv hy)
  clear hv hbv hy
  (refine acalls_F ok67 (by simp) ?_; unfold c67 r67)
  (repeat' (first | (simp +contextual -dsimp only [*, En.cells, ↓reduceIte, ↓evP, evQ, splice_nil, splice_zero, splice_skip, Nat.reduceAdd, Nat.reduceEqDiff, Nat.reduceLeDiff, Nat.reduceMul, reduceCtorEq, Int.reduceLT, Int.reduceLE, Int.reduceGT, Int.reduceGE, Int.reduceEq, Int.reduceNeg]) | (refine condF_split (fun hc => ?_) (fun hc => ?_) <;> (try simp only [Bool.not_eq_true', Bool.not_eq_false', Bool.and_eq_true, Bool.or_eq_false_iff] at hc)) | (intro _; intros) | (refine And.intro ?_ ?_; focus (first | omega | ((repeat (first | exact Sub.refl _ | (refine Sub.drop ?_ ?_; focus (simp only [evN, *]; done)) | refine Sub.both ?_)); done) | (simp_all; done) | (simp_all; omega)))))
  refine app_row (ys := [e]) En.cells_len En.one_cells H.out.1 H.out.2 rfl (by omega) (by omega) (by unfold maxLen; omega) ?_
  intro v' σ' hv' hG
  have HG := Hid.mk (And.intro hv' hG)
  clear hv' hG
  (repeat' (first | (simp +contextual -dsimp only [*, En.cells, ↓reduceIte, ↓evP, evQ, splice_nil, splice_zero, splice_skip, Nat.reduceAdd, Nat.reduceEqDiff, Nat.reduceLeDiff, Nat.reduceMul, reduceCtorEq, Int.reduceLT, Int.reduceLE, Int.reduceGT, Int.reduceGE, Int.reduceEq, Int.reduceNeg]) | (refine condF_split (fun hc => ?_) (fun hc => ?_) <;> (try simp only [Bool.not_eq_true', Bool.not_eq_false', Bool.and_eq_true, Bool.or_eq_false_iff] at hc)) | (intro _; intros) | (refine And.intro ?_ ?_; focus (first | omega | ((repeat (first | exact Sub.refl _ | (refine Sub.drop ?_ ?_; focus (simp only [evN, *]; done)) | refine Sub.both ?_)); done) | (simp_all; done) | (simp_all; omega)))))
  exact endF_at HG.out
theorem insert67 {σ : Hp} {bv i : Nat} {v : Value} {l : List En} {e : En} (hv : RowsAt 89 8 En.cells σ v l) (hbv : σ bv = some (.row e.cells 8 89)) (hne : blk v ≠ some bv) (hi : i ≤ l.length) (hn : l.length ≤ 1048576) :
    ACalls Try.prog 67 #[v, .int .i64 i, .slice (some ⟨bv, 0, none⟩) 1 1] σ fun u σ' => RowsAt 89 8 En.cells σ' u (laid l i e) ∧ Grew σ v σ' u := by
  rcases Nat.lt_or_ge i l.length with c1 | c1
  · rcases hv with ⟨_, rfl⟩ | ⟨g, c, rfl, hc, hg⟩
    · simp at c1
    · rcases Nat.lt_or_ge c (l.length + 1) with c2 | c2
      · refine (insert67g hg hbv c1 hc c2 hn).mono fun u σ' h => ?_
        obtain ⟨b, c', h1, h2, rfl, rfl⟩ := h
        exact ⟨.inr ⟨b, c', by rw [laid_len], by rw [laid_len]; exact h2, upd_same _ _ _⟩, Same.updNew h1 (Same.refl _ _), fun k hk => by cases hk; exact .inr h1⟩
      · refine (insert67s hg hbv (fun x => hne (by rw [x]; rfl)) c1 c2 hn).mono fun u σ' h => ?_
        obtain ⟨rfl, rfl⟩ := h
        exact ⟨.inr ⟨g, c, by rw [laid_len], by rw [laid_len]; exact c2, upd_same _ _ _⟩, Same.updIn (F := fun k => blk (.slice (some ⟨g, 0, none⟩) l.length c) = some k) rfl (Same.refl _ _), fun k hk => by cases hk; exact .inl rfl⟩
  · obtain rfl : i = l.length := by omega
    have e1 : laid l l.length e = l ++ [e] := by unfold laid; rw [List.take_length, List.drop_length]
    rw [e1]
    exact insert67e hv hbv hn
/-- The value that a table's map has for a key. -/
def valT (l : List (ByteArray × Value)) (k : ByteArray) : Value := (mget l k).getD (.slice none 0 0)
def keysT (l : List (ByteArray × Value)) : List ByteArray := l.map Prod.fst
def entsT (ks : List ByteArray) (R : ByteArray → List En) : List En := ks.flatMap R
def costs (es : List En) : Nat := (es.map cost).sum
def turnR (R : ByteArray → List En) (k : ByteArray) (r : List En) : ByteArray → List En := fun k' => if k' = k then r else R k'
theorem costs_perm {a b : List En} (h : a.Perm b) : costs a = costs b := by unfold costs; exact (h.map cost).sum_nat
theorem costs_cons (e : En) (es : List En) : costs (e :: es) = cost e + costs es := by unfold costs; simp
theorem entsT_off {ks : List ByteArray} {R : ByteArray → List En} {k : ByteArray} {r : List En} (h : k ∉ ks) : entsT ks (turnR R k r) = entsT ks R := by
  unfold entsT
  induction ks with
  | nil => rfl
  | cons a t ih =>
    rw [List.flatMap_cons, List.flatMap_cons, ih (fun q => h (List.mem_cons_of_mem _ q))]
    congr 1
    unfold turnR; rw [if_neg (fun q => h (by rw [q]; exact List.mem_cons_self ..))]
def put1 (k : ByteArray) : List ByteArray → List ByteArray
  | [] => [k]
  | a :: t => if k = a then a :: t else a :: put1 k t
def del1 (k : ByteArray) : List ByteArray → List ByteArray
  | [] => []
  | a :: t => if k = a then t else a :: del1 k t
theorem mem_put1 (k x : ByteArray) : ∀ (l : List ByteArray), x ∈ put1 k l ↔ x = k ∨ x ∈ l
  | [] => by unfold put1; simp
  | a :: t => by
    unfold put1
    by_cases h : k = a
    · rw [if_pos h, h]
      exact ⟨fun q => .inr q, fun q => q.elim (fun e => by rw [e]; exact List.mem_cons_self ..) id⟩
    · rw [if_neg h, List.mem_cons, List.mem_cons, mem_put1 k x t]
      exact ⟨fun q => q.elim (fun e => .inr (.inl e)) fun q => q.elim .inl fun q => .inr (.inr q), fun q => q.elim (fun e => .inr (.inl e)) fun q => q.elim .inl fun q => .inr (.inr q)⟩
theorem nodup_put1 (k : ByteArray) : ∀ {l : List ByteArray}, l.Nodup → (put1 k l).Nodup
  | [], _ => by unfold put1; simp
  | a :: t, hn => by
    have hn' := List.nodup_cons.1 hn
    unfold put1
    by_cases h : k = a
    · rw [if_pos h]; exact hn
    · rw [if_neg h]
      refine List.nodup_cons.2 ⟨fun q => ?_, nodup_put1 k hn'.2⟩
      exact ((mem_put1 k a t).1 q).elim (fun e => h e.symm) hn'.1
theorem mem_del1 {k x : ByteArray} : ∀ {l : List ByteArray}, l.Nodup → (x ∈ del1 k l ↔ x ≠ k ∧ x ∈ l)
  | [], _ => by unfold del1; simp
  | a :: t, hn => by
    have hn' := List.nodup_cons.1 hn
    unfold del1
    by_cases h : k = a
    · rw [if_pos h, h]
      exact ⟨fun q => ⟨fun e => hn'.1 (by rw [← e]; exact q), List.mem_cons_of_mem _ q⟩, fun q => (List.mem_cons.1 q.2).resolve_left q.1⟩
    · rw [if_neg h, List.mem_cons, mem_del1 hn'.2, List.mem_cons]
      exact ⟨fun q => q.elim (fun e => ⟨fun e' => h (e'.symm.trans e), .inl e⟩) fun q => ⟨q.1, .inr q.2⟩, fun q => q.2.elim .inl fun r => .inr ⟨q.1, r⟩⟩
theorem nodup_del1 (k : ByteArray) : ∀ {l : List ByteArray}, l.Nodup → (del1 k l).Nodup
  | [], _ => List.nodup_nil
  | a :: t, hn => by
    have hn' := List.nodup_cons.1 hn
    unfold del1
    by_cases h : k = a
    · rw [if_pos h]; exact hn'.2
    · rw [if_neg h]
      exact List.nodup_cons.2 ⟨fun q => hn'.1 ((mem_del1 hn'.2).1 q).2, nodup_del1 k hn'.2⟩
theorem turnR_at (R : ByteArray → List En) (k : ByteArray) (r : List En) : turnR R k r k = r := if_pos rfl
theorem turnR_ne (R : ByteArray → List En) {k a : ByteArray} (r : List En) (h : a ≠ k) : turnR R k r a = R a := if_neg h
/-- One more. -/
theorem entsT_put {k : ByteArray} {R : ByteArray → List En} {r : List En} {e : En} (hr : r.Perm (e :: R k)) : ∀ {ks : List ByteArray}, ks.Nodup → (k ∉ ks → R k = []) → (entsT (put1 k ks) (turnR R k r)).Perm (e :: entsT ks R)
  | [], _, h0 => by
    rw [h0 (by simp)] at hr
    unfold put1 entsT
    rw [List.flatMap_cons, turnR_at]
    simpa using hr
  | a :: t, hn, h0 => by
    have hn' := List.nodup_cons.1 hn
    unfold put1
    by_cases h : k = a
    · subst h
      rw [if_pos rfl]
      have := entsT_off (R := R) (r := r) hn'.1
      unfold entsT at this ⊢
      rw [List.flatMap_cons, this, turnR_at, List.flatMap_cons]
      refine (hr.append_right _).trans ?_
      rw [List.cons_append]
    · rw [if_neg h]
      have ih := entsT_put hr hn'.2 (fun q => h0 (fun q' => (List.mem_cons.1 q').elim h q))
      unfold entsT at ih ⊢
      rw [List.flatMap_cons, turnR_ne _ _ (fun e => h e.symm), List.flatMap_cons]
      exact (ih.append_left _).trans List.perm_middle
/-- One less. -/
theorem entsT_drop {k : ByteArray} {R : ByteArray → List En} {r : List En} {e : En} (hr : (R k).Perm (e :: r)) : ∀ {ks : List ByteArray}, ks.Nodup → k ∈ ks → (entsT ks R).Perm (e :: entsT ks (turnR R k r)) ∧ (r = [] → (entsT ks R).Perm (e :: entsT (del1 k ks) (turnR R k r)))
  | [], _, h => by simp at h
  | a :: t, hn, hk => by
    have hn' := List.nodup_cons.1 hn
    by_cases h : k = a
    · subst h
      have := entsT_off (R := R) (r := r) hn'.1
      unfold entsT at this ⊢
      unfold del1
      rw [if_pos rfl, List.flatMap_cons, List.flatMap_cons, turnR_at, this]
      refine ⟨(hr.append_right _).trans (by rw [List.cons_append]), fun h0 => ?_⟩
      subst h0
      exact (hr.append_right _)
    · have ih := entsT_drop hr hn'.2 ((List.mem_cons.1 hk).resolve_left h)
      unfold del1
      rw [if_neg h]
      unfold entsT at ih ⊢
      rw [List.flatMap_cons, List.flatMap_cons, List.flatMap_cons, turnR_ne _ _ (fun e => h e.symm)]
      exact ⟨(ih.1.append_left _).trans List.perm_middle, fun h0 => ((ih.2 h0).append_left _).trans List.perm_middle⟩
theorem keysT_put (k : ByteArray) (v : Value) : ∀ (l : List (ByteArray × Value)), keysT (mput l k v) = put1 k (keysT l)
  | [] => rfl
  | p :: r => by
    have ih := keysT_put k v r
    unfold mput
    show _ = put1 k (p.1 :: keysT r)
    unfold put1
    by_cases h : k = p.1
    · rw [if_pos h, if_pos h]
      show k :: keysT r = p.1 :: keysT r
      rw [h]
    · rw [if_neg h, if_neg h, ← ih]; rfl
theorem keysT_del (k : ByteArray) : ∀ (l : List (ByteArray × Value)), keysT (mdel l k) = del1 k (keysT l)
  | [] => rfl
  | p :: r => by
    have ih := keysT_del k r
    unfold mdel
    show _ = del1 k (p.1 :: keysT r)
    unfold del1
    by_cases h : k = p.1
    · rw [if_pos h, if_pos h]
    · rw [if_neg h, if_neg h, ← ih]; rfl
theorem mget_none {k : ByteArray} : ∀ {l : List (ByteArray × Value)}, k ∉ keysT l → mget l k = none
  | [], _ => rfl
  | p :: r, h => by
    unfold mget
    rw [if_neg (fun q => h (by rw [q]; exact List.mem_cons_self ..))]
    exact mget_none (fun q => h (List.mem_cons_of_mem _ q))
theorem mget_put (k k' : ByteArray) (v : Value) : ∀ (l : List (ByteArray × Value)), mget (mput l k v) k' = if k' = k then some v else mget l k'
  | [] => by
    unfold mput mget
    by_cases h : k' = k
    · rw [if_pos h, if_pos h]
    · rw [if_neg h, if_neg h]; rfl
  | p :: r => by
    have ih := mget_put k k' v r
    unfold mput
    by_cases h : k = p.1
    · rw [if_pos h]
      unfold mget
      by_cases h' : k' = k
      · rw [if_pos h', if_pos h']
      · rw [if_neg h', if_neg h', if_neg (fun e => h' (e.trans h.symm))]
    · rw [if_neg h]
      unfold mget
      by_cases h' : k' = p.1
      · rw [if_pos h', if_pos h', if_neg (fun e => h (e.symm.trans h'))]
      · rw [if_neg h', if_neg h', ih]
theorem mget_del (k k' : ByteArray) : ∀ (l : List (ByteArray × Value)), (keysT l).Nodup → mget (mdel l k) k' = if k' = k then none else mget l k'
  | [], _ => by
    by_cases h : k' = k
    · rw [if_pos h]; rfl
    · rw [if_neg h]; rfl
  | p :: r, hn => by
    have hn' := (List.nodup_cons.1 hn)
    have ih := mget_del k k' r hn'.2
    unfold mdel
    by_cases h : k = p.1
    · rw [if_pos h]
      by_cases h' : k' = k
      · rw [if_pos h', h', h]; exact mget_none hn'.1
      · rw [if_neg h']
        conv => rhs; unfold mget
        rw [if_neg (fun e => h' (e.trans h.symm))]
    · rw [if_neg h]
      unfold mget
      by_cases h' : k' = p.1
      · rw [if_pos h', if_pos h', if_neg (fun e => h (e.symm.trans h'))]
      · rw [if_neg h', if_neg h', ih]
theorem valT_put (l : List (ByteArray × Value)) (k k' : ByteArray) (v : Value) : valT (mput l k v) k' = if k' = k then v else valT l k' := by
  unfold valT; rw [mget_put]; split <;> rfl
theorem valT_del {l : List (ByteArray × Value)} (hn : (keysT l).Nodup) (k k' : ByteArray) : valT (mdel l k) k' = if k' = k then .slice none 0 0 else valT l k' := by
  unfold valT; rw [mget_del _ _ _ hn]; split <;> rfl
def mapBlk (σ : Hp) (mo : Option Nat) (l : List (ByteArray × Value)) : Prop := match mo with | none => l = [] | some m => σ m = some (.mp l)
def tabC (mo : Option Nat) (n b : Nat) : List Value := [.map mo, .int .i64 (n : Nat), .int .i64 (b : Nat)]
structure TabOk (l : List (ByteArray × Value)) (R : ByteArray → List En) : Prop where
  keys : (keysT l).Nodup
  full : ∀ k, k ∈ keysT l ↔ R k ≠ []
  apart : ∀ k k', k ≠ k' → ∀ b, blk (valT l k) = some b → blk (valT l k') ≠ some b
  ris : ∀ k, Rising (R k)
  own : ∀ k, ∀ e ∈ R k, e.key = k ∧ e.key.size ≤ 32 ∧ e.data.size ≤ 256
structure TabAt (σ : Hp) (g : Nat) (mo : Option Nat) (l : List (ByteArray × Value)) (R : ByteArray → List En) : Prop where
  cell : σ g = some (.cells (tabC mo (entsT (keysT l) R).length (costs (entsT (keysT l) R))) 151)
  map : mapBlk σ mo l
  rep : ∀ k, RowsAt 89 8 En.cells σ (valT l k) (R k)
  ok : TabOk l R
/-- The blocks of a table. -/
def OwnT (g : Nat) (mo : Option Nat) (l : List (ByteArray × Value)) (k : Nat) : Prop := k = g ∨ mo = some k ∨ ∃ key, blk (valT l key) = some k
/-- What is known stays, but for the table's own; what is the table's is so from before, or new. -/
structure TMov (g : Nat) (σ : Hp) (mo : Option Nat) (l : List (ByteArray × Value)) (σ' : Hp) (mo' : Option Nat) (l' : List (ByteArray × Value)) : Prop where
  same : Same (OwnT g mo l) σ σ'
  own : ∀ k, OwnT g mo' l' k → OwnT g mo l k ∨ σ k = none
theorem TMov.refl (g : Nat) (σ : Hp) (mo : Option Nat) (l : List (ByteArray × Value)) : TMov g σ mo l σ mo l := ⟨Same.refl _ _, fun _ h => .inl h⟩
theorem TMov.trans {g : Nat} {σ σ1 σ2 : Hp} {mo mo1 mo2 : Option Nat} {l l1 l2 : List (ByteArray × Value)} (h : TMov g σ mo l σ1 mo1 l1) (k : TMov g σ1 mo1 l1 σ2 mo2 l2) : TMov g σ mo l σ2 mo2 l2 :=
  ⟨h.same.trans k.same fun i hi ho => (h.own i ho).elim id fun e => absurd e hi, fun i hi => by
    rcases k.own i hi with q | q
    · exact h.own i q
    · by_cases ho : OwnT g mo l i
      · exact .inl ho
      · right
        by_cases hz : σ i = none
        · exact hz
        · have := h.same i hz ho
          rw [q] at this; exact this.symm⟩
theorem mread_tab {σ : Hp} {mo : Option Nat} {l : List (ByteArray × Value)} (hm : mapBlk σ mo l) (k : ByteArray) : mreadV σ (.map mo) (.get false false) (.slice none 0 0) (.string k) = some (valT l k) := by
  cases mo with
  | none =>
    have : l = [] := hm
    subst this; rfl
  | some m =>
    have hm : σ m = some (.mp l) := hm
    simp only [mreadV, hm, Option.bind_some, bread]
    rfl
theorem row86 {σ : Hp} {g : Nat} {mo : Option Nat} {l : List (ByteArray × Value)} {n b : Nat} (hc : σ g = some (.cells (tabC mo n b) 151)) (hm : mapBlk σ mo l) (k : ByteArray) :
    ACalls Try.prog 86 #[.pointer (some ⟨g, 0, none⟩), .string k] σ fun u σ' => u = valT l k ∧ σ' = σ := by
  have h := mread_tab hm k
  have hr : Go.Sp.rd σ g 0 = some (.map mo) := by unfold Go.Sp.rd; rw [hc]; rfl
  clear hc hm
  (refine acalls_F ok86 (by simp) ?_; unfold c86 r86)
  (repeat' (first | (simp +contextual -dsimp only [*, En.cells, ↓reduceIte, ↓evP, evQ, splice_nil, splice_zero, splice_skip, Nat.reduceAdd, Nat.reduceEqDiff, Nat.reduceLeDiff, Nat.reduceMul, reduceCtorEq, Int.reduceLT, Int.reduceLE, Int.reduceGT, Int.reduceGE, Int.reduceEq, Int.reduceNeg]) | (refine condF_split (fun hc => ?_) (fun hc => ?_) <;> (try simp only [Bool.not_eq_true', Bool.not_eq_false', Bool.and_eq_true, Bool.or_eq_false_iff] at hc)) | (intro _; intros) | (refine And.intro ?_ ?_; focus (first | omega | ((repeat (first | exact Sub.refl _ | (refine Sub.drop ?_ ?_; focus (simp only [evN, *]; done)) | refine Sub.both ?_)); done) | (simp_all; done) | (simp_all; omega)))))
  all_goals (refine endF_det ?_ ?_; (focus ((try simp only [cond_true, cond_false, *]) <;> ((try simp only [decide_eq_true_eq, decide_eq_false_iff_not] at *) <;> first | rfl | (simp []; done) | (simp_all []; done) | (simp []; omega) | (simp []; (rw [Bool.eq_iff_iff]); simp; omega) | (simp_all [] <;> omega) | ((try unfold id); (rw [Value.bool.injEq, Bool.eq_iff_iff]); simp <;> omega) | ((try unfold id); (repeat' split) <;> simp_all <;> omega) | (simp_all [] <;> (repeat' split) <;> simp_all <;> omega)))); (focus ((try simp only [cond_true, cond_false, set_same, *]); exact (by (repeat (first | exact Sub.refl _ | (refine Sub.drop ?_ ?_; focus (simp only [evN, *]; done)) | refine Sub.both ?_)); done))))
theorem find66 {σ : Hp} {g : Nat} {mo : Option Nat} {l : List (ByteArray × Value)} {n b : Nat} {r : List En} (hc : σ g = some (.cells (tabC mo n b) 151)) (hm : mapBlk σ mo l) {k : ByteArray} (hr : RowsAt 89 8 En.cells σ (valT l k) r) (hs : Rising r) (hn : r.length ≤ 1048576) (x : Int) :
    ACalls Try.prog 66 #[.pointer (some ⟨g, 0, none⟩), .string k, .int .i64 x] σ fun u σ' => u = .tuple #[.int .i64 (pl r x), .bool (hasE r x)] ∧ σ' = σ := by
  have q1 := row86 hc hm k
  obtain ⟨A, c, e⟩ := hr.slice
  rw [e] at hr q1
  have q2 := search85 (hr.ro En.cells_len) hs hn x
  have Q := Hid.mk (And.intro q1 q2)
  clear q1 q2 hr hs hc hm e
  (refine acalls_F ok66 (by simp) ?_; unfold c66 r66)
  (repeat' (first | (simp +contextual -dsimp only [*, En.cells, ↓reduceIte, ↓evP, evQ, splice_nil, splice_zero, splice_skip, Nat.reduceAdd, Nat.reduceEqDiff, Nat.reduceLeDiff, Nat.reduceMul, reduceCtorEq, Int.reduceLT, Int.reduceLE, Int.reduceGT, Int.reduceGE, Int.reduceEq, Int.reduceNeg]) | (refine condF_split (fun hc => ?_) (fun hc => ?_) <;> (try simp only [Bool.not_eq_true', Bool.not_eq_false', Bool.and_eq_true, Bool.or_eq_false_iff] at hc)) | (intro _; intros) | (refine And.intro ?_ ?_; focus (first | omega | ((repeat (first | exact Sub.refl _ | (refine Sub.drop ?_ ?_; focus (simp only [evN, *]; done)) | refine Sub.both ?_)); done) | (simp_all; done) | (simp_all; omega)))))
  refine callF_v Q.out.1 ?_
  (repeat' (first | (simp +contextual -dsimp only [*, En.cells, ↓reduceIte, ↓evP, evQ, splice_nil, splice_zero, splice_skip, Nat.reduceAdd, Nat.reduceEqDiff, Nat.reduceLeDiff, Nat.reduceMul, reduceCtorEq, Int.reduceLT, Int.reduceLE, Int.reduceGT, Int.reduceGE, Int.reduceEq, Int.reduceNeg]) | (refine condF_split (fun hc => ?_) (fun hc => ?_) <;> (try simp only [Bool.not_eq_true', Bool.not_eq_false', Bool.and_eq_true, Bool.or_eq_false_iff] at hc)) | (intro _; intros) | (refine And.intro ?_ ?_; focus (first | omega | ((repeat (first | exact Sub.refl _ | (refine Sub.drop ?_ ?_; focus (simp only [evN, *]; done)) | refine Sub.both ?_)); done) | (simp_all; done) | (simp_all; omega)))))
  refine callF_v Q.out.2 ?_
  (repeat' (first | (simp +contextual -dsimp only [*, En.cells, ↓reduceIte, ↓evP, evQ, splice_nil, splice_zero, splice_skip, Nat.reduceAdd, Nat.reduceEqDiff, Nat.reduceLeDiff, Nat.reduceMul, reduceCtorEq, Int.reduceLT, Int.reduceLE, Int.reduceGT, Int.reduceGE, Int.reduceEq, Int.reduceNeg]) | (refine condF_split (fun hc => ?_) (fun hc => ?_) <;> (try simp only [Bool.not_eq_true', Bool.not_eq_false', Bool.and_eq_true, Bool.or_eq_false_iff] at hc)) | (intro _; intros) | (refine And.intro ?_ ?_; focus (first | omega | ((repeat (first | exact Sub.refl _ | (refine Sub.drop ?_ ?_; focus (simp only [evN, *]; done)) | refine Sub.both ?_)); done) | (simp_all; done) | (simp_all; omega)))))
  all_goals (refine endF_det ?_ ?_; (focus ((try simp only [cond_true, cond_false, *]) <;> ((try simp only [decide_eq_true_eq, decide_eq_false_iff_not] at *) <;> first | rfl | (simp []; done) | (simp_all []; done) | (simp []; omega) | (simp []; (rw [Bool.eq_iff_iff]); simp; omega) | (simp_all [] <;> omega) | ((try unfold id); (rw [Value.bool.injEq, Bool.eq_iff_iff]); simp <;> omega) | ((try unfold id); (repeat' split) <;> simp_all <;> omega) | (simp_all [] <;> (repeat' split) <;> simp_all <;> omega)))); (focus ((try simp only [cond_true, cond_false, set_same, *]); exact (by (repeat (first | exact Sub.refl _ | (refine Sub.drop ?_ ?_; focus (simp only [evN, *]; done)) | refine Sub.both ?_)); done))))
theorem len39 {σ : Hp} {g : Nat} {mo : Option Nat} {n b : Nat} (hc : σ g = some (.cells (tabC mo n b) 151)) : ACalls Try.prog 39 #[.pointer (some ⟨g, 0, none⟩)] σ fun u σ' => u = .int .i64 n ∧ σ' = σ := by
  have hr : Go.Sp.rd σ g 1 = some (.int .i64 n) := by unfold Go.Sp.rd; rw [hc]; rfl
  clear hc
  (refine acalls_F ok39 (by simp) ?_; unfold c39 r39)
  (repeat' (first | (simp +contextual -dsimp only [*, En.cells, ↓reduceIte, ↓evP, evQ, splice_nil, splice_zero, splice_skip, Nat.reduceAdd, Nat.reduceEqDiff, Nat.reduceLeDiff, Nat.reduceMul, reduceCtorEq, Int.reduceLT, Int.reduceLE, Int.reduceGT, Int.reduceGE, Int.reduceEq, Int.reduceNeg]) | (refine condF_split (fun hc => ?_) (fun hc => ?_) <;> (try simp only [Bool.not_eq_true', Bool.not_eq_false', Bool.and_eq_true, Bool.or_eq_false_iff] at hc)) | (intro _; intros) | (refine And.intro ?_ ?_; focus (first | omega | ((repeat (first | exact Sub.refl _ | (refine Sub.drop ?_ ?_; focus (simp only [evN, *]; done)) | refine Sub.both ?_)); done) | (simp_all; done) | (simp_all; omega)))))
  all_goals (refine endF_det ?_ ?_; (focus ((try simp only [cond_true, cond_false, *]) <;> ((try simp only [decide_eq_true_eq, decide_eq_false_iff_not] at *) <;> first | rfl | (simp []; done) | (simp_all []; done) | (simp []; omega) | (simp []; (rw [Bool.eq_iff_iff]); simp; omega) | (simp_all [] <;> omega) | ((try unfold id); (rw [Value.bool.injEq, Bool.eq_iff_iff]); simp <;> omega) | ((try unfold id); (repeat' split) <;> simp_all <;> omega) | (simp_all [] <;> (repeat' split) <;> simp_all <;> omega)))); (focus ((try simp only [cond_true, cond_false, set_same, *]); exact (by (repeat (first | exact Sub.refl _ | (refine Sub.drop ?_ ?_; focus (simp only [evN, *]; done)) | refine Sub.both ?_)); done))))
theorem bytes36 {σ : Hp} {g : Nat} {mo : Option Nat} {n b : Nat} (hc : σ g = some (.cells (tabC mo n b) 151)) : ACalls Try.prog 36 #[.pointer (some ⟨g, 0, none⟩)] σ fun u σ' => u = .int .i64 b ∧ σ' = σ := by
  have hr : Go.Sp.rd σ g 2 = some (.int .i64 b) := by unfold Go.Sp.rd; rw [hc]; rfl
  clear hc
  (refine acalls_F ok36 (by simp) ?_; unfold c36 r36)
  (repeat' (first | (simp +contextual -dsimp only [*, En.cells, ↓reduceIte, ↓evP, evQ, splice_nil, splice_zero, splice_skip, Nat.reduceAdd, Nat.reduceEqDiff, Nat.reduceLeDiff, Nat.reduceMul, reduceCtorEq, Int.reduceLT, Int.reduceLE, Int.reduceGT, Int.reduceGE, Int.reduceEq, Int.reduceNeg]) | (refine condF_split (fun hc => ?_) (fun hc => ?_) <;> (try simp only [Bool.not_eq_true', Bool.not_eq_false', Bool.and_eq_true, Bool.or_eq_false_iff] at hc)) | (intro _; intros) | (refine And.intro ?_ ?_; focus (first | omega | ((repeat (first | exact Sub.refl _ | (refine Sub.drop ?_ ?_; focus (simp only [evN, *]; done)) | refine Sub.both ?_)); done) | (simp_all; done) | (simp_all; omega)))))
  all_goals (refine endF_det ?_ ?_; (focus ((try simp only [cond_true, cond_false, *]) <;> ((try simp only [decide_eq_true_eq, decide_eq_false_iff_not] at *) <;> first | rfl | (simp []; done) | (simp_all []; done) | (simp []; omega) | (simp []; (rw [Bool.eq_iff_iff]); simp; omega) | (simp_all [] <;> omega) | ((try unfold id); (rw [Value.bool.injEq, Bool.eq_iff_iff]); simp <;> omega) | ((try unfold id); (repeat' split) <;> simp_all <;> omega) | (simp_all [] <;> (repeat' split) <;> simp_all <;> omega)))); (focus ((try simp only [cond_true, cond_false, set_same, *]); exact (by (repeat (first | exact Sub.refl _ | (refine Sub.drop ?_ ?_; focus (simp only [evN, *]; done)) | refine Sub.both ?_)); done))))
theorem new32 (σ : Hp) : ACalls Try.prog 32 #[] σ fun u σ' => ∃ g, σ g = none ∧ u = .pointer (some ⟨g, 0, none⟩) ∧ σ' = upd σ g (.cells (tabC none 0 0) 151) := by
  (refine acalls_F ok32 (by simp) ?_; unfold c32 r32)
  (repeat' (first | (simp +contextual -dsimp only [*, En.cells, ↓reduceIte, ↓evP, evQ, splice_nil, splice_zero, splice_skip, Nat.reduceAdd, Nat.reduceEqDiff, Nat.reduceLeDiff, Nat.reduceMul, reduceCtorEq, Int.reduceLT, Int.reduceLE, Int.reduceGT, Int.reduceGE, Int.reduceEq, Int.reduceNeg]) | (refine condF_split (fun hc => ?_) (fun hc => ?_) <;> (try simp only [Bool.not_eq_true', Bool.not_eq_false', Bool.and_eq_true, Bool.or_eq_false_iff] at hc)) | (intro _; intros) | (refine And.intro ?_ ?_; focus (first | omega | ((repeat (first | exact Sub.refl _ | (refine Sub.drop ?_ ?_; focus (simp only [evN, *]; done)) | refine Sub.both ?_)); done) | (simp_all; done) | (simp_all; omega)))))
  rename_i b hb
  exact endF_at ⟨b, hb, rfl, rfl⟩
theorem costs_le {es : List En} (h : ∀ e ∈ es, e.key.size ≤ 32 ∧ e.data.size ≤ 256) : costs es ≤ 320 * es.length := by
  induction es with
  | nil => simp [costs]
  | cons e t ih =>
    have h1 := h e (List.mem_cons_self ..)
    have h2 := ih fun x hx => h x (List.mem_cons_of_mem _ hx)
    rw [costs_cons, List.length_cons]
    unfold cost; omega
theorem TabOk.small {l : List (ByteArray × Value)} {R : ByteArray → List En} (h : TabOk l R) : ∀ e ∈ entsT (keysT l) R, e.key.size ≤ 32 ∧ e.data.size ≤ 256 := fun e he => by
  unfold entsT at he
  obtain ⟨k, _, hk⟩ := List.mem_flatMap.1 he
  exact (h.own k e hk).2
theorem TabOk.row_le {l : List (ByteArray × Value)} {R : ByteArray → List En} (h : TabOk l R) (k : ByteArray) : (R k).length ≤ (entsT (keysT l) R).length := by
  by_cases hk : R k = []
  · rw [hk]; simp
  · have hm := (h.full k).2 hk
    have : ∀ (ks : List ByteArray), k ∈ ks → (R k).length ≤ (entsT ks R).length := fun ks => by
      induction ks with
      | nil => intro h; cases h
      | cons a t ih =>
        intro h
        unfold entsT at ih ⊢
        rw [List.flatMap_cons, List.length_append]
        rcases List.mem_cons.1 h with rfl | h
        · omega
        · have := ih h; omega
    exact this _ hm
theorem _root_.Go.Sp.RowsAt.row_blk {α : Type} {E sz : Nat} {f : α → List Value} {σ : Hp} {v : Value} {l : List α} (h : RowsAt E sz f σ v l) {j : Nat} (hj : blk v = some j) : ∃ cs r, σ j = some (.row cs r E) := by
  rcases h with ⟨rfl, _⟩ | ⟨b, c, rfl, _, hb⟩
  · cases hj
  · cases hj; exact ⟨_, _, hb⟩
theorem TabAt.turn {σ σ' : Hp} {g m : Nat} {l l' : List (ByteArray × Value)} {R : ByteArray → List En} {k : ByteArray} {r : List En} {v : Value} (hT : TabAt σ g (some m) l R) (hc : σ' g = some (.cells (tabC (some m) (entsT (keysT l') (turnR R k r)).length (costs (entsT (keysT l') (turnR R k r)))) 151)) (hm : σ' m = some (.mp l'))
    (hval : ∀ k', valT l' k' = if k' = k then v else valT l k') (hr : RowsAt 89 8 En.cells σ' v r) (hS : Same (fun j => j = g ∨ j = m ∨ blk (valT l k) = some j) σ σ') (hnew : ∀ j, blk v = some j → blk (valT l k) = some j ∨ σ j = none)
    (hkeys : (keysT l').Nodup) (hfull : ∀ k', k' ∈ keysT l' ↔ turnR R k r k' ≠ []) (hris : Rising r) (hown : ∀ e ∈ r, e.key = k ∧ e.key.size ≤ 32 ∧ e.data.size ≤ 256) : TabAt σ' g (some m) l' (turnR R k r) ∧ TMov g σ (some m) l σ' (some m) l' := by
  have hmm : σ m = some (.mp l) := hT.map
  have old : ∀ k', k' ≠ k → ∀ j, blk (valT l k') = some j → σ' j = σ j := fun k' hk' j hj => by
    obtain ⟨cs, rr, hb⟩ := (hT.rep k').row_blk hj
    refine hS j (by rw [hb]; simp) fun h => ?_
    rcases h with h | h | h
    · rw [h, hT.cell] at hb; cases hb
    · rw [h, hmm] at hb; cases hb
    · exact hT.ok.apart k' k hk' j hj h
  refine ⟨⟨hc, hm, fun k' => ?_, ⟨hkeys, hfull, fun k1 k2 hk j h1 h2 => ?_, fun k' => ?_, fun k' e he => ?_⟩⟩, ⟨fun j hj ho => hS j hj fun h => ho ?_, fun j hj => ?_⟩⟩
  · rw [hval k']
    by_cases h : k' = k
    · rw [if_pos h, h, turnR_at]; exact hr
    · rw [if_neg h, turnR_ne _ _ h]
      exact (hT.rep k').keep fun j hj => old k' h j hj
  · rw [hval k1] at h1
    rw [hval k2] at h2
    by_cases c1 : k1 = k
    · rw [if_pos c1] at h1
      have c2 : k2 ≠ k := fun e => hk (c1.trans e.symm)
      rw [if_neg c2] at h2
      rcases hnew j h1 with q | q
      · exact hT.ok.apart k2 k c2 j h2 q
      · obtain ⟨cs, rr, hb⟩ := (hT.rep k2).row_blk h2
        rw [q] at hb; cases hb
    · rw [if_neg c1] at h1
      by_cases c2 : k2 = k
      · rw [if_pos c2] at h2
        rcases hnew j h2 with q | q
        · exact hT.ok.apart k1 k c1 j h1 q
        · obtain ⟨cs, rr, hb⟩ := (hT.rep k1).row_blk h1
          rw [q] at hb; cases hb
      · rw [if_neg c2] at h2
        exact hT.ok.apart k1 k2 hk j h1 h2
  · by_cases h : k' = k
    · rw [h, turnR_at]; exact hris
    · rw [turnR_ne _ _ h]; exact hT.ok.ris k'
  · by_cases h : k' = k
    · rw [h, turnR_at] at he; rw [h]; exact hown e he
    · rw [turnR_ne _ _ h] at he; exact hT.ok.own k' e he
  · rcases h with h | h | h
    · exact .inl h
    · exact .inr (.inl (by rw [h]))
    · exact .inr (.inr ⟨k, h⟩)
  · rcases hj with h | h | ⟨key, h⟩
    · exact .inl (.inl h)
    · exact .inl (.inr (.inl h))
    · rw [hval key] at h
      by_cases c1 : key = k
      · rw [if_pos c1] at h
        exact (hnew j h).imp (fun q => .inr (.inr ⟨k, q⟩)) id
      · rw [if_neg c1] at h
        exact .inl (.inr (.inr ⟨key, h⟩))
theorem hasE_get {r : List En} {x : Int} (h : hasE r x = true) : ∃ e, r[pl r x]? = some e ∧ e.lo = x := by
  unfold hasE at h
  split at h
  · rename_i e he; exact ⟨e, he, of_decide_eq_true h⟩
  · cases h
theorem erase_perm {r : List En} {i : Nat} {e : En} (h : r[i]? = some e) : r.Perm (e :: r.eraseIdx i) := by
  obtain ⟨hi, rfl⟩ := List.getElem?_eq_some_iff.1 h
  have e1 : r = r.take i ++ r[i] :: r.drop (i + 1) := by rw [← List.drop_eq_getElem_cons hi, List.take_append_drop]
  rw [List.eraseIdx_eq_take_drop_succ]
  conv => lhs; rw [e1]
  exact List.perm_middle
theorem put1_mem {k : ByteArray} : ∀ {l : List ByteArray}, k ∈ l → put1 k l = l
  | a :: t, h => by
    unfold put1
    by_cases e : k = a
    · rw [if_pos e]
    · rw [if_neg e, put1_mem ((List.mem_cons.1 h).resolve_left e)]
theorem seg_ent {r : List En} {i : Nat} {e : En} (h : r[i]? = some e) : seg (r.flatMap En.cells) (i * 8) 5 = some [.string e.key, .bool e.has, .string e.data, .int .i64 e.lo, .int .i64 e.hi] := by
  have := seg_flat En.cells_len h 0 5 (by omega)
  rw [Nat.add_zero] at this
  rw [this]; rfl
set_option maxRecDepth 100000 in
set_option maxHeartbeats 8000000 in
theorem drop38 {σ : Hp} {g : Nat} {mo : Option Nat} {l : List (ByteArray × Value)} {R : ByteArray → List En} (hT : TabAt σ g mo l R) (k : ByteArray) (x : Int) (hN : (entsT (keysT l) R).length ≤ 1000) :
    ACalls Try.prog 38 #[.pointer (some ⟨g, 0, none⟩), .string k, .int .i64 x] σ fun u σ' => (hasE (R k) x = false ∧ u = .bool false ∧ σ' = σ) ∨
      (hasE (R k) x = true ∧ u = .bool true ∧ ∃ l' e, (R k)[pl (R k) x]? = some e ∧ (entsT (keysT l) R).Perm (e :: entsT (keysT l') (turnR R k ((R k).eraseIdx (pl (R k) x)))) ∧ TabAt σ' g mo l' (turnR R k ((R k).eraseIdx (pl (R k) x))) ∧ TMov g σ mo l σ' mo l') := by
  have hrl := hT.ok.row_le k
  have q := find66 hT.cell hT.map (hT.rep k) (hT.ok.ris k) (by omega) x
  cases hh : hasE (R k) x with
  | false =>
    rw [hh] at q
    clear hT
    (refine acalls_F ok38 (by simp) ?_; unfold c38 r38)
    (repeat' (first | (simp +contextual -dsimp only [*, En.cells, tabC, ↓reduceIte, ↓evP, evQ, splice_nil, splice_zero, splice_skip, Nat.reduceAdd, Nat.reduceEqDiff, Nat.reduceLeDiff, Nat.reduceMul, reduceCtorEq, Int.reduceLT, Int.reduceLE, Int.reduceGT, Int.reduceGE, Int.reduceEq, Int.reduceNeg]) | (refine condF_split (fun hc => ?_) (fun hc => ?_) <;> (try simp only [Bool.not_eq_true', Bool.not_eq_false', Bool.and_eq_true, Bool.or_eq_false_iff] at hc)) | refine callF_v (q) ?_ | refine ccallF_of (q) ?_ | refine gcallF_of (q) ?_ | (intro _; intros) | (refine And.intro ?_ ?_; focus (first | omega | ((repeat (first | exact Sub.refl _ | (refine Sub.drop ?_ ?_; focus (simp only [evN, *]; done)) | refine Sub.both ?_)); done) | (simp_all; done) | (simp_all; omega)))))
    exact endF_at (.inl ⟨rfl, rfl, rfl⟩)
  | true =>
    rw [hh] at q
    obtain ⟨e, he, hlo⟩ := hasE_get hh
    obtain ⟨i, hi⟩ : ∃ i, i = pl (R k) x := ⟨_, rfl⟩
    rw [← hi] at he q
    rw [← hi]
    have hil := (List.getElem?_eq_some_iff.1 he).1
    have hne : R k ≠ [] := fun e0 => by rw [e0] at hil; simp at hil
    have hk := (hT.ok.full k).2 hne
    obtain ⟨m, rfl⟩ : ∃ m, mo = some m := by
      cases mo with
      | none =>
        have h0 : l = [] := hT.map
        rw [h0] at hk; cases hk
      | some m => exact ⟨m, rfl⟩
    have hmm : σ m = some (.mp l) := hT.map
    obtain ⟨b, c, hv, hc, hb⟩ := (hT.rep k).resolve_left fun h => hne h.2
    have hget : (mget l k).getD (.slice none 0 0) = .slice (some ⟨b, 0, none⟩) (R k).length c := hv
    have hp := erase_perm he
    have hpp := entsT_drop hp hT.ok.keys hk
    obtain ⟨N, hNN⟩ : ∃ N, N = (entsT (keysT l) R).length := ⟨_, rfl⟩
    obtain ⟨B, hBB⟩ : ∃ B, B = costs (entsT (keysT l) R) := ⟨_, rfl⟩
    have hcell := hT.cell
    rw [← hNN, ← hBB] at hcell
    have hBle := costs_le hT.ok.small
    rw [← hNN, ← hBB] at hBle
    rw [← hNN] at hN hrl
    have hsm := hT.ok.own k e (List.mem_of_getElem? he)
    have hN1 : N = (entsT (keysT l) (turnR R k ((R k).eraseIdx i))).length + 1 := by rw [hNN, hpp.1.length_eq]; rfl
    have hB1 : B = cost e + costs (entsT (keysT l) (turnR R k ((R k).eraseIdx i))) := by rw [hBB, costs_perm hpp.1, costs_cons]
    have w1 : IntKind.i64.wrap ((N : Int) - 1) = ((N - 1 : Nat) : Int) := by rw [wi64 (by omega)]; omega
    have w2 : IntKind.i64.wrap ((B : Int) - ((32 + e.key.size + e.data.size : Nat) : Int)) = ((B - cost e : Nat) : Int) := by unfold cost at hB1 ⊢; rw [wi64 (by omega)]; omega
    have w3 : IntKind.i64.wrap ((i : Int) + 1) = ((i + 1 : Nat) : Int) := by rw [wi64 (by omega)]; rfl
    have hseg := seg_ent he
    have hil' : (i : Int) < ((R k).length : Int) := by omega
    have hgm : ¬ g = m := fun e => by rw [e, hmm] at hcell; cases hcell
    have hmg : ¬ m = g := fun e => hgm e.symm
    have hgb : ¬ g = b := fun e => by rw [e, hb] at hcell; cases hcell
    have hbg : ¬ b = g := fun e => hgb e.symm
    have hmb : ¬ m = b := fun e => by rw [e, hb] at hmm; cases hmm
    have hbm : ¬ b = m := fun e => hmb e.symm
    have q3 := cost68 e.key e.has e.data e.lo e.hi
    have heap : σ = upd (upd (upd (off σ b) m (.mp l)) g (.cells (tabC (some m) N B) 151)) b (.row ((R k).flatMap En.cells) (c * 8) 89) := by
      have e1 : off σ b m = some (.mp l) := by unfold off; rw [if_neg hmb]; exact hmm
      have e2 : off σ b g = some (.cells (tabC (some m) N B) 151) := by unfold off; rw [if_neg hgb]; exact hcell
      rw [upd_self e1, upd_self e2]; exact off_upd hb
    have hob : off σ b b = none := off_none σ b
    obtain ⟨ρ, hρ⟩ : ∃ ρ, ρ = off σ b := ⟨_, rfl⟩
    rw [← hρ] at heap hob
    have H := Hid.mk (And.intro hT (And.intro he (And.intro hpp (And.intro hN1 (And.intro hB1 (And.intro hv (And.intro hh (And.intro hi (And.intro hNN hBB)))))))))
    have H2 := Hid.mk (And.intro hk (And.intro hsm (And.intro hlo hb)))
    have HP := Hid.mk heap
    clear hT he hpp hN1 hB1 hv hh hi hNN hBB hk hsm hlo hb hmm hcell hp hne hBle hρ
    rw [heap] at q ⊢
    clear heap
    have hlen : (R k).length ≤ 1000 := by omega
    cases d1 : decide (((R k).length : Int) = 1) with
    | true =>
      (refine acalls_F ok38 (by simp) ?_; unfold c38 r38)
      (repeat' (first | (simp +contextual -dsimp only [*, En.cells, tabC, ↓reduceIte, ↓evP, evQ, splice_nil, splice_zero, splice_skip, Nat.reduceAdd, Nat.reduceEqDiff, Nat.reduceLeDiff, Nat.reduceMul, reduceCtorEq, Int.reduceLT, Int.reduceLE, Int.reduceGT, Int.reduceGE, Int.reduceEq, Int.reduceNeg]) | (refine condF_split (fun hc => ?_) (fun hc => ?_) <;> (try simp only [Bool.not_eq_true', Bool.not_eq_false', Bool.and_eq_true, Bool.or_eq_false_iff] at hc)) | refine callF_v (q) ?_ | refine ccallF_of (q) ?_ | refine gcallF_of (q) ?_ | (intro _; intros) | (refine And.intro ?_ ?_; focus (first | omega | ((repeat (first | exact Sub.refl _ | (refine Sub.drop ?_ ?_; focus (simp only [evN, *]; done)) | refine Sub.both ?_)); done) | (simp_all; done) | (simp_all; omega)))))
      refine drawxF_of (Sub.refl _) ?_
      (repeat' (first | (simp +contextual -dsimp only [*, En.cells, tabC, ↓reduceIte, ↓evP, evQ, splice_nil, splice_zero, splice_skip, Nat.reduceAdd, Nat.reduceEqDiff, Nat.reduceLeDiff, Nat.reduceMul, reduceCtorEq, Int.reduceLT, Int.reduceLE, Int.reduceGT, Int.reduceGE, Int.reduceEq, Int.reduceNeg]) | (refine condF_split (fun hc => ?_) (fun hc => ?_) <;> (try simp only [Bool.not_eq_true', Bool.not_eq_false', Bool.and_eq_true, Bool.or_eq_false_iff] at hc)) | (intro _; intros) | (refine And.intro ?_ ?_; focus (first | omega | ((repeat (first | exact Sub.refl _ | (refine Sub.drop ?_ ?_; focus (simp only [evN, *]; done)) | refine Sub.both ?_)); done) | (simp_all; done) | (simp_all; omega)))))
      refine gcallF_of (q3 _ (by have := H2.out.2.1; omega) (by have := H2.out.2.1; omega)) ?_
      (repeat' (first | (simp +contextual -dsimp only [*, En.cells, tabC, ↓reduceIte, ↓evP, evQ, splice_nil, splice_zero, splice_skip, Nat.reduceAdd, Nat.reduceEqDiff, Nat.reduceLeDiff, Nat.reduceMul, reduceCtorEq, Int.reduceLT, Int.reduceLE, Int.reduceGT, Int.reduceGE, Int.reduceEq, Int.reduceNeg]) | (refine condF_split (fun hc => ?_) (fun hc => ?_) <;> (try simp only [Bool.not_eq_true', Bool.not_eq_false', Bool.and_eq_true, Bool.or_eq_false_iff] at hc)) | (intro _; intros) | (refine And.intro ?_ ?_; focus (first | omega | ((repeat (first | exact Sub.refl _ | (refine Sub.drop ?_ ?_; focus (simp only [evN, *]; done)) | refine Sub.both ?_)); done) | (simp_all; done) | (simp_all; omega)))))
      have h0 : (R k).eraseIdx i = [] := List.eq_nil_of_length_eq_zero (by rw [List.length_eraseIdx_of_lt hil]; have := of_decide_eq_true d1; omega)
      obtain ⟨hT, he, hpp, hN1, hB1, hv, hh, hi, hNN, hBB⟩ := H.out
      have hp2 := hpp.2 h0
      have hS : ∀ (M' G' : Blk), Same (fun j => j = g ∨ j = m ∨ blk (valT l k) = some j) σ (upd (upd (upd ρ m M') g G') b (.row ((R k).flatMap En.cells) (c * 8) 89)) := fun M' G' j hj hf => by
        rw [HP.out]
        by_cases jb : j = b
        · rw [jb, upd_same, upd_same]
        · rw [upd_ne _ _ jb, upd_ne _ _ (fun e => hf (.inl e)), upd_ne _ _ (fun e => hf (.inr (.inl e))), upd_ne _ _ jb, upd_ne _ _ (fun e => hf (.inl e)), upd_ne _ _ (fun e => hf (.inr (.inl e)))]
      have n1 : N - 1 = (entsT (keysT (mdel l k)) (turnR R k ((R k).eraseIdx i))).length := by rw [keysT_del, hNN, hp2.length_eq]; rfl
      have n2 : B - cost e = costs (entsT (keysT (mdel l k)) (turnR R k ((R k).eraseIdx i))) := by rw [keysT_del, hBB, costs_perm hp2, costs_cons]; omega
      refine endF_at (.inr ⟨rfl, rfl, mdel l k, e, he, by rw [keysT_del]; exact hp2, ?_⟩)
      rw [← HP.out]
      refine TabAt.turn hT (v := .slice none 0 0) ?_ ?_ (fun k' => valT_del hT.ok.keys k k') (.inl ⟨rfl, h0⟩) (hS _ _) (fun j hj => by cases hj) ?_ (fun k' => ?_) (by rw [h0]; exact List.Pairwise.nil) (fun e he => by rw [h0] at he; cases he)
      · rw [upd_ne _ _ hgb, upd_same, n1, n2]; rfl
      · rw [upd_ne _ _ hmb, upd_ne _ _ hmg, upd_same]
      · rw [keysT_del]; exact nodup_del1 k hT.ok.keys
      · rw [keysT_del, mem_del1 hT.ok.keys, hT.ok.full k']
        by_cases ck : k' = k
        · rw [ck, turnR_at, h0]; simp
        · rw [turnR_ne _ _ ck]; exact ⟨fun q => q.2, fun q => ⟨ck, q⟩⟩
    | false =>
      (refine acalls_F ok38 (by simp) ?_; unfold c38 r38)
      (repeat' (first | (simp +contextual -dsimp only [*, En.cells, tabC, ↓reduceIte, ↓evP, evQ, splice_nil, splice_zero, splice_skip, Nat.reduceAdd, Nat.reduceEqDiff, Nat.reduceLeDiff, Nat.reduceMul, reduceCtorEq, Int.reduceLT, Int.reduceLE, Int.reduceGT, Int.reduceGE, Int.reduceEq, Int.reduceNeg]) | (refine condF_split (fun hc => ?_) (fun hc => ?_) <;> (try simp only [Bool.not_eq_true', Bool.not_eq_false', Bool.and_eq_true, Bool.or_eq_false_iff] at hc)) | refine callF_v (q) ?_ | refine ccallF_of (q) ?_ | refine gcallF_of (q) ?_ | (intro _; intros) | (refine And.intro ?_ ?_; focus (first | omega | ((repeat (first | exact Sub.refl _ | (refine Sub.drop ?_ ?_; focus (simp only [evN, *]; done)) | refine Sub.both ?_)); done) | (simp_all; done) | (simp_all; omega)))))
      refine drawxF_of (Sub.refl _) ?_
      (repeat' (first | (simp +contextual -dsimp only [*, En.cells, tabC, ↓reduceIte, ↓evP, evQ, splice_nil, splice_zero, splice_skip, Nat.reduceAdd, Nat.reduceEqDiff, Nat.reduceLeDiff, Nat.reduceMul, reduceCtorEq, Int.reduceLT, Int.reduceLE, Int.reduceGT, Int.reduceGE, Int.reduceEq, Int.reduceNeg]) | (refine condF_split (fun hc => ?_) (fun hc => ?_) <;> (try simp only [Bool.not_eq_true', Bool.not_eq_false', Bool.and_eq_true, Bool.or_eq_false_iff] at hc)) | (intro _; intros) | (refine And.intro ?_ ?_; focus (first | omega | ((repeat (first | exact Sub.refl _ | (refine Sub.drop ?_ ?_; focus (simp only [evN, *]; done)) | refine Sub.both ?_)); done) | (simp_all; done) | (simp_all; omega)))))
      refine gcallF_of (q3 _ (by have := H2.out.2.1; omega) (by have := H2.out.2.1; omega)) ?_
      (repeat' (first | (simp +contextual -dsimp only [*, En.cells, tabC, ↓reduceIte, ↓evP, evQ, splice_nil, splice_zero, splice_skip, Nat.reduceAdd, Nat.reduceEqDiff, Nat.reduceLeDiff, Nat.reduceMul, reduceCtorEq, Int.reduceLT, Int.reduceLE, Int.reduceGT, Int.reduceGE, Int.reduceEq, Int.reduceNeg]) | (refine condF_split (fun hc => ?_) (fun hc => ?_) <;> (try simp only [Bool.not_eq_true', Bool.not_eq_false', Bool.and_eq_true, Bool.or_eq_false_iff] at hc)) | (intro _; intros) | (refine And.intro ?_ ?_; focus (first | omega | ((repeat (first | exact Sub.refl _ | (refine Sub.drop ?_ ?_; focus (simp only [evN, *]; done)) | refine Sub.both ?_)); done) | (simp_all; done) | (simp_all; omega)))))
      have hgt : 1 < (R k).length := by have := of_decide_eq_false d1; omega
      have d73 := delete73 (σ := upd (upd ρ m (.mp l)) g (.cells [.map (some m), .int .i64 (N - 1 : Nat), .int .i64 (B - cost e : Nat)] 151)) (g := b) hil hc (by omega)
      have D := Hid.mk d73
      clear d73
      refine drawxF_of (σ₀ := upd (upd ρ m (.mp l)) g (.cells [.map (some m), .int .i64 (N - 1 : Nat), .int .i64 (B - cost e : Nat)] 151)) (by (repeat (first | exact Sub.refl _ | (refine Sub.drop ?_ ?_; focus (simp only [evN, *]; done)) | refine Sub.both ?_)); done) ?_
      (repeat' (first | (simp +contextual -dsimp only [*, En.cells, tabC, ↓reduceIte, ↓evP, evQ, splice_nil, splice_zero, splice_skip, Nat.reduceAdd, Nat.reduceEqDiff, Nat.reduceLeDiff, Nat.reduceMul, reduceCtorEq, Int.reduceLT, Int.reduceLE, Int.reduceGT, Int.reduceGE, Int.reduceEq, Int.reduceNeg]) | (refine condF_split (fun hc => ?_) (fun hc => ?_) <;> (try simp only [Bool.not_eq_true', Bool.not_eq_false', Bool.and_eq_true, Bool.or_eq_false_iff] at hc)) | (intro _; intros) | (refine And.intro ?_ ?_; focus (first | omega | ((repeat (first | exact Sub.refl _ | (refine Sub.drop ?_ ?_; focus (simp only [evN, *]; done)) | refine Sub.both ?_)); done) | (simp_all; done) | (simp_all; omega)))))
      refine callF_of D.out ?_
      rintro u σ' ⟨rfl, rfl⟩
      refine ⟨(by (repeat (first | exact Sub.refl _ | (refine Sub.drop ?_ ?_; focus (simp only [evN, *]; done)) | refine Sub.both ?_)); done), ?_⟩
      (repeat' (first | (simp +contextual -dsimp only [*, En.cells, tabC, ↓reduceIte, ↓evP, evQ, splice_nil, splice_zero, splice_skip, Nat.reduceAdd, Nat.reduceEqDiff, Nat.reduceLeDiff, Nat.reduceMul, reduceCtorEq, Int.reduceLT, Int.reduceLE, Int.reduceGT, Int.reduceGE, Int.reduceEq, Int.reduceNeg]) | (refine condF_split (fun hc => ?_) (fun hc => ?_) <;> (try simp only [Bool.not_eq_true', Bool.not_eq_false', Bool.and_eq_true, Bool.or_eq_false_iff] at hc)) | (intro _; intros) | (refine And.intro ?_ ?_; focus (first | omega | ((repeat (first | exact Sub.refl _ | (refine Sub.drop ?_ ?_; focus (simp only [evN, *]; done)) | refine Sub.both ?_)); done) | (simp_all; done) | (simp_all; omega)))))
      obtain ⟨hT, he, hpp, hN1, hB1, hv, hh, hi, hNN, hBB⟩ := H.out
      have hkk : keysT (mput l k (.slice (some ⟨b, 0, none⟩) ((R k).length - 1) c)) = keysT l := by rw [keysT_put, put1_mem H2.out.1]
      have hS : ∀ (M' G' B' : Blk), Same (fun j => j = g ∨ j = m ∨ blk (valT l k) = some j) σ (upd (upd (upd ρ m M') g G') b B') := fun M' G' B' j hj hf => by
        rw [HP.out, upd_ne _ _ (fun e => hf (.inr (.inr (by rw [hv, e]; rfl)))), upd_ne _ _ (fun e => hf (.inl e)), upd_ne _ _ (fun e => hf (.inr (.inl e))), upd_ne _ _ (fun e => hf (.inr (.inr (by rw [hv, e]; rfl)))), upd_ne _ _ (fun e => hf (.inl e)), upd_ne _ _ (fun e => hf (.inr (.inl e)))]
      have n1 : N - 1 = (entsT (keysT l) (turnR R k ((R k).eraseIdx i))).length := by omega
      have n2 : B - cost e = costs (entsT (keysT l) (turnR R k ((R k).eraseIdx i))) := by omega
      refine endF_at (.inr ⟨rfl, rfl, _, e, he, by rw [hkk]; exact hpp.1, ?_⟩)
      rw [← HP.out]
      refine TabAt.turn hT (v := .slice (some ⟨b, 0, none⟩) ((R k).length - 1) c) ?_ ?_ (fun k' => valT_put l k k' _) (.inr ⟨b, c, by rw [List.length_eraseIdx_of_lt hil], by rw [List.length_eraseIdx_of_lt hil]; omega, upd_same _ _ _⟩) (hS _ _ _) (fun j hj => .inl (by rw [hv]; exact hj)) ?_ (fun k' => ?_) ?_ (fun e' he' => hT.ok.own k e' (List.mem_of_mem_eraseIdx he'))
      · rw [upd_ne _ _ hgb, upd_same, hkk, n1, n2]; rfl
      · rw [upd_ne _ _ hmb, upd_ne _ _ hmg, upd_same]
      · rw [hkk]; exact hT.ok.keys
      · rw [hkk, hT.ok.full k']
        by_cases ck : k' = k
        · rw [ck, turnR_at]
          exact ⟨fun _ q => by have := congrArg List.length q; rw [List.length_eraseIdx_of_lt hil] at this; simp at this; omega, fun _ q => by rw [q] at hil; simp at hil⟩
        · rw [turnR_ne _ _ ck]
      · exact (hT.ok.ris k).sublist (List.eraseIdx_sublist _ _)
theorem hasE_iff {r : List En} (hs : Rising r) (x : Int) : hasE r x = true ↔ ∃ e ∈ r, e.lo = x := by
  constructor
  · intro h
    obtain ⟨e, he, hx⟩ := hasE_get h
    exact ⟨e, List.mem_of_getElem? he, hx⟩
  · rintro ⟨e, he, hx⟩
    obtain ⟨j, hj⟩ := List.getElem?_of_mem he
    have hjl := (List.getElem?_eq_some_iff.1 hj).1
    have h1 := pl_iff hs (x := x) hj
    have hjp : ¬ j < pl r x := fun q => by rw [decide_eq_true q] at h1; have := of_decide_eq_true h1; omega
    have hpl : pl r x < r.length := by omega
    have hp := List.getElem?_eq_getElem hpl
    have h2 := pl_iff hs (x := x) hp
    have h3 : ¬ (r[pl r x]).lo < x := fun q => by rw [decide_eq_true q] at h2; have := of_decide_eq_true h2.symm; omega
    unfold hasE
    rw [hp]
    refine decide_eq_true ?_
    rcases Nat.lt_or_ge (pl r x) j with c | c
    · have := List.pairwise_iff_getElem.1 hs (pl r x) j hpl hjl c
      rw [(List.getElem?_eq_some_iff.1 hj).2, hx] at this
      exact absurd this h3
    · have e1 : pl r x = j := by omega
      have : r[pl r x] = e := by rw [← (List.getElem?_eq_some_iff.1 hj).2]; congr 1
      rw [this]; exact hx
theorem hasE_false {r : List En} (hs : Rising r) {x : Int} (h : ∀ e ∈ r, e.lo ≠ x) : hasE r x = false := by
  cases hq : hasE r x with
  | false => rfl
  | true =>
    obtain ⟨e, he, hx⟩ := (hasE_iff hs x).1 hq
    exact absurd hx (h e he)
theorem hasE_erase {r : List En} (hs : Rising r) {x : Int} {e : En} (he : r[pl r x]? = some e) (hx : e.lo = x) : hasE (r.eraseIdx (pl r x)) x = false := by
  refine hasE_false (hs.sublist (List.eraseIdx_sublist _ _)) fun e' he' hx' => ?_
  have hn : (r.map En.lo).Nodup := List.pairwise_map.2 (hs.imp fun {a b} h q => by rw [q] at h; exact absurd h (Int.lt_irrefl _))
  have := ((erase_perm he).map En.lo).nodup_iff.1 hn
  rw [List.map_cons, List.nodup_cons] at this
  exact this.1 (List.mem_map.2 ⟨e', he', by rw [hx', hx]⟩)
theorem rising_laid {r : List En} (hs : Rising r) {e : En} (h : hasE r e.lo = false) : Rising (laid r (pl r e.lo) e) := by
  have hne : ∀ y ∈ r, y.lo ≠ e.lo := fun y hy q => by rw [(hasE_iff hs e.lo).2 ⟨y, hy, q⟩] at h; cases h
  have hlow : ∀ y ∈ r.take (pl r e.lo), y.lo < e.lo := fun y hy => by
    obtain ⟨j, hj⟩ := List.getElem?_of_mem hy
    have hjl := (List.getElem?_eq_some_iff.1 hj).1
    rw [List.length_take] at hjl
    rw [List.getElem?_take_of_lt (by omega)] at hj
    have := pl_iff hs (x := e.lo) hj
    rw [decide_eq_true (show j < pl r e.lo by omega)] at this
    exact of_decide_eq_true this
  have hup : ∀ y ∈ r.drop (pl r e.lo), e.lo < y.lo := fun y hy => by
    obtain ⟨j, hj⟩ := List.getElem?_of_mem hy
    rw [List.getElem?_drop] at hj
    have := pl_iff hs (x := e.lo) hj
    rw [decide_eq_false (show ¬ pl r e.lo + j < pl r e.lo by omega)] at this
    have h1 := of_decide_eq_false this
    have h2 := hne y (List.mem_of_getElem? hj)
    omega
  unfold laid Rising
  refine List.pairwise_append.2 ⟨hs.sublist (List.take_sublist _ _), List.pairwise_cons.2 ⟨hup, hs.sublist (List.drop_sublist _ _)⟩, fun a ha b hb => ?_⟩
  rcases List.mem_cons.1 hb with rfl | hb
  · exact hlow a ha
  · exact Int.lt_trans (hlow a ha) (hup b hb)
theorem laid_perm (r : List En) (i : Nat) (e : En) : (laid r i e).Perm (e :: r) := by
  unfold laid
  refine List.perm_middle.trans ?_
  rw [List.take_append_drop]
/-- What is known beside the block of v. -/
def offV (σ : Hp) (v : Value) : Hp := fun k => if blk v = some k then none else σ k
theorem offV_sub (σ : Hp) (v : Value) : Sub (offV σ v) σ := fun k => by
  unfold offV; by_cases h : blk v = some k
  · rw [if_pos h]; exact .inl rfl
  · rw [if_neg h]; exact .inr rfl
theorem offV_at {σ : Hp} {v : Value} {k : Nat} (h : blk v ≠ some k) : offV σ v k = σ k := if_neg h
theorem TabAt.fresh {σ : Hp} {g : Nat} {mo : Option Nat} {l : List (ByteArray × Value)} {R : ByteArray → List En} (hT : TabAt σ g mo l R) {p : Nat} (hp : σ p = none) (o : Blk) : TabAt (upd σ p o) g mo l R ∧ TMov g σ mo l (upd σ p o) mo l := by
  refine ⟨⟨?_, ?_, fun k => (hT.rep k).fresh hp o, hT.ok⟩, Same.updNew hp (Same.refl _ _), fun k h => .inl h⟩
  · rw [upd_ne _ _ (fun e => by rw [← e, hT.cell] at hp; cases hp)]; exact hT.cell
  · cases mo with
    | none => exact hT.map
    | some m =>
      have hm : σ m = some (.mp l) := hT.map
      show upd σ p o m = _
      rw [upd_ne _ _ (fun e => by rw [← e, hm] at hp; cases hp)]; exact hm
theorem TabAt.known {σ : Hp} {g : Nat} {mo : Option Nat} {l : List (ByteArray × Value)} {R : ByteArray → List En} (hT : TabAt σ g mo l R) {k : Nat} (h : OwnT g mo l k) : σ k ≠ none := by
  rcases h with rfl | h | ⟨key, h⟩
  · rw [hT.cell]; simp
  · subst h
    have hm : σ k = some (.mp l) := hT.map
    rw [hm]; simp
  · obtain ⟨cs, r, hb⟩ := (hT.rep key).row_blk h
    rw [hb]; simp
theorem TMov.at {g : Nat} {σ : Hp} {mo : Option Nat} {l : List (ByteArray × Value)} {σ' : Hp} {mo' : Option Nat} {l' : List (ByteArray × Value)} (h : TMov g σ mo l σ' mo' l') {p : Nat} {o : Blk} (hp : σ p = some o) (hn : ¬ OwnT g mo l p) : σ' p = some o ∧ ¬ OwnT g mo' l' p :=
  ⟨(h.same p (by rw [hp]; simp) hn).trans hp, fun q => by
    rcases h.own p q with r | r
    · exact hn r
    · rw [hp] at r; cases r⟩
set_option maxRecDepth 100000 in
set_option maxHeartbeats 8000000 in
theorem tail33 {τ : Hp} {g m p : Nat} {l : List (ByteArray × Value)} {R : ByteArray → List En} {e : En} (hT : TabAt τ g (some m) l R) (hp : τ p = some (.cells e.cells 89)) (hno : hasE (R e.key) e.lo = false) (hsm : e.key.size ≤ 32 ∧ e.data.size ≤ 256) (hN : (entsT (keysT l) R).length ≤ 1000)
    {Q : Exit → Sl → Hp → Prop} {s : Sl} (s0 : s 0 = .pointer (some ⟨g, 0, none⟩)) (s3 : s 3 = .pointer (some ⟨p, 0, none⟩)) (s5 : s 5 = .string e.key)
    (hQ : ∀ s' σ' l' R', s' 4 = .bool true → TabAt σ' g (some m) l' R' → TMov g τ (some m) l σ' (some m) l' → (entsT (keysT l') R').Perm (e :: entsT (keysT l) R) → Q .ret s' σ') : codeF Try.prog c33_sr40 Q s τ ⟨⟩ := by
  have hrl := hT.ok.row_le e.key
  have q1 := find66 hT.cell hT.map (hT.rep e.key) (hT.ok.ris e.key) (by omega) e.lo
  have hmm : τ m = some (.mp l) := hT.map
  obtain ⟨v, hv⟩ : ∃ v, v = valT l e.key := ⟨_, rfl⟩
  have hrep := hT.rep e.key
  rw [← hv] at hrep
  obtain ⟨N, hNN⟩ : ∃ N, N = (entsT (keysT l) R).length := ⟨_, rfl⟩
  obtain ⟨B, hBB⟩ : ∃ B, B = costs (entsT (keysT l) R) := ⟨_, rfl⟩
  have hcell := hT.cell
  rw [← hNN, ← hBB] at hcell
  have hBle := costs_le hT.ok.small
  rw [← hNN, ← hBB] at hBle
  rw [← hNN] at hN hrl
  have w1 : IntKind.i64.wrap ((N : Int) + 1) = ((N + 1 : Nat) : Int) := by rw [wi64 (by omega)]; rfl
  have w2 : IntKind.i64.wrap ((B : Int) + ((32 + e.key.size + e.data.size : Nat) : Int)) = ((B + cost e : Nat) : Int) := by unfold cost; rw [wi64 (by omega)]; omega
  have hgm : ¬ g = m := fun e => by rw [e, hmm] at hcell; cases hcell
  have hmg : ¬ m = g := fun e => hgm e.symm
  have hpm : ¬ p = m := fun e => by rw [e, hmm] at hp; cases hp
  have hmp : ¬ m = p := fun e => hpm e.symm
  have hgp : ¬ g = p := fun e => by
    rw [e, hp] at hcell
    have := congrArg (fun o => match o with | some (Blk.cells cs _) => cs.length | _ => 0) hcell
    simp [En.cells, tabC] at this
  have hpg : ¬ p = g := fun e => hgp e.symm
  have q3 := cost68 e.key e.has e.data e.lo e.hi
  have nblk : ∀ j cs t, τ j = some (.cells cs t) → blk v ≠ some j := fun j cs t h q => by
    obtain ⟨cs', r, hb⟩ := hrep.row_blk q
    rw [hb] at h; cases h
  have nm : blk v ≠ some m := fun q => by
    obtain ⟨cs', r, hb⟩ := hrep.row_blk q
    rw [hb] at hmm; cases hmm
  have rp0 : Go.Sp.rd τ p 3 = some (.int .i64 e.lo) := by unfold Go.Sp.rd; rw [hp]; rfl
  have ng := nblk g _ _ hT.cell
  have np := nblk p _ _ hp
  have o1 : Go.Sp.rd (offV τ v) g 0 = some (.map (some m)) := by unfold Go.Sp.rd; rw [offV_at ng, hT.cell]; rfl
  have o2 : mreadV (offV τ v) (.map (some m)) (.get false false) (.slice none 0 0) (.string e.key) = some v := by
    simp only [mreadV, offV_at nm, hmm, Option.bind_some, bread]
    rw [hv]; rfl
  have o3 : rdn (offV τ v) p 0 8 = some e.cells := by unfold rdn; rw [offV_at np, hp]; rfl
  have H := Hid.mk (And.intro hT (And.intro hp (And.intro hno (And.intro hv (And.intro hrep (And.intro hmm (And.intro ng (And.intro np nm))))))))
  have HQ := Hid.mk hQ
  have HN := Hid.mk (And.intro hcell (And.intro hNN hBB))
  clear hT hp hno hv hrep hmm nblk ng np nm hQ hcell hNN hBB hBle
  unfold c33_sr40 c33_br40 c33_tr40
  simp +contextual -dsimp only [*, En.cells, tabC, ↓reduceIte, ↓evP, evQ, splice_nil, splice_zero, splice_skip, Nat.reduceAdd, Nat.reduceEqDiff, Nat.reduceLeDiff, Nat.reduceMul, reduceCtorEq, Int.reduceLT, Int.reduceLE, Int.reduceGT, Int.reduceGE, Int.reduceEq, Int.reduceNeg]
  refine callF_v q1 ?_
  clear q1
  (repeat' (first | (simp +contextual -dsimp only [*, En.cells, tabC, ↓reduceIte, ↓evP, evQ, splice_nil, splice_zero, splice_skip, Nat.reduceAdd, Nat.reduceEqDiff, Nat.reduceLeDiff, Nat.reduceMul, reduceCtorEq, Int.reduceLT, Int.reduceLE, Int.reduceGT, Int.reduceGE, Int.reduceEq, Int.reduceNeg]) | (refine condF_split (fun hc => ?_) (fun hc => ?_) <;> (try simp only [Bool.not_eq_true', Bool.not_eq_false', Bool.and_eq_true, Bool.or_eq_false_iff] at hc)) | (intro _; intros) | (refine And.intro ?_ ?_; focus (first | omega | ((repeat (first | exact Sub.refl _ | (refine Sub.drop ?_ ?_; focus (simp only [evN, *]; done)) | refine Sub.both ?_)); done) | (simp_all; done) | (simp_all; omega)))))
  refine drawxF_of (offV_sub τ v) ?_
  (repeat' (first | (simp +contextual -dsimp only [*, En.cells, tabC, ↓reduceIte, ↓evP, evQ, splice_nil, splice_zero, splice_skip, Nat.reduceAdd, Nat.reduceEqDiff, Nat.reduceLeDiff, Nat.reduceMul, reduceCtorEq, Int.reduceLT, Int.reduceLE, Int.reduceGT, Int.reduceGE, Int.reduceEq, Int.reduceNeg]) | (refine condF_split (fun hc => ?_) (fun hc => ?_) <;> (try simp only [Bool.not_eq_true', Bool.not_eq_false', Bool.and_eq_true, Bool.or_eq_false_iff] at hc)) | (intro _; intros) | (refine And.intro ?_ ?_; focus (first | omega | ((repeat (first | exact Sub.refl _ | (refine Sub.drop ?_ ?_; focus (simp only [evN, *]; done)) | refine Sub.both ?_)); done) | (simp_all; done) | (simp_all; omega)))))
  rename_i w w0
  have q2 := insert67 (σ := upd τ w (.row e.cells 8 89)) (bv := w) (i := pl (R e.key) e.lo) (v := v) (l := R e.key) (e := e) (H.out.2.2.2.2.1.fresh w0 _) (upd_same _ _ _) (fun q => H.out.2.2.2.2.1.known q w0) (pl_le _ _) (by omega)
  have Q2 := Hid.mk q2
  clear q2
  refine callF_of Q2.out ?_
  rintro u τ1 ⟨hr1, hG⟩
  obtain ⟨hT, hp, hno, hv, hrep, hmm, ng, np, nm⟩ := H.out
  have keepS : ∀ j, τ j ≠ none → blk v ≠ some j → τ1 j = τ j := fun j hj hb => by
    have hjw : j ≠ w := fun x => hj (by rw [x]; exact w0)
    have := hG.same j (by rw [upd_ne _ _ hjw]; exact hj) hb
    rwa [upd_ne _ _ hjw] at this
  have hm1 : τ1 m = some (.mp l) := (keepS m (by rw [hmm]; simp) nm).trans hmm
  have hp1 : τ1 p = some (.cells e.cells 89) := (keepS p (by rw [hp]; simp) np).trans hp
  have hg1 : τ1 g = some (.cells (tabC (some m) N B) 151) := (keepS g (by rw [HN.out.1]; simp) ng).trans HN.out.1
  have hnew : ∀ j, blk u = some j → blk v = some j ∨ τ j = none := fun j hj => by
    rcases hG.new j hj with q | q
    · exact .inl q
    · right
      have hjw : j ≠ w := fun x => by rw [x, upd_same] at q; cases q
      rwa [upd_ne _ _ hjw] at q
  refine ⟨fun k => ?_, ?_⟩
  · unfold offV
    by_cases c1 : blk v = some k
    · rw [if_pos c1]; exact .inl rfl
    · rw [if_neg c1]
      by_cases c2 : τ k = none
      · exact .inl c2
      · exact .inr (keepS k c2 c1).symm
  obtain ⟨ρ, hρ⟩ : ∃ ρ, ρ = τ1 := ⟨_, rfl⟩
  have heap : τ1 = upd (upd (upd ρ m (.mp l)) p (.cells e.cells 89)) g (.cells (tabC (some m) N B) 151) := by rw [hρ, upd_self hm1, upd_self hp1, upd_self hg1]
  have HX := Hid.mk (And.intro hr1 (And.intro keepS (And.intro hnew hρ)))
  rw [heap]
  clear hr1 hG keepS hm1 hp1 hg1 hnew hρ heap hT hp hno hv hrep hmm ng np nm
  (repeat' (first | (simp +contextual -dsimp only [*, En.cells, tabC, ↓reduceIte, ↓evP, evQ, splice_nil, splice_zero, splice_skip, Nat.reduceAdd, Nat.reduceEqDiff, Nat.reduceLeDiff, Nat.reduceMul, reduceCtorEq, Int.reduceLT, Int.reduceLE, Int.reduceGT, Int.reduceGE, Int.reduceEq, Int.reduceNeg]) | (refine condF_split (fun hc => ?_) (fun hc => ?_) <;> (try simp only [Bool.not_eq_true', Bool.not_eq_false', Bool.and_eq_true, Bool.or_eq_false_iff] at hc)) | (intro _; intros) | (refine And.intro ?_ ?_; focus (first | omega | ((repeat (first | exact Sub.refl _ | (refine Sub.drop ?_ ?_; focus (simp only [evN, *]; done)) | refine Sub.both ?_)); done) | (simp_all; done) | (simp_all; omega)))))
  refine drawxF_of (Sub.refl _) ?_
  (repeat' (first | (simp +contextual -dsimp only [*, En.cells, tabC, ↓reduceIte, ↓evP, evQ, splice_nil, splice_zero, splice_skip, Nat.reduceAdd, Nat.reduceEqDiff, Nat.reduceLeDiff, Nat.reduceMul, reduceCtorEq, Int.reduceLT, Int.reduceLE, Int.reduceGT, Int.reduceGE, Int.reduceEq, Int.reduceNeg]) | (refine condF_split (fun hc => ?_) (fun hc => ?_) <;> (try simp only [Bool.not_eq_true', Bool.not_eq_false', Bool.and_eq_true, Bool.or_eq_false_iff] at hc)) | (intro _; intros) | (refine And.intro ?_ ?_; focus (first | omega | ((repeat (first | exact Sub.refl _ | (refine Sub.drop ?_ ?_; focus (simp only [evN, *]; done)) | refine Sub.both ?_)); done) | (simp_all; done) | (simp_all; omega)))))
  refine gcallF_of (q3 _ (by omega) (by omega)) ?_
  (repeat' (first | (simp +contextual -dsimp only [*, En.cells, tabC, ↓reduceIte, ↓evP, evQ, splice_nil, splice_zero, splice_skip, Nat.reduceAdd, Nat.reduceEqDiff, Nat.reduceLeDiff, Nat.reduceMul, reduceCtorEq, Int.reduceLT, Int.reduceLE, Int.reduceGT, Int.reduceGE, Int.reduceEq, Int.reduceNeg]) | (refine condF_split (fun hc => ?_) (fun hc => ?_) <;> (try simp only [Bool.not_eq_true', Bool.not_eq_false', Bool.and_eq_true, Bool.or_eq_false_iff] at hc)) | (intro _; intros) | (refine And.intro ?_ ?_; focus (first | omega | ((repeat (first | exact Sub.refl _ | (refine Sub.drop ?_ ?_; focus (simp only [evN, *]; done)) | refine Sub.both ?_)); done) | (simp_all; done) | (simp_all; omega)))))
  obtain ⟨hT, hp, hno, hv, hrep, hmm, ng, np, nm⟩ := H.out
  obtain ⟨hr1, keepS, hnew, hρ⟩ := HX.out
  have hpp := entsT_put (R := R) (laid_perm (R e.key) (pl (R e.key) e.lo) e) hT.ok.keys (fun h => by
    by_cases q : R e.key = []
    · exact q
    · exact absurd ((hT.ok.full _).2 q) h)
  have n1 : N + 1 = (entsT (keysT (mput l e.key u)) (turnR R e.key (laid (R e.key) (pl (R e.key) e.lo) e))).length := by rw [keysT_put, hpp.length_eq, HN.out.2.1]; rfl
  have n2 : B + cost e = costs (entsT (keysT (mput l e.key u)) (turnR R e.key (laid (R e.key) (pl (R e.key) e.lo) e))) := by rw [keysT_put, costs_perm hpp, costs_cons, HN.out.2.2]; omega
  have hout : ∀ (M' G' : Blk) j, j ≠ g → j ≠ m → τ j ≠ none → blk v ≠ some j → (upd (upd (upd ρ m M') p (.cells e.cells 89)) g G') j = τ j := fun M' G' j j1 j2 j3 j4 => by
    rw [upd_ne _ _ j1]
    by_cases jp : j = p
    · rw [jp, upd_same, hp]
    · rw [upd_ne _ _ jp, upd_ne _ _ j2, hρ]; exact keepS j j3 j4
  have hfin := TabAt.turn (σ' := upd (upd (upd ρ m (.mp (mput l e.key u))) p (.cells e.cells 89)) g (.cells (tabC (some m) (N + 1) (B + cost e)) 151)) (l' := mput l e.key u) (k := e.key) (r := laid (R e.key) (pl (R e.key) e.lo) e) (v := u) hT (by rw [upd_same, n1, n2]) (by rw [upd_ne _ _ hmg, upd_ne _ _ hmp, upd_same]) (fun k' => valT_put l e.key k' u) (hr1.keep fun j hj => by
      have hh := hnew j hj
      have j1 : j ≠ g := fun x => by
        rw [x] at hh
        rcases hh with q | q
        · exact ng q
        · rw [HN.out.1] at q; cases q
      have j2 : j ≠ p := fun x => by
        rw [x] at hh
        rcases hh with q | q
        · exact np q
        · rw [hp] at q; cases q
      have j3 : j ≠ m := fun x => by
        rw [x] at hh
        rcases hh with q | q
        · exact nm q
        · rw [hmm] at q; cases q
      rw [upd_ne _ _ j1, upd_ne _ _ j2, upd_ne _ _ j3, hρ]) (fun j hj hf => hout _ _ j (fun x => hf (.inl x)) (fun x => hf (.inr (.inl x))) hj (fun x => hf (.inr (.inr (by rw [← hv]; exact x))))) (fun j hj => by rw [← hv]; exact hnew j hj) (by rw [keysT_put]; exact nodup_put1 _ hT.ok.keys) (fun k' => by
      rw [keysT_put, mem_put1, hT.ok.full k']
      by_cases ck : k' = e.key
      · rw [ck, turnR_at]
        exact ⟨fun _ q => (by have := congrArg List.length q; rw [laid_len] at this; cases this), fun _ => .inl rfl⟩
      · rw [turnR_ne _ _ ck]; exact ⟨fun q => q.resolve_left ck, .inr⟩) (rising_laid (hT.ok.ris _) hno) (fun y hy => by
      rcases List.mem_cons.1 ((laid_perm _ _ _).mem_iff.1 hy) with rfl | hy
      · exact ⟨rfl, hsm⟩
      · exact hT.ok.own _ y hy)
  refine HQ.out _ _ _ _ (by first | rfl | (simp only [↓putO_get, ↓putO_no, init_zero, init_succ, Nat.reduceEqDiff, ↓reduceIte, *]; done) | (simp only [↓putO_get, ↓putO_no, init_zero, init_succ, Nat.reduceEqDiff, ↓reduceIte, *]; rfl)) hfin.1 hfin.2 ?_
  rw [keysT_put]; exact hpp
set_option maxRecDepth 100000
/-- vouch/fact.Good -/
def c65 : C := (.seq (.reg [(rO 1 (.box 39 (.tmp 0))),
 (rO 2 (.mv (.const (.bool false))))])
 (.seq (.block 0 (.seq (.reg [(rO 4 (.fa 0 (.tmp 1))),
 (rO 5 (.ld none (.tmp 4))),
 (rO 6 (.bin .eql (.tmp 5) (.const (.string { data := #[] })))),
 (rO 7 (.mv (.tmp 6))),
 ⟨(some 8), (.fa 0 (.tmp 1)), (some (7, false))⟩,
 ⟨(some 9), (.ld none (.tmp 8)), (some (7, false))⟩,
 ⟨(some 10), (.len false (.tmp 9)), (some (7, false))⟩,
 ⟨(some 11), (.bin .gtr (.tmp 10) (.const (.int .i64 32))), (some (7, false))⟩,
 (rO 12 (.pick (.tmp 7) (.const (.bool true)) (.tmp 11))),
 (rO 3 (.mv (.tmp 12)))])
 (.cond (.tmp 3) (.seq (.reg [(rO 2 (.mv (.const (.bool false))))])
 .ret)
 (.seq (.reg [(rO 14 (.fa 1 (.tmp 1))),
 (rO 15 (.fa 1 (.tmp 14))),
 (rO 16 (.ld none (.tmp 15))),
 (rO 17 (.len false (.tmp 16))),
 (rO 18 (.bin .gtr (.tmp 17) (.const (.int .i64 256)))),
 (rO 19 (.mv (.tmp 18))),
 ⟨(some 20), (.fa 1 (.tmp 1)), (some (19, false))⟩,
 ⟨(some 21), (.fa 0 (.tmp 20)), (some (19, false))⟩,
 ⟨(some 22), (.ld none (.tmp 21)), (some (19, false))⟩,
 ⟨(some 23), (.nt (.tmp 22)), (some (19, false))⟩,
 ⟨(some 24), (.mv (.tmp 23)), (some (19, false))⟩,
 ⟨(some 25), (.fa 1 (.tmp 1)), (some (24, true))⟩,
 ⟨(some 26), (.fa 1 (.tmp 25)), (some (24, true))⟩,
 ⟨(some 27), (.ld none (.tmp 26)), (some (24, true))⟩,
 ⟨(some 28), (.bin .neq (.tmp 27) (.const (.string { data := #[] }))), (some (24, true))⟩,
 ⟨(some 29), (.pick (.tmp 24) (.tmp 28) (.const (.bool false))), (some (19, false))⟩,
 (rO 30 (.pick (.tmp 19) (.const (.bool true)) (.tmp 29))),
 (rO 13 (.mv (.tmp 30)))])
 (.cond (.tmp 13) (.seq (.reg [(rO 2 (.mv (.const (.bool false))))])
 .ret)
 .skip)))))
 (.seq (.reg [(rO 31 (.fa 3 (.tmp 1))),
 (rO 32 (.ld none (.tmp 31))),
 (rO 33 (.bin .geq (.tmp 32) (.const (.int .i64 0)))),
 (rO 34 (.mv (.tmp 33))),
 ⟨(some 35), (.fa 3 (.tmp 1)), (some (34, true))⟩,
 ⟨(some 36), (.ld none (.tmp 35)), (some (34, true))⟩,
 ⟨(some 37), (.bin .leq (.tmp 36) (.const (.int .i64 1099511627776))), (some (34, true))⟩,
 (rO 38 (.pick (.tmp 34) (.tmp 37) (.const (.bool false)))),
 (rO 39 (.mv (.tmp 38))),
 ⟨(some 40), (.fa 4 (.tmp 1)), (some (39, true))⟩,
 ⟨(some 41), (.ld none (.tmp 40)), (some (39, true))⟩,
 ⟨(some 42), (.fa 3 (.tmp 1)), (some (39, true))⟩,
 ⟨(some 43), (.ld none (.tmp 42)), (some (39, true))⟩,
 ⟨(some 44), (.bin .gtr (.tmp 41) (.tmp 43)), (some (39, true))⟩,
 (rO 45 (.pick (.tmp 39) (.tmp 44) (.const (.bool false)))),
 (rO 46 (.mv (.tmp 45))),
 ⟨(some 47), (.fa 4 (.tmp 1)), (some (46, true))⟩,
 ⟨(some 48), (.ld none (.tmp 47)), (some (46, true))⟩,
 ⟨(some 49), (.bin .eql (.tmp 48) (.const (.int .i64 4611686018427387904))), (some (46, true))⟩,
 ⟨(some 50), (.mv (.tmp 49)), (some (46, true))⟩,
 ⟨(some 51), (.fa 4 (.tmp 1)), (some (50, false))⟩,
 ⟨(some 52), (.ld none (.tmp 51)), (some (50, false))⟩,
 ⟨(some 53), (.bin .leq (.tmp 52) (.const (.int .i64 1099511627777))), (some (50, false))⟩,
 ⟨(some 54), (.pick (.tmp 50) (.const (.bool true)) (.tmp 53)), (some (46, true))⟩,
 (rO 55 (.pick (.tmp 46) (.tmp 54) (.const (.bool false)))),
 (rO 2 (.mv (.tmp 55)))])
 .ret)))
def r65 : List RV := [.tmp 2]
theorem ok65 : FnOk Try.prog 65 56 c65 r65 := ⟨[], _, _, Try.func65, rfl, rfl, by kernel_rfl, by kernel_rfl, by kernel_rfl⟩
/-- maps.Keys[map[string][]vouch/api.Entry,string,[]vouch/api.Entry] -/
def c70 : C := (.seq (.reg [(rO 1 (.box 149 (.tmp 0))),
 (rO 2 (.mv (.const .nilFunc)))])
 (.seq (.reg [(rO 3 (.fnl (.clo 93) [(.tmp 1)])),
 (rO 2 (.mv (.tmp 3)))])
 .ret))
def r70 : List RV := [.tmp 2]
theorem ok70 : FnOk Try.prog 70 4 c70 r70 := ⟨[], _, _, Try.func70, rfl, rfl, by kernel_rfl, by kernel_rfl, by kernel_rfl⟩
end Go.Proofs.Ytpnghjmphbhkjaa
