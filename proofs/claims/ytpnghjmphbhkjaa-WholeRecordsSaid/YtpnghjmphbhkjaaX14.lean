/- The store: what was dropped; the search among versions. -/
import Derived.Test.YtpnghjmphbhkjaaX13
namespace Go.Proofs.Ytpnghjmphbhkjaa
open Go.Sp
set_option linter.unusedSimpArgs false
set_option linter.unusedVariables false
def Row.oldest (r : Row) : Nat := match r.dropped, r.list with | true, v :: _ => v.n | _, _ => 0
def St.oldest (S : St) (k : ByteArray) : Nat := (S.row k).oldest
theorem oldest46 {σ : Hp} {g m : Nat} {S : St} (hS : StoreAt σ g m S) (k : ByteArray) (hd : (S.row k).dropped = true → (S.row k).list ≠ []) :
    ACalls Try.prog 46 #[.pointer (some ⟨g, 0, none⟩), .string k] σ fun u σ' => u = .int .i64 (S.oldest k) ∧ σ' = σ := by
  obtain ⟨hcell, l, hm, hrep⟩ := hS
  obtain ⟨sv, hsv, hrow⟩ := hrep k
  obtain ⟨ra, rc, rfl⟩ := hrow.slice
  unfold noRow at hsv
  have hro := hrow.ro Ver.cells_len
  have hgm : ¬ g = m := fun e => by rw [e, hm] at hcell; cases hcell
  have hml : mreadV σ (.map (some m)) (.get false false) noRow (.string k) = some (lookv false noRow (mget l k)) := by simp only [mreadV, hm, Option.bind_some, bread]
  unfold noRow at hml
  have hrd : rd σ g 0 = some (.map (some m)) := by unfold rd; rw [hcell]; rfl
  unfold St.oldest Row.oldest
  generalize S.row k = r at *
  obtain ⟨rl, rd⟩ := r
  clear hrep hcell hm hrow
  cases rd with
  | false =>
    simp only at hsv
    (refine acalls_F ok46 (by simp) ?_; unfold c46 r46)
    (repeat' (first | (simp +contextual -dsimp only [*, Ver.cells, ↓reduceIte, ↓evP, evQ, splice, Nat.reduceAdd, Nat.reduceEqDiff, Nat.reduceLeDiff, Nat.reduceMul, reduceCtorEq, Int.reduceLT, Int.reduceLE, Int.reduceGT, Int.reduceGE, Int.reduceEq, Int.reduceNeg]) | (refine condF_split (fun hc => ?_) (fun hc => ?_) <;> (try simp only [Bool.not_eq_true', Bool.not_eq_false', Bool.and_eq_true, Bool.or_eq_false_iff] at hc)) | refine vcallF_mk (by kernel_rfl) ?_ | refine vccallF_mk (by kernel_rfl) ?_ | (intro _; intros) | (refine And.intro ?_ ?_; focus (first | omega | ((repeat (first | exact Sub.refl _ | (refine Sub.drop ?_ ?_; focus (simp only [evN, *]; done)) | refine Sub.both ?_)); done) | (simp_all; done) | (simp_all; omega)))))
    all_goals (refine endF_det ?_ ?_; (focus ((try simp only [cond_true, cond_false, *]) <;> ((try simp only [decide_eq_true_eq, decide_eq_false_iff_not] at *) <;> first | rfl | (simp []; done) | (simp_all []; done) | (simp []; omega) | (simp []; (rw [Bool.eq_iff_iff]); simp; omega) | (simp_all [] <;> omega) | ((try unfold id); (rw [Value.bool.injEq, Bool.eq_iff_iff]); simp <;> omega) | ((try unfold id); (repeat' split) <;> simp_all <;> omega) | (simp_all [] <;> (repeat' split) <;> simp_all <;> omega)))); (focus ((try simp only [cond_true, cond_false, set_same, *]); exact (by (repeat (first | exact Sub.refl _ | (refine Sub.drop ?_ ?_; focus (simp only [evN, *]; done)) | refine Sub.both ?_)); done))))
  | true =>
    simp only at hsv
    cases rl with
    | nil => exact absurd rfl (hd rfl)
    | cons x rl =>
      obtain ⟨b, o, e, hr⟩ := hro.get (i := 0) (by simp)
      subst e
      have hr0 : _root_.Go.Sp.rd σ b (o + Int.toNat 0 * 3) = some (.int .i64 x.n) := rd_part hr 0 (v := .int .i64 x.n) rfl
      clear hro hr hd
      (refine acalls_F ok46 (by simp) ?_; unfold c46 r46)
      (repeat' (first | (simp +contextual -dsimp only [*, Ver.cells, ↓reduceIte, ↓evP, evQ, splice, Nat.reduceAdd, Nat.reduceEqDiff, Nat.reduceLeDiff, Nat.reduceMul, reduceCtorEq, Int.reduceLT, Int.reduceLE, Int.reduceGT, Int.reduceGE, Int.reduceEq, Int.reduceNeg]) | (refine condF_split (fun hc => ?_) (fun hc => ?_) <;> (try simp only [Bool.not_eq_true', Bool.not_eq_false', Bool.and_eq_true, Bool.or_eq_false_iff] at hc)) | refine vcallF_mk (by kernel_rfl) ?_ | refine vccallF_mk (by kernel_rfl) ?_ | (intro _; intros) | (refine And.intro ?_ ?_; focus (first | omega | ((repeat (first | exact Sub.refl _ | (refine Sub.drop ?_ ?_; focus (simp only [evN, *]; done)) | refine Sub.both ?_)); done) | (simp_all; done) | (simp_all; omega)))))
      all_goals (refine endF_det ?_ ?_; (focus ((try simp only [cond_true, cond_false, *]) <;> ((try simp only [decide_eq_true_eq, decide_eq_false_iff_not] at *) <;> first | rfl | (simp []; done) | (simp_all []; done) | (simp []; omega) | (simp []; (rw [Bool.eq_iff_iff]); simp; omega) | (simp_all [] <;> omega) | ((try unfold id); (rw [Value.bool.injEq, Bool.eq_iff_iff]); simp <;> omega) | ((try unfold id); (repeat' split) <;> simp_all <;> omega) | (simp_all [] <;> (repeat' split) <;> simp_all <;> omega)))); (focus ((try simp only [cond_true, cond_false, set_same, *]); exact (by (repeat (first | exact Sub.refl _ | (refine Sub.drop ?_ ?_; focus (simp only [evN, *]; done)) | refine Sub.both ?_)); done))))
/-- The place of the first version above c. -/
def place (l : List Ver) (c : Int) : Nat := l.findIdx (fun v => decide (c < v.n))
theorem place_le (l : List Ver) (c : Int) : place l c ≤ l.length := List.findIdx_le_length
theorem place_iff {l : List Ver} {c : Int} (hs : l.Pairwise (fun a b => a.n < b.n)) {i : Nat} {v : Ver} (h : l[i]? = some v) : decide ((v.n : Int) > c) = decide (place l c ≤ i) := by
  obtain ⟨hi, hv⟩ := List.getElem?_eq_some_iff.1 h
  rw [Bool.eq_iff_iff, decide_eq_true_eq, decide_eq_true_eq]
  constructor
  · intro hc
    rcases Nat.lt_or_ge i (place l c) with hlt | hge
    · have := List.not_of_lt_findIdx hlt
      rw [hv] at this
      simp at this; omega
    · exact hge
  · intro hle
    have hlt : place l c < l.length := by omega
    have h1 : decide (c < ((l[place l c]).n : Int)) = true := List.findIdx_getElem (w := hlt)
    have h1 := of_decide_eq_true h1
    rcases Nat.lt_or_ge (place l c) i with h2 | h2
    · have := List.pairwise_iff_getElem.1 hs (place l c) i hlt hi h2
      rw [hv] at this
      omega
    · have e : place l c = i := by omega
      have e2 : l[place l c] = v := by rw [← hv]; congr 1
      rw [e2] at h1; omega
theorem closure48 {σ : Hp} {x y : Nat} {A : Option Addr} {c : Nat} {l : List Ver} {cc : Int} (hx : rd σ x 0 = some (.slice A l.length c)) (hro : RoRows 3 Ver.cells σ (.slice A l.length c) l) (hy : rd σ y 0 = some (.int .i64 cc)) {i : Nat} {v : Ver} (hi : l[i]? = some v) :
    ACalls Try.prog 48 #[.int .i64 i, .pointer (some ⟨x, 0, none⟩), .pointer (some ⟨y, 0, none⟩)] σ fun u σ' => u = .bool (decide ((v.n : Int) > cc)) ∧ σ' = σ := by
  obtain ⟨b, o, e, hr⟩ := hro.get (i := i) (List.getElem?_eq_some_iff.1 hi).1
  subst e
  rw [(List.getElem?_eq_some_iff.1 hi).2] at hr
  have hr0 := rd_part hr 0 (v := .int .i64 v.n) rfl
  rw [Nat.add_zero] at hr0
  have hlt : (i : Int) < (l.length : Int) := by have := (List.getElem?_eq_some_iff.1 hi).1; omega
  clear hr hro hi
  (refine acalls_F ok48 (by simp) ?_; unfold c48 r48)
  (repeat' (first | (simp +contextual -dsimp only [*, Ver.cells, ↓reduceIte, ↓evP, evQ, splice, Nat.reduceAdd, Nat.reduceEqDiff, Nat.reduceLeDiff, Nat.reduceMul, reduceCtorEq, Int.reduceLT, Int.reduceLE, Int.reduceGT, Int.reduceGE, Int.reduceEq, Int.reduceNeg]) | (refine condF_split (fun hc => ?_) (fun hc => ?_) <;> (try simp only [Bool.not_eq_true', Bool.not_eq_false', Bool.and_eq_true, Bool.or_eq_false_iff] at hc)) | refine vcallF_mk (by kernel_rfl) ?_ | refine vccallF_mk (by kernel_rfl) ?_ | (intro _; intros) | (refine And.intro ?_ ?_; focus (first | omega | ((repeat (first | exact Sub.refl _ | (refine Sub.drop ?_ ?_; focus (simp only [evN, *]; done)) | refine Sub.both ?_)); done) | (simp_all; done) | (simp_all; omega)))))
  all_goals (refine endF_det ?_ ?_; (focus ((try simp only [cond_true, cond_false, *]) <;> ((try simp only [decide_eq_true_eq, decide_eq_false_iff_not] at *) <;> first | rfl | (simp []; done) | (simp_all []; done) | (simp []; omega) | (simp []; (rw [Bool.eq_iff_iff]); simp; omega) | (simp_all [] <;> omega) | ((try unfold id); (rw [Value.bool.injEq, Bool.eq_iff_iff]); simp <;> omega) | ((try unfold id); (repeat' split) <;> simp_all <;> omega) | (simp_all [] <;> (repeat' split) <;> simp_all <;> omega)))); (focus ((try simp only [cond_true, cond_false, set_same, *]); exact (by (repeat (first | exact Sub.refl _ | (refine Sub.drop ?_ ?_; focus (simp only [evN, *]; done)) | refine Sub.both ?_)); done))))
set_option maxRecDepth 100000 in
set_option maxHeartbeats 1000000 in
theorem search47 {σ : Hp} {x y : Nat} {A : Option Addr} {c : Nat} {l : List Ver} {cc : Int} (hx : rd σ x 0 = some (.slice A l.length c)) (hro : RoRows 3 Ver.cells σ (.slice A l.length c) l) (hy : rd σ y 0 = some (.int .i64 cc)) (hs : l.Pairwise (fun a b => a.n < b.n)) (hl : l.length ≤ 1048576) :
    ACalls Try.prog 47 #[.int .i64 l.length, .func (.func 48) #[] #[.pointer (some ⟨x, 0, none⟩), .pointer (some ⟨y, 0, none⟩)]] σ fun u σ' => u = .int .i64 (place l cc) ∧ σ' = σ := by
  have hq := place_le l cc
  (refine acalls_F ok47 (by simp) ?_; unfold c47 r47)
  (repeat' (first | (simp +contextual -dsimp only [*, Ver.cells, ↓reduceIte, ↓evP, evQ, splice, Nat.reduceAdd, Nat.reduceEqDiff, Nat.reduceLeDiff, Nat.reduceMul, reduceCtorEq, Int.reduceLT, Int.reduceLE, Int.reduceGT, Int.reduceGE, Int.reduceEq, Int.reduceNeg]) | (refine condF_split (fun hc => ?_) (fun hc => ?_) <;> (try simp only [Bool.not_eq_true', Bool.not_eq_false', Bool.and_eq_true, Bool.or_eq_false_iff] at hc)) | refine vcallF_mk (by kernel_rfl) ?_ | refine vccallF_mk (by kernel_rfl) ?_ | (intro _; intros) | (refine And.intro ?_ ?_; focus (first | omega | ((repeat (first | exact Sub.refl _ | (refine Sub.drop ?_ ?_; focus (simp only [evN, *]; done)) | refine Sub.both ?_)); done) | (simp_all; done) | (simp_all; omega)))))
  refine loopF_of (fun k s σ' => ∃ i j : Nat, i ≤ place l cc ∧ place l cc ≤ j ∧ j ≤ l.length ∧ k = j - i ∧ s 5 = .int .i64 i ∧ s 6 = .int .i64 j ∧ s 1 = .func (.func 48) #[] #[.pointer (some ⟨x, 0, none⟩), .pointer (some ⟨y, 0, none⟩)] ∧ σ' = σ) l.length (Sub.refl _)
    ⟨0, l.length, by omega, hq, by omega, rfl, (by first | rfl | (simp only [↓putO_get, ↓putO_no, init_zero, init_succ, Nat.reduceEqDiff, ↓reduceIte, *]; done) | (simp only [↓putO_get, ↓putO_no, init_zero, init_succ, Nat.reduceEqDiff, ↓reduceIte, *]; rfl)), (by first | rfl | (simp only [↓putO_get, ↓putO_no, init_zero, init_succ, Nat.reduceEqDiff, ↓reduceIte, *]; done) | (simp only [↓putO_get, ↓putO_no, init_zero, init_succ, Nat.reduceEqDiff, ↓reduceIte, *]; rfl)), (by first | rfl | (simp only [↓putO_get, ↓putO_no, init_zero, init_succ, Nat.reduceEqDiff, ↓reduceIte, *]; done) | (simp only [↓putO_get, ↓putO_no, init_zero, init_succ, Nat.reduceEqDiff, ↓reduceIte, *]; rfl)), rfl⟩ ?_
  rintro k s τ ⟨i, j, h1, h2, h3, hk, s5, s6, s1, hτ⟩
  subst hτ
  rcases Nat.lt_or_ge i j with hlt | hge
  · have hd : decide ((i : Int) < (j : Int)) = true := by simp; omega
    obtain ⟨h, hh⟩ : ∃ h, h = (i + j) / 2 := ⟨_, rfl⟩
    obtain ⟨v, hv⟩ : ∃ v, l[h]? = some v := ⟨_, List.getElem?_eq_getElem (by omega)⟩
    have q := closure48 hx hro hy hv
    rw [place_iff hs hv] at q
    have e3 : IntKind.i64.wrap ((IntKind.u64.wrap (IntKind.i64.wrap ((i : Int) + (j : Int)))).fdiv (2 ^ min (Int.toNat 1) IntKind.u64.bits)) = ((h : Nat) : Int) := by
      rw [show IntKind.i64.wrap ((i : Int) + (j : Int)) = (i : Int) + j from wi64 (by omega), show IntKind.u64.wrap ((i : Int) + (j : Int)) = (i : Int) + j from IntWalk.u64_in _ (by omega)]
      rw [show (2 : Int) ^ min (Int.toNat 1) IntKind.u64.bits = 2 by rfl, Int.fdiv_eq_ediv_of_nonneg _ (by decide), wi64 (by omega)]
      omega
    have e4 : IntKind.i64.wrap ((h : Int) + 1) = ((h + 1 : Nat) : Int) := by rw [wi64 (by omega)]; rfl
    have HH := Hid.mk hh
    clear hh hx hro hy
    (repeat' (first | (simp +contextual -dsimp only [*, Ver.cells, ↓reduceIte, ↓evP, evQ, splice, Nat.reduceAdd, Nat.reduceEqDiff, Nat.reduceLeDiff, Nat.reduceMul, reduceCtorEq, Int.reduceLT, Int.reduceLE, Int.reduceGT, Int.reduceGE, Int.reduceEq, Int.reduceNeg]) | (refine condF_split (fun hc => ?_) (fun hc => ?_) <;> (try simp only [Bool.not_eq_true', Bool.not_eq_false', Bool.and_eq_true, Bool.or_eq_false_iff] at hc)) | refine vcallF_mk (by kernel_rfl) ?_ | refine vccallF_mk (by kernel_rfl) ?_ | (intro _; intros) | (refine And.intro ?_ ?_; focus (first | omega | ((repeat (first | exact Sub.refl _ | (refine Sub.drop ?_ ?_; focus (simp only [evN, *]; done)) | refine Sub.both ?_)); done) | (simp_all; done) | (simp_all; omega)))))
    refine vcallF_cs (cs := [.pointer (some ⟨x, 0, none⟩), .pointer (some ⟨y, 0, none⟩)]) (by kernel_rfl) ?_
    refine callF_v q ?_
    (repeat' (first | (simp +contextual -dsimp only [*, Ver.cells, ↓reduceIte, ↓evP, evQ, splice, Nat.reduceAdd, Nat.reduceEqDiff, Nat.reduceLeDiff, Nat.reduceMul, reduceCtorEq, Int.reduceLT, Int.reduceLE, Int.reduceGT, Int.reduceGE, Int.reduceEq, Int.reduceNeg]) | (refine condF_split (fun hc => ?_) (fun hc => ?_) <;> (try simp only [Bool.not_eq_true', Bool.not_eq_false', Bool.and_eq_true, Bool.or_eq_false_iff] at hc)) | refine vcallF_mk (by kernel_rfl) ?_ | refine vccallF_mk (by kernel_rfl) ?_ | (intro _; intros) | (refine And.intro ?_ ?_; focus (first | omega | ((repeat (first | exact Sub.refl _ | (refine Sub.drop ?_ ?_; focus (simp only [evN, *]; done)) | refine Sub.both ?_)); done) | (simp_all; done) | (simp_all; omega)))))
    · have hle := of_decide_eq_false hc
      have := HH.out
      refine nextF_of (j - (h + 1)) (by omega) (Sub.refl _) ⟨h + 1, j, by omega, by omega, by omega, rfl, (by first | rfl | (simp only [↓putO_get, ↓putO_no, init_zero, init_succ, Nat.reduceEqDiff, ↓reduceIte, *]; done) | (simp only [↓putO_get, ↓putO_no, init_zero, init_succ, Nat.reduceEqDiff, ↓reduceIte, *]; rfl)), (by first | rfl | (simp only [↓putO_get, ↓putO_no, init_zero, init_succ, Nat.reduceEqDiff, ↓reduceIte, *]; done) | (simp only [↓putO_get, ↓putO_no, init_zero, init_succ, Nat.reduceEqDiff, ↓reduceIte, *]; rfl)), (by first | rfl | (simp only [↓putO_get, ↓putO_no, init_zero, init_succ, Nat.reduceEqDiff, ↓reduceIte, *]; done) | (simp only [↓putO_get, ↓putO_no, init_zero, init_succ, Nat.reduceEqDiff, ↓reduceIte, *]; rfl)), rfl⟩
    · have hle := of_decide_eq_true hc
      have := HH.out
      refine nextF_of (h - i) (by omega) (Sub.refl _) ⟨i, h, by omega, by omega, by omega, rfl, (by first | rfl | (simp only [↓putO_get, ↓putO_no, init_zero, init_succ, Nat.reduceEqDiff, ↓reduceIte, *]; done) | (simp only [↓putO_get, ↓putO_no, init_zero, init_succ, Nat.reduceEqDiff, ↓reduceIte, *]; rfl)), (by first | rfl | (simp only [↓putO_get, ↓putO_no, init_zero, init_succ, Nat.reduceEqDiff, ↓reduceIte, *]; done) | (simp only [↓putO_get, ↓putO_no, init_zero, init_succ, Nat.reduceEqDiff, ↓reduceIte, *]; rfl)), (by first | rfl | (simp only [↓putO_get, ↓putO_no, init_zero, init_succ, Nat.reduceEqDiff, ↓reduceIte, *]; done) | (simp only [↓putO_get, ↓putO_no, init_zero, init_succ, Nat.reduceEqDiff, ↓reduceIte, *]; rfl)), rfl⟩
  · have hd : decide ((i : Int) < (j : Int)) = false := by simp; omega
    have e := Hid.mk (show i = place l cc by omega)
    clear hx hro hy
    (repeat' (first | (simp +contextual -dsimp only [*, Ver.cells, ↓reduceIte, ↓evP, evQ, splice, Nat.reduceAdd, Nat.reduceEqDiff, Nat.reduceLeDiff, Nat.reduceMul, reduceCtorEq, Int.reduceLT, Int.reduceLE, Int.reduceGT, Int.reduceGE, Int.reduceEq, Int.reduceNeg]) | (refine condF_split (fun hc => ?_) (fun hc => ?_) <;> (try simp only [Bool.not_eq_true', Bool.not_eq_false', Bool.and_eq_true, Bool.or_eq_false_iff] at hc)) | refine vcallF_mk (by kernel_rfl) ?_ | refine vccallF_mk (by kernel_rfl) ?_ | (intro _; intros) | (refine And.intro ?_ ?_; focus (first | omega | ((repeat (first | exact Sub.refl _ | (refine Sub.drop ?_ ?_; focus (simp only [evN, *]; done)) | refine Sub.both ?_)); done) | (simp_all; done) | (simp_all; omega)))))
    exact endF_det (by rw [← e.out]) (Sub.refl _)
end Go.Proofs.Ytpnghjmphbhkjaa
