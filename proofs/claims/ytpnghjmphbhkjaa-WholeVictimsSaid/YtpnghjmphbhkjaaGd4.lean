/- Texts of mine, part 4 of 4, laid together: A table: Put. The library's contracts, laid for this program. The library's iterator over a slice of texts, collected and sorted. The stream: a list of lists of keys; whether a list has a key. A history of commits: the versions of a key, cut to so many; whether a record has a key. A slice of texts sorted, and of those that stand twice one taken out: over known heaps. The keys of a map, sorted. A t No condition. -/
import Derived.Test.YtpnghjmphbhkjaaGd3
import Derived.Shelf.SlIter.Collect
import Derived.Shelf.Sort.Plain
import Derived.Shelf.Slices.In.SortNone
import Derived.Shelf.Slices.CompactS
import Derived.Shelf.SlIter.Sorted
import Derived.Shelf.SlIter.Keys
import Derived.Test.YtpnghjmphbhkjaaProg
import Derived.RangeFuncLeaves
import Derived.LoopNIn
import Derived.LoopIn
import Derived.Sort.OwnSorted
import Derived.WideShapes
import Derived.KernelRfl
-- V18
namespace Go.Proofs.Ytpnghjmphbhkjaa
open Go.Sp
set_option linter.unusedSimpArgs false
set_option linter.unusedVariables false
def vBadK (k : ByteArray) : Bool := decide (k = ⟨#[]⟩) || decide ((k.size : Int) > 32)
def vBadD (has : Bool) (d : ByteArray) : Bool := decide ((d.size : Int) > 256) || (!has && decide (¬ d = ⟨#[]⟩))
def vGoodP (lo hi : Int) : Bool := decide (lo ≥ 0) && decide (lo ≤ 1099511627776) && decide (hi > lo) && (decide (hi = 4611686018427387904) || decide (hi ≤ 1099511627777))
def vGood (k : ByteArray) (has : Bool) (d : ByteArray) (lo hi : Int) : Bool := !vBadK k && !vBadD has d && vGoodP lo hi
set_option maxHeartbeats 2000000 in
theorem good65v (k : ByteArray) (has : Bool) (d : ByteArray) (lo hi : Int) (σ : Hp) : ACalls Try.prog 65 #[.agg #[.string k, .bool has, .string d, .int .i64 lo, .int .i64 hi]] σ fun u σ' => u = .bool (vGood k has d lo hi) ∧ σ' = σ := by
  cases has
  all_goals (refine acalls_F ok65 (by simp) ?_; unfold c65 r65; simp +contextual -dsimp only [En.cells, tabC, ↓reduceIte, ↓evP, evQ, splice_nil, splice_zero, splice_skip, Nat.reduceAdd, Nat.reduceEqDiff, Nat.reduceLeDiff, Nat.reduceMul, reduceCtorEq, Int.reduceLT, Int.reduceLE, Int.reduceGT, Int.reduceGE, Int.reduceEq, Int.reduceNeg])
  all_goals (repeat' (first | (simp +contextual -dsimp only [*, En.cells, tabC, ↓reduceIte, ↓evP, evQ, splice_nil, splice_zero, splice_skip, Nat.reduceAdd, Nat.reduceEqDiff, Nat.reduceLeDiff, Nat.reduceMul, reduceCtorEq, Int.reduceLT, Int.reduceLE, Int.reduceGT, Int.reduceGE, Int.reduceEq, Int.reduceNeg]) | (refine condF_split (fun hc => ?_) (fun hc => ?_) <;> (try simp only [Bool.not_eq_true', Bool.not_eq_false', Bool.and_eq_true, Bool.or_eq_false_iff] at hc)) | (intro _; intros) | (refine And.intro ?_ ?_; focus (first | omega | ((repeat (first | exact Sub.refl _ | (refine Sub.drop ?_ ?_; focus (simp only [evN, *]; done)) | refine Sub.both ?_)); done) | (simp_all; done) | (simp_all; omega)))))
  all_goals (refine endF_det ?_ ?_; (focus ((try simp only [vGood, vBadK, vBadD, vGoodP, cond_true, cond_false, *]) <;> ((try simp only [decide_eq_true_eq, decide_eq_false_iff_not] at *) <;> first | rfl | (simp [vGood, vBadK, vBadD, vGoodP]; done) | (simp_all [vGood, vBadK, vBadD, vGoodP]; done) | (simp [vGood, vBadK, vBadD, vGoodP]; omega) | (simp [vGood, vBadK, vBadD, vGoodP]; (rw [Bool.eq_iff_iff]); simp; omega) | (simp_all [vGood, vBadK, vBadD, vGoodP] <;> omega) | ((try unfold vGood  vBadK  vBadD  vGoodP); (rw [Value.bool.injEq, Bool.eq_iff_iff]); simp <;> omega) | ((try unfold vGood  vBadK  vBadD  vGoodP); (repeat' split) <;> simp_all <;> omega) | (simp_all [vGood, vBadK, vBadD, vGoodP] <;> (repeat' split) <;> simp_all <;> omega)))); (focus ((try simp only [vGood, vBadK, vBadD, vGoodP, cond_true, cond_false, set_same, *]); exact (by (repeat (first | exact Sub.refl _ | (refine Sub.drop ?_ ?_; focus (simp only [evN, *]; done)) | refine Sub.both ?_)); done))))
def En.good (e : En) : Bool := vGood e.key e.has e.data e.lo e.hi
theorem En.good_small {e : En} (h : e.good = true) : e.key.size ≤ 32 ∧ e.data.size ≤ 256 := by
  unfold En.good vGood vBadK vBadD at h
  simp only [Bool.and_eq_true, Bool.not_eq_true', Bool.or_eq_false_iff, decide_eq_false_iff_not] at h
  obtain ⟨⟨⟨_, h1⟩, h2, _⟩, _⟩ := h
  omega
theorem TabAt.mkmap {τ : Hp} {g m : Nat} {l : List (ByteArray × Value)} {R : ByteArray → List En} (hT : TabAt τ g none l R) (hm : τ m = none) :
    l = [] ∧ TabAt (upd (upd τ m (.mp [])) g (.cells (tabC (some m) (entsT (keysT l) R).length (costs (entsT (keysT l) R))) 151)) g (some m) [] R ∧ TMov g τ none l (upd (upd τ m (.mp [])) g (.cells (tabC (some m) (entsT (keysT l) R).length (costs (entsT (keysT l) R))) 151)) (some m) [] := by
  have hl : l = [] := hT.map
  subst hl
  have hgm : m ≠ g := fun e => by rw [e, hT.cell] at hm; cases hm
  refine ⟨rfl, ⟨upd_same _ _ _, ?_, fun k => (hT.rep k).keep fun j hj => ?_, hT.ok⟩, fun j hj ho => ?_, fun j hj => ?_⟩
  · show upd _ g _ m = _
    rw [upd_ne _ _ hgm, upd_same]
  · cases hj
  · rw [upd_ne _ _ (fun e => ho (.inl e)), upd_ne _ _ (fun e => hj (by rw [e]; exact hm))]
  · rcases hj with h | h | ⟨key, h⟩
    · exact .inl (.inl h)
    · cases h; exact .inr hm
    · cases h
/-- Drop, for what Put wants. -/
theorem drop38p {σ : Hp} {g : Nat} {mo : Option Nat} {l : List (ByteArray × Value)} {R : ByteArray → List En} (hT : TabAt σ g mo l R) (k : ByteArray) (x : Int) (hN : (entsT (keysT l) R).length ≤ 1000) :
    ACalls Try.prog 38 #[.pointer (some ⟨g, 0, none⟩), .string k, .int .i64 x] σ fun u σ' => ∃ l' R', TabAt σ' g mo l' R' ∧ TMov g σ mo l σ' mo l' ∧ hasE (R' k) x = false ∧ (entsT (keysT l') R' = entsT (keysT l) R ∨ ∃ y, (entsT (keysT l) R).Perm (y :: entsT (keysT l') R')) :=
  (drop38 hT k x hN).mono fun u σ' h => by
    rcases h with ⟨h1, _, rfl⟩ | ⟨h1, _, l', e, he, hp, hT', hM⟩
    · exact ⟨l, R, hT, TMov.refl _ _ _ _, h1, .inl rfl⟩
    · refine ⟨l', _, hT', hM, ?_, .inr ⟨e, hp⟩⟩
      rw [turnR_at]
      obtain ⟨e', he', hlo⟩ := hasE_get h1
      exact hasE_erase (hT.ok.ris k) he' hlo
set_option maxRecDepth 100000 in
set_option maxHeartbeats 8000000 in
theorem put33 {σ : Hp} {g : Nat} {mo : Option Nat} {l : List (ByteArray × Value)} {R : ByteArray → List En} (hT : TabAt σ g mo l R) (e : En) (hN : (entsT (keysT l) R).length ≤ 1000) :
    ACalls Try.prog 33 #[.pointer (some ⟨g, 0, none⟩), .agg e.cells.toArray] σ fun u σ' => (e.good = false ∧ u = .bool false ∧ σ' = σ) ∨
      (e.good = true ∧ u = .bool true ∧ ∃ mo' l' R' es, TabAt σ' g mo' l' R' ∧ TMov g σ mo l σ' mo' l' ∧ (entsT (keysT l') R').Perm (e :: es) ∧ (es = entsT (keysT l) R ∨ ∃ x, (entsT (keysT l) R).Perm (x :: es))) := by
  have HT := Hid.mk hT
  clear hT
  (refine acalls_F ok33 (by simp) ?_; unfold c33 r33; simp +contextual -dsimp only [En.cells, tabC, ↓reduceIte, ↓evP, evQ, splice_nil, splice_zero, splice_skip, Nat.reduceAdd, Nat.reduceEqDiff, Nat.reduceLeDiff, Nat.reduceMul, reduceCtorEq, Int.reduceLT, Int.reduceLE, Int.reduceGT, Int.reduceGE, Int.reduceEq, Int.reduceNeg])
  unfold En.cells
  (repeat' (first | (simp +contextual -dsimp only [*, En.cells, tabC, ↓reduceIte, ↓evP, evQ, splice_nil, splice_zero, splice_skip, Nat.reduceAdd, Nat.reduceEqDiff, Nat.reduceLeDiff, Nat.reduceMul, reduceCtorEq, Int.reduceLT, Int.reduceLE, Int.reduceGT, Int.reduceGE, Int.reduceEq, Int.reduceNeg]) | (refine condF_split (fun hc => ?_) (fun hc => ?_) <;> (try simp only [Bool.not_eq_true', Bool.not_eq_false', Bool.and_eq_true, Bool.or_eq_false_iff] at hc)) | (intro _; intros) | (refine And.intro ?_ ?_; focus (first | omega | ((repeat (first | exact Sub.refl _ | (refine Sub.drop ?_ ?_; focus (simp only [evN, *]; done)) | refine Sub.both ?_)); done) | (simp_all; done) | (simp_all; omega)))))
  rename_i p p0
  refine callF_v (good65v _ _ _ _ _ _) ?_
  cases hg : vGood e.key e.has e.data e.lo e.hi with
  | false =>
    (repeat' (first | (simp +contextual -dsimp only [*, En.cells, tabC, ↓reduceIte, ↓evP, evQ, splice_nil, splice_zero, splice_skip, Nat.reduceAdd, Nat.reduceEqDiff, Nat.reduceLeDiff, Nat.reduceMul, reduceCtorEq, Int.reduceLT, Int.reduceLE, Int.reduceGT, Int.reduceGE, Int.reduceEq, Int.reduceNeg]) | (refine condF_split (fun hc => ?_) (fun hc => ?_) <;> (try simp only [Bool.not_eq_true', Bool.not_eq_false', Bool.and_eq_true, Bool.or_eq_false_iff] at hc)) | (intro _; intros) | (refine And.intro ?_ ?_; focus (first | omega | ((repeat (first | exact Sub.refl _ | (refine Sub.drop ?_ ?_; focus (simp only [evN, *]; done)) | refine Sub.both ?_)); done) | (simp_all; done) | (simp_all; omega)))))
    refine endF_sub (τ := σ) (by (repeat (first | exact Sub.refl _ | (refine Sub.drop ?_ ?_; focus (simp only [evN, *]; done)) | refine Sub.both ?_)); done) (.inl ⟨hg, rfl, rfl⟩)
  | true =>
    have hsm := En.good_small (show e.good = true from hg)
    have HG := Hid.mk hg
    clear hg
    have q := Hid.mk (drop38p (HT.out.fresh p0 (.cells e.cells 89)).1 e.key e.lo hN)
    unfold En.cells at q
    (repeat' (first | (simp +contextual -dsimp only [*, En.cells, tabC, ↓reduceIte, ↓evP, evQ, splice_nil, splice_zero, splice_skip, Nat.reduceAdd, Nat.reduceEqDiff, Nat.reduceLeDiff, Nat.reduceMul, reduceCtorEq, Int.reduceLT, Int.reduceLE, Int.reduceGT, Int.reduceGE, Int.reduceEq, Int.reduceNeg]) | (refine condF_split (fun hc => ?_) (fun hc => ?_) <;> (try simp only [Bool.not_eq_true', Bool.not_eq_false', Bool.and_eq_true, Bool.or_eq_false_iff] at hc)) | (intro _; intros) | (refine And.intro ?_ ?_; focus (first | omega | ((repeat (first | exact Sub.refl _ | (refine Sub.drop ?_ ?_; focus (simp only [evN, *]; done)) | refine Sub.both ?_)); done) | (simp_all; done) | (simp_all; omega)))))
    refine callF_of q.out ?_
    rintro u σ1 ⟨l1, R1, hT1, hM1, hno, hes⟩
    have hpn : ¬ OwnT g mo l p := fun q => HT.out.known q p0
    have hp1 := hM1.at (upd_same _ _ _) hpn
    have hN1 : (entsT (keysT l1) R1).length ≤ 1000 := by
      rcases hes with q | ⟨y, q⟩
      · rw [q]; exact hN
      · have := q.length_eq; rw [List.length_cons] at this; omega
    have hr0 : Go.Sp.rd σ1 g 0 = some (.map mo) := by unfold Go.Sp.rd; rw [hT1.cell]; rfl
    have HM : Hid (TMov g σ mo l σ1 mo l1) := ⟨(HT.out.fresh p0 _).2.trans hM1⟩
    have HX := Hid.mk (And.intro hT1 (And.intro hno (And.intro hes hp1)))
    clear hT1 hM1 hno hes hp1 hpn q
    cases mo with
    | some m =>
      (repeat' (first | (simp +contextual -dsimp only [*, En.cells, tabC, ↓reduceIte, ↓evP, evQ, splice_nil, splice_zero, splice_skip, Nat.reduceAdd, Nat.reduceEqDiff, Nat.reduceLeDiff, Nat.reduceMul, reduceCtorEq, Int.reduceLT, Int.reduceLE, Int.reduceGT, Int.reduceGE, Int.reduceEq, Int.reduceNeg]) | (refine condF_split (fun hc => ?_) (fun hc => ?_) <;> (try simp only [Bool.not_eq_true', Bool.not_eq_false', Bool.and_eq_true, Bool.or_eq_false_iff] at hc)) | (intro _; intros) | (refine And.intro ?_ ?_; focus (first | omega | ((repeat (first | exact Sub.refl _ | (refine Sub.drop ?_ ?_; focus (simp only [evN, *]; done)) | refine Sub.both ?_)); done) | (simp_all; done) | (simp_all; omega)))))
      refine raw_mapnil Try.underlying149 (by first | rfl | (simp only [↓putO_get, ↓putO_no, init_zero, init_succ, Nat.reduceEqDiff, ↓reduceIte, *]; done) | (simp only [↓putO_get, ↓putO_no, init_zero, init_succ, Nat.reduceEqDiff, ↓reduceIte, *]; rfl)) ?_
      (repeat' (first | (simp +contextual -dsimp only [*, En.cells, tabC, ↓reduceIte, ↓evP, evQ, splice_nil, splice_zero, splice_skip, Nat.reduceAdd, Nat.reduceEqDiff, Nat.reduceLeDiff, Nat.reduceMul, reduceCtorEq, Int.reduceLT, Int.reduceLE, Int.reduceGT, Int.reduceGE, Int.reduceEq, Int.reduceNeg]) | (refine condF_split (fun hc => ?_) (fun hc => ?_) <;> (try simp only [Bool.not_eq_true', Bool.not_eq_false', Bool.and_eq_true, Bool.or_eq_false_iff] at hc)) | (intro _; intros) | (refine And.intro ?_ ?_; focus (first | omega | ((repeat (first | exact Sub.refl _ | (refine Sub.drop ?_ ?_; focus (simp only [evN, *]; done)) | refine Sub.both ?_)); done) | (simp_all; done) | (simp_all; omega)))))
      refine tail33 HX.out.1 HX.out.2.2.2.1 HX.out.2.1 hsm hN1 (by first | rfl | (simp only [↓putO_get, ↓putO_no, init_zero, init_succ, Nat.reduceEqDiff, ↓reduceIte, *]; done) | (simp only [↓putO_get, ↓putO_no, init_zero, init_succ, Nat.reduceEqDiff, ↓reduceIte, *]; rfl)) (by first | rfl | (simp only [↓putO_get, ↓putO_no, init_zero, init_succ, Nat.reduceEqDiff, ↓reduceIte, *]; done) | (simp only [↓putO_get, ↓putO_no, init_zero, init_succ, Nat.reduceEqDiff, ↓reduceIte, *]; rfl)) (by first | rfl | (simp only [↓putO_get, ↓putO_no, init_zero, init_succ, Nat.reduceEqDiff, ↓reduceIte, *]; done) | (simp only [↓putO_get, ↓putO_no, init_zero, init_succ, Nat.reduceEqDiff, ↓reduceIte, *]; rfl)) ?_
      intro s' σ' l' R' h4 hT' hM' hp'
      have HE := Hid.mk (And.intro hT' (And.intro hM' hp'))
      clear hT' hM' hp'
      simp +contextual -dsimp only [*, En.cells, tabC, ↓reduceIte, ↓evP, evQ, splice_nil, splice_zero, splice_skip, Nat.reduceAdd, Nat.reduceEqDiff, Nat.reduceLeDiff, Nat.reduceMul, reduceCtorEq, Int.reduceLT, Int.reduceLE, Int.reduceGT, Int.reduceGE, Int.reduceEq, Int.reduceNeg]
      exact endF_at (.inr ⟨HG.out, rfl, some m, l', R', _, HE.out.1, HM.out.trans HE.out.2.1, HE.out.2.2, HX.out.2.2.1⟩)
    | none =>
      (repeat' (first | (simp +contextual -dsimp only [*, En.cells, tabC, ↓reduceIte, ↓evP, evQ, splice_nil, splice_zero, splice_skip, Nat.reduceAdd, Nat.reduceEqDiff, Nat.reduceLeDiff, Nat.reduceMul, reduceCtorEq, Int.reduceLT, Int.reduceLE, Int.reduceGT, Int.reduceGE, Int.reduceEq, Int.reduceNeg]) | (refine condF_split (fun hc => ?_) (fun hc => ?_) <;> (try simp only [Bool.not_eq_true', Bool.not_eq_false', Bool.and_eq_true, Bool.or_eq_false_iff] at hc)) | (intro _; intros) | (refine And.intro ?_ ?_; focus (first | omega | ((repeat (first | exact Sub.refl _ | (refine Sub.drop ?_ ?_; focus (simp only [evN, *]; done)) | refine Sub.both ?_)); done) | (simp_all; done) | (simp_all; omega)))))
      refine raw_mapnil Try.underlying149 (by first | rfl | (simp only [↓putO_get, ↓putO_no, init_zero, init_succ, Nat.reduceEqDiff, ↓reduceIte, *]; done) | (simp only [↓putO_get, ↓putO_no, init_zero, init_succ, Nat.reduceEqDiff, ↓reduceIte, *]; rfl)) ?_
      obtain ⟨ρ, hρ⟩ : ∃ ρ, ρ = σ1 := ⟨_, rfl⟩
      have heap : σ1 = upd ρ g (.cells (tabC none (entsT (keysT l1) R1).length (costs (entsT (keysT l1) R1))) 151) := by rw [hρ, upd_self HX.out.1.cell]
      have HH := Hid.mk (And.intro hρ heap)
      rw [heap]
      clear hρ heap hr0
      (repeat' (first | (simp +contextual -dsimp only [*, En.cells, tabC, ↓reduceIte, ↓evP, evQ, splice_nil, splice_zero, splice_skip, Nat.reduceAdd, Nat.reduceEqDiff, Nat.reduceLeDiff, Nat.reduceMul, reduceCtorEq, Int.reduceLT, Int.reduceLE, Int.reduceGT, Int.reduceGE, Int.reduceEq, Int.reduceNeg]) | (refine condF_split (fun hc => ?_) (fun hc => ?_) <;> (try simp only [Bool.not_eq_true', Bool.not_eq_false', Bool.and_eq_true, Bool.or_eq_false_iff] at hc)) | (intro _; intros) | (refine And.intro ?_ ?_; focus (first | omega | ((repeat (first | exact Sub.refl _ | (refine Sub.drop ?_ ?_; focus (simp only [evN, *]; done)) | refine Sub.both ?_)); done) | (simp_all; done) | (simp_all; omega)))))
      rename_i m m1 m1' m0
      obtain ⟨hl1, hT2, hM2⟩ := TabAt.mkmap HX.out.1 (show σ1 m = none by rw [← HH.out.1]; exact m0)
      have hp2 := (hM2.at HX.out.2.2.2.1 HX.out.2.2.2.2).1
      have hh : upd (upd ρ g (.cells [.map (some m), .int .i64 ((entsT (keysT l1) R1).length : Nat), .int .i64 (costs (entsT (keysT l1) R1) : Nat)] 151)) m (.mp []) = upd (upd σ1 m (.mp [])) g (.cells (tabC (some m) (entsT (keysT l1) R1).length (costs (entsT (keysT l1) R1))) 151) := by
        rw [HH.out.1]
        first | exact upd_comm _ _ _ m1 | exact upd_comm _ _ _ m1'
      rw [hh]
      subst hl1
      refine tail33 hT2 hp2 HX.out.2.1 hsm hN1 (by first | rfl | (simp only [↓putO_get, ↓putO_no, init_zero, init_succ, Nat.reduceEqDiff, ↓reduceIte, *]; done) | (simp only [↓putO_get, ↓putO_no, init_zero, init_succ, Nat.reduceEqDiff, ↓reduceIte, *]; rfl)) (by first | rfl | (simp only [↓putO_get, ↓putO_no, init_zero, init_succ, Nat.reduceEqDiff, ↓reduceIte, *]; done) | (simp only [↓putO_get, ↓putO_no, init_zero, init_succ, Nat.reduceEqDiff, ↓reduceIte, *]; rfl)) (by first | rfl | (simp only [↓putO_get, ↓putO_no, init_zero, init_succ, Nat.reduceEqDiff, ↓reduceIte, *]; done) | (simp only [↓putO_get, ↓putO_no, init_zero, init_succ, Nat.reduceEqDiff, ↓reduceIte, *]; rfl)) ?_
      intro s' σ' l' R' h4 hT' hM' hp'
      have HE := Hid.mk (And.intro hT' (And.intro hM' hp'))
      have HM2 := Hid.mk hM2
      clear hT' hM' hp' hM2 hT2 hp2 hh
      simp +contextual -dsimp only [*, En.cells, tabC, ↓reduceIte, ↓evP, evQ, splice_nil, splice_zero, splice_skip, Nat.reduceAdd, Nat.reduceEqDiff, Nat.reduceLeDiff, Nat.reduceMul, reduceCtorEq, Int.reduceLT, Int.reduceLE, Int.reduceGT, Int.reduceGE, Int.reduceEq, Int.reduceNeg]
      exact endF_at (.inr ⟨HG.out, rfl, some m, l', R', _, HE.out.1, HM.out.trans (HM2.out.trans HE.out.2.1), HE.out.2.2, HX.out.2.2.1⟩)
end Go.Proofs.Ytpnghjmphbhkjaa

-- XLay
namespace Go.Proofs
open Go.Shelf
def Try.sortL_ren : Go.Shelf.Ren := ⟨fun | 190 => 92 | 125 => 113 | 258 => 112 | 128 => 139 | 129 => 140 | 302 => 130 | 303 => 131 | 304 => 132 | 305 => 133 | 306 => 134 | 307 => 135 | 308 => 136 | 309 => 137 | 310 => 138 | 333 => 145 | 329 => 146 | 330 => 147 | 334 => 148 | 335 => 149 | 336 => 150 | 344 => 152 | n => n, fun | 31 => 36 | 9 => 9 | 3 => 3 | 46 => 167 | 0 => 0 | 51 => 222 | 53 => 208 | 4 => 4 | 183 => 215 | 182 => 214 | 131 => 153 | 5 => 5 | 218 => 228 | 222 => 232 | 228 => 234 | 229 => 235 | n => n, fun | n => n⟩
theorem Try.sortL : Go.Proofs.Lays.n190 Try.prog Try.sortL_ren := {
  mixed := by kernel_rfl
  f125 := Try.func113.trans (congrArg some (by kernel_rfl))
  f128 := Try.func139.trans (congrArg some (by kernel_rfl))
  f129 := Try.func140.trans (congrArg some (by kernel_rfl))
  f190 := Try.func92.trans (congrArg some (by kernel_rfl))
  f258 := Try.func112.trans (congrArg some (by kernel_rfl))
  f302 := Try.func130.trans (congrArg some (by kernel_rfl))
  f303 := Try.func131.trans (congrArg some (by kernel_rfl))
  f304 := Try.func132.trans (congrArg some (by kernel_rfl))
  f305 := Try.func133.trans (congrArg some (by kernel_rfl))
  f306 := Try.func134.trans (congrArg some (by kernel_rfl))
  f307 := Try.func135.trans (congrArg some (by kernel_rfl))
  f308 := Try.func136.trans (congrArg some (by kernel_rfl))
  f309 := Try.func137.trans (congrArg some (by kernel_rfl))
  f310 := Try.func138.trans (congrArg some (by kernel_rfl))
  f329 := Try.func146.trans (congrArg some (by kernel_rfl))
  f330 := Try.func147.trans (congrArg some (by kernel_rfl))
  f333 := Try.func145.trans (congrArg some (by kernel_rfl))
  f334 := Try.func148.trans (congrArg some (by kernel_rfl))
  f335 := Try.func149.trans (congrArg some (by kernel_rfl))
  f336 := Try.func150.trans (congrArg some (by kernel_rfl))
  f344 := Try.func152.trans (congrArg some (by kernel_rfl))
  t0 := Try.underlying0
  a0 := Try.isAgg0
  z0 := Try.sizeOf0
  v0 := Try.zeroValue0
  t3 := Try.underlying3
  a3 := Try.isAgg3
  z3 := Try.sizeOf3
  v3 := Try.zeroValue3
  t4 := Try.underlying4
  a4 := Try.isAgg4
  z4 := Try.sizeOf4
  v4 := Try.zeroValue4
  t5 := Try.underlying5
  a5 := Try.isAgg5
  z5 := Try.sizeOf5
  v5 := Try.zeroValue5
  t9 := Try.underlying9
  a9 := Try.isAgg9
  z9 := Try.sizeOf9
  v9 := Try.zeroValue9
  t31 := Try.underlying36
  a31 := Try.isAgg36
  z31 := Try.sizeOf36
  v31 := Try.zeroValue36
  t46 := Try.underlying167
  a46 := Try.isAgg167
  z46 := Try.sizeOf167
  v46 := Try.zeroValue167
  t51 := Try.underlying222
  a51 := Try.isAgg222
  z51 := Try.sizeOf222
  v51 := Try.zeroValue222
  t53 := Try.underlying208
  a53 := Try.isAgg208
  z53 := Try.sizeOf208
  v53 := Try.zeroValue208
  t131 := Try.underlying153
  a131 := Try.isAgg153
  z131 := Try.sizeOf153
  v131 := Try.zeroValue153
  t182 := Try.underlying214
  a182 := Try.isAgg214
  z182 := Try.sizeOf214
  v182 := Try.zeroValue214
  t183 := Try.underlying215
  a183 := Try.isAgg215
  z183 := Try.sizeOf215
  v183 := Try.zeroValue215
  t218 := Try.underlying228
  a218 := Try.isAgg228
  z218 := Try.sizeOf228
  v218 := Try.zeroValue228
  t222 := Try.underlying232
  a222 := Try.isAgg232
  z222 := Try.sizeOf232
  v222 := Try.zeroValue232
  t228 := Try.underlying234
  a228 := Try.isAgg234
  z228 := Try.sizeOf234
  v228 := Try.zeroValue234
  t229 := Try.underlying235
  a229 := Try.isAgg235
  z229 := Try.sizeOf235
  v229 := Try.zeroValue235 }
def Try.kiL_ren : Go.Shelf.Ren := ⟨fun | 10 => 93 | n => n, fun | 33 => 112 | 23 => 149 | 0 => 0 | 4 => 4 | 26 => 9 | 3 => 83 | n => n, fun | n => n⟩
theorem Try.kiL : Go.Proofs.SlLaysZ.n10 Try.prog Try.kiL_ren := {
  mixed := by kernel_rfl
  f10 := ⟨Try.f93.name, by decide, Try.func93.trans (congrArg some (by kernel_rfl))⟩
  t0 := Try.underlying0
  a0 := Try.isAgg0
  z0 := Try.sizeOf0
  v0 := Try.zeroValue0
  t4 := Try.underlying4
  a4 := Try.isAgg4
  z4 := Try.sizeOf4
  v4 := Try.zeroValue4
  t23 := Try.underlying149
  a23 := Try.isAgg149
  z23 := Try.sizeOf149
  v23 := Try.zeroValue149
  t26 := Try.underlying9
  a26 := Try.isAgg9
  z26 := Try.sizeOf9
  v26 := Try.zeroValue9
  t33 := Try.underlying112
  a33 := Try.isAgg112
  z33 := Try.sizeOf112
  v33 := Try.zeroValue112 }
def Try.soL_ren : Go.Shelf.Ren := ⟨fun | 6 => 69 | 8 => 91 | 9 => 92 | 11 => 111 | 13 => 113 | 12 => 112 | 23 => 139 | 24 => 140 | 14 => 130 | 15 => 131 | 16 => 132 | 17 => 133 | 18 => 134 | 19 => 135 | 20 => 136 | 21 => 137 | 22 => 138 | 25 => 145 | 26 => 146 | 27 => 147 | 28 => 148 | 29 => 149 | 30 => 150 | 31 => 152 | n => n, fun | 26 => 9 | 28 => 159 | 24 => 36 | 0 => 0 | 3 => 3 | 37 => 167 | 48 => 222 | 50 => 208 | 4 => 4 | 40 => 215 | 39 => 214 | 45 => 153 | 5 => 5 | 9 => 9 | 51 => 228 | 55 => 232 | 57 => 234 | 58 => 235 | 33 => 112 | n => n, fun | n => n⟩
theorem Try.soL : Go.Proofs.SlLaysZ.n6 Try.prog Try.soL_ren := {
  mixed := by kernel_rfl
  f6 := ⟨Try.f69.name, by decide, Try.func69.trans (congrArg some (by kernel_rfl))⟩
  f8 := ⟨Try.f91.name, by decide, Try.func91.trans (congrArg some (by kernel_rfl))⟩
  f11 := ⟨Try.f111.name, by decide, Try.func111.trans (congrArg some (by kernel_rfl))⟩
  t0 := Try.underlying0
  a0 := Try.isAgg0
  z0 := Try.sizeOf0
  v0 := Try.zeroValue0
  t24 := Try.underlying36
  a24 := Try.isAgg36
  z24 := Try.sizeOf36
  v24 := Try.zeroValue36
  t26 := Try.underlying9
  a26 := Try.isAgg9
  z26 := Try.sizeOf9
  v26 := Try.zeroValue9
  t28 := Try.underlying159
  a28 := Try.isAgg159
  z28 := Try.sizeOf159
  v28 := Try.zeroValue159
  i26 := by kernel_rfl }
end Go.Proofs

-- XS
namespace Go.Proofs.Ytpnghjmphbhkjaa
open Go.RowKit Go.Maps Go.Sort Go.Shelf
set_option linter.unusedSimpArgs false
set_option linter.unusedVariables false
attribute [local go_sem] Oper.semAt_some
end Go.Proofs.Ytpnghjmphbhkjaa

-- X2
namespace Go.Proofs.Ytpnghjmphbhkjaa
open Go.Sp
set_option linter.unusedSimpArgs false
set_option linter.unusedVariables false
structure Ver where
  n : Nat
  has : Bool
  data : ByteArray
def Ver.cells (v : Ver) : List Value := [.int .i64 v.n, .bool v.has, .string v.data]
theorem Ver.cells_len (v : Ver) : v.cells.length = 3 := rfl
/-- A key's versions that are kept, and whether some were dropped. -/
structure Row where
  list : List Ver
  dropped : Bool
def cut (m : Nat) (l : List Ver) : Row := if m < l.length then ⟨l.drop (l.length - m), true⟩ else ⟨l, false⟩
def Row.push (m : Nat) (v : Ver) (r : Row) : Row := if m < r.list.length + 1 then ⟨(r.list ++ [v]).drop (r.list.length + 1 - m), true⟩ else ⟨r.list ++ [v], r.dropped⟩
def Wr.ver (w : Wr) (n : Nat) : Ver := ⟨n, w.has, w.data⟩
def wrote (k : ByteArray) (ws : List Wr) : Option Wr := ws.find? (fun w => decide (w.key = k))
def wroteV (k : ByteArray) (ws : List Wr) (n : Nat) : List Ver := match wrote k ws with | some w => [w.ver n] | none => []
def versF : Nat → List (List Wr) → ByteArray → List Ver
  | _, [], _ => []
  | n, ws :: r, k => wroteV k ws n ++ versF (n + 1) r k
def vers (H : List (List Wr)) (k : ByteArray) : List Ver := versF 1 H k
/-- A store: how many versions it keeps, its last commit, each key's row. -/
structure St where
  most : Nat
  last : Nat
  row : ByteArray → Row
def stepW (m n : Nat) (R : ByteArray → Row) (w : Wr) : ByteArray → Row := fun k => if k = w.key then (R k).push m (w.ver n) else R k
def St.commit (S : St) (ws : List Wr) : St := ⟨S.most, S.last + 1, ws.foldl (stepW S.most (S.last + 1)) S.row⟩
def St.new (m : Nat) : St := ⟨m, 0, fun _ => ⟨[], false⟩⟩
def St.run (m : Nat) (H : List (List Wr)) : St := ⟨m, H.length, fun k => cut m (vers H k)⟩
end Go.Proofs.Ytpnghjmphbhkjaa

-- X5
namespace Go.Proofs.Ytpnghjmphbhkjaa
open Go.Sp
open Go.RowKit (Below)
open Go.Sort (Holds putRow)
open Go.Proofs (encStr)
set_option linter.unusedSimpArgs false
set_option linter.unusedVariables false
/-- A contract that hands back a new row and leaves all that was there as it was. -/
theorem _root_.Go.Sp.acalls_own {P : Program} {f : FuncId} {args : Array Value} {σ : Hp} {E sz n : Nat} {xs : List Value} (h : ∀ w, Sat σ w → Calls P f args w fun e w' => ∃ v, e = .returned v ∧ w'.ownsRow w.heap.size E sz v n xs ∧ Below w.heap.size w w') :
    ACalls P f args σ fun v σ' => (n = 0 ∧ v = .slice none 0 0 ∧ σ' = σ) ∨ ∃ b c, σ b = none ∧ n ≤ c ∧ v = .slice (some ⟨b, 0, none⟩) n c ∧ σ' = upd σ b (.row xs (c * sz) E) := fun w hs => (h w hs).mono fun e w' ⟨v, he, ho, hb⟩ => by
  have hbase : Sat σ w' := fun b o hbo => by rw [hb.block b (hs.lt (by rw [hbo]; simp))]; exact hs b o hbo
  rcases ho.2 with ⟨rfl, hn⟩ | ⟨g, cap, cur, rfl, hg, hcell, h1, h2, h3, h4⟩
  · exact ⟨_, σ, he, hbase, ⟨hb.os, hb.tape, hb.output, hb.size, fun k hk _ => hb.block k hk, fun _ _ hn => hn⟩, .inl ⟨hn, rfl, rfl⟩⟩
  · have hn : σ g = none := hs.none_of_le hg
    refine ⟨_, upd σ g (.row xs (cap * sz) E), he, fun b o hbo => ?_, ⟨hb.os, hb.tape, hb.output, hb.size, fun k hk _ => hb.block k hk, fun k hk hkn => by rw [upd_ne _ _ (by omega)]; exact hkn⟩, .inr ⟨g, cap, hn, h1, rfl, rfl⟩⟩
    by_cases e : b = g
    · subst e
      rw [upd_same] at hbo; cases hbo
      refine ⟨cur.toList.drop (n * sz), ?_, ?_⟩
      · rw [← h4, List.length_take, List.length_drop, Array.length_toList, h3]
        have := Nat.mul_le_mul_right sz h1
        omega
      · rw [hcell, ← h4, List.take_append_drop]
    · rw [upd_ne _ _ e] at hbo; exact hbase b o hbo
def bytesOf (k : ByteArray) : List UInt8 := k.data.toList
def sortedK (ks : List ByteArray) : List (List UInt8) := (ks.map bytesOf).mergeSort (fun x y => decide (x ≤ y))
end Go.Proofs.Ytpnghjmphbhkjaa

-- V19
namespace Go.Proofs.Ytpnghjmphbhkjaa
open Go.Sp
open Go.RowKit (Below)
open Go.Sort (Holds putRow)
open Go.Proofs (encStr)
set_option linter.unusedSimpArgs false
set_option linter.unusedVariables false
theorem keys70 (mo : Option Nat) (σ : Hp) : ACalls Try.prog 70 #[.map mo] σ fun u σ' => ∃ b, σ b = none ∧ u = .func (.func 93) #[] #[.pointer (some ⟨b, 0, none⟩)] ∧ σ' = upd σ b (.cells [.map mo] 149) := by
  (refine acalls_F ok70 (by simp) ?_; unfold c70 r70)
  (repeat' (first | (simp +contextual -dsimp only [*, ↓reduceIte, ↓evP, evQ, splice, Nat.reduceAdd, Nat.reduceEqDiff, Nat.reduceLeDiff, Nat.reduceMul, reduceCtorEq, Int.reduceLT, Int.reduceLE, Int.reduceGT, Int.reduceGE, Int.reduceEq, Int.reduceNeg]) | (refine condF_split (fun hc => ?_) (fun hc => ?_) <;> (try simp only [Bool.not_eq_true', Bool.not_eq_false', Bool.and_eq_true, Bool.or_eq_false_iff] at hc)) | (intro _; intros) | (refine And.intro ?_ ?_; focus (first | omega | ((repeat (first | exact Sub.refl _ | (refine Sub.drop ?_ ?_; focus (simp only [evN, *]; done)) | refine Sub.both ?_)); done) | (simp_all; done) | (simp_all; omega)))))
  rename_i b hb
  exact endF_at ⟨b, hb, rfl, rfl⟩
def fk : Value → List UInt8 | .string s => s.data.toList | _ => []
theorem keyOf9 (k : ByteArray) (h : k.size ≤ 4096) : keyOf Try.prog 9 (.string k) = some (.string k.data.toList) := by
  have hm : k.size ≤ maxLen := by unfold maxLen; omega
  simp [keyOf, Try.underlying9, mapKey, hm]
def noR (_ : Value) : Option (DataW Unit × List MemPlace) := some (.nil, [])
open Go.WideElems in
theorem owns_of {w : World} {σ : Hp} {m : Nat} {l : List (ByteArray × Value)} (hs : Sat σ w) (hm : σ m = some (.mp l)) (hn : (keysT l).Nodup) (hsz : ∀ k ∈ keysT l, k.size ≤ 4096) (hl : l.length ≤ 1048576) :
    ∃ D0 : DataW Unit, w.ownsMap Try.prog 9 noR m l.length D0 ∧ (Go.strKeys D0).Perm ((keysT l).map bytesOf) ∧ Go.Maps.size D0 = l.length := by
  obtain ⟨es, c, hb, hE⟩ := hs m _ hm
  have hkeys : es.toList.map (·.key) = (keysT l).map Value.string := by
    have := congrArg (List.map Prod.fst) hE.kv
    rw [List.map_map, List.map_map] at this
    unfold keysT
    rw [List.map_map]
    exact this
  have hlen : es.toList.length = l.length := by
    have := congrArg List.length hE.kv
    rwa [List.length_map, List.length_map] at this
  have hrd : ∀ x ∈ es.toList, WideElems.rd Try.prog 9 noR x = some (.string (fk x.key), .nil) := fun x hx => by
    have hx' : x.key ∈ (keysT l).map Value.string := by rw [← hkeys]; exact List.mem_map.2 ⟨x, hx, rfl⟩
    obtain ⟨k, hk, e⟩ := List.mem_map.1 hx'
    have := keyOf9 k (hsz k hk)
    unfold WideElems.rd
    rw [← e, this]
    rfl
  obtain ⟨G, hG⟩ : ∃ G : MapEntry → Lit × DataW Unit, G = WideElems.rg Try.prog 9 noR := ⟨_, rfl⟩
  have hrg : ∀ x ∈ es.toList, G x = (.string (fk x.key), .nil) := fun x hx => by rw [hG]; exact rg_of (hrd x hx)
  have hp := Go.WideShapes.sorted_perm (es.toList.map G)
  have e1 : (es.toList.map G).map (fun p => Go.strOf p.1) = (es.toList.map (·.key)).map fk := by
    rw [List.map_map, List.map_map]
    exact List.map_congr_left fun x hx => by
      show Go.strOf (G x).1 = fk x.key
      rw [hrg x hx]; rfl
  have e2 : ((keysT l).map Value.string).map fk = (keysT l).map bytesOf := by
    rw [List.map_map]
    exact List.map_congr_left fun k _ => rfl
  refine ⟨.map ((es.toList.map G).foldr DataW.insert []), ⟨es, c, hb, ⟨by rw [← Array.length_toList, hlen]; unfold maxLen; omega, ⟨hE.clock, ?_, ?_⟩, fun x hx => ⟨_, hrd x hx⟩⟩, by rw [← Array.length_toList, hlen]; exact Nat.le_refl _, by rw [hG]⟩, ?_, ?_⟩
  · exact List.pairwise_map.2 (hE.born.imp fun {a b} h q => by rw [q] at h; exact absurd h (Nat.lt_irrefl _))
  · rw [hkeys]
    exact List.pairwise_map.2 (List.Pairwise.imp (fun {a b} hab e => hab (by injection e)) hn)
  · have := hp.map (fun p => Go.strOf p.1)
    rw [e1, hkeys, e2] at this
    exact this
  · have := hp.length_eq
    rw [List.length_map, hlen] at this
    exact this
end Go.Proofs.Ytpnghjmphbhkjaa

-- V20
namespace Go.Proofs.Ytpnghjmphbhkjaa
open Go.Sp
open Go.RowKit (Below)
open Go.Sort (Holds putRow)
open Go.Proofs (encStr)
set_option linter.unusedSimpArgs false
set_option linter.unusedVariables false
def mkB (bs : List UInt8) : ByteArray := ⟨bs.toArray⟩
theorem mkB_bytes (k : ByteArray) : mkB (bytesOf k) = k := by cases k; simp [mkB, bytesOf]
theorem enc_flat (L : List (List UInt8)) : L.map encStr = (L.map mkB).flatMap sC := by
  induction L with
  | nil => rfl
  | cons a t ih => rw [List.map_cons, ih]; rfl
theorem sorts_wide (m : Nat) : AnyZ.SortsIn Try.prog Try.soL_ren Fence.wide m :=
  ⟨fun blk off cap ss W hH hblk hsz => callsIn_wide.2 (Any.slices_Sort_string Try.sortL blk off cap ss W hH hblk hsz),
   fun p cap W => callsIn_wide.2 (Any.slices_Sort_string_none Try.sortL p cap W)⟩
theorem sorted69m {σ : Hp} {Bm m : Nat} {l : List (ByteArray × Value)} (hB : σ Bm = some (.cells [.map (some m)] 149)) (hm : σ m = some (.mp l)) (hn : (keysT l).Nodup) (hsz : ∀ k ∈ keysT l, k.size ≤ 4096) (hl : l.length ≤ 1048576) :
    ACalls Try.prog 69 #[.func (.func 93) #[] #[.pointer (some ⟨Bm, 0, none⟩)]] σ fun u σ' => ∃ S : List ByteArray, S.Perm (keysT l) ∧ RowsAt 9 1 sC σ' u S ∧ Same (fun _ => False) σ σ' := by
  have key : ACalls Try.prog 69 #[.func (.func 93) #[] #[.pointer (some ⟨Bm, 0, none⟩)]] σ _ := acalls_own (E := 9) (sz := 1) (n := l.length) (xs := (sortedK (keysT l)).map encStr) fun w hs => by
    obtain ⟨D0, hown, hperm, hsize⟩ := owns_of hs hm hn hsz hl
    have hcell : w.cell? ⟨Bm, 0, none⟩ = some (.map (some m)) := rd_cell hs (by unfold Go.Sp.rd; rw [hB]; rfl)
    have hseq := AnyZ.keys_gives (ρ := Try.kiL_ren) Try.kiL Fence.wide 3 trivial rfl (by decide) Bm m l.length D0 w (hs.lt (by rw [hB]; simp)) hcell hown
    have h69 := AnyZ.sorted_in Try.soL Fence.wide 6 trivial trivial trivial trivial rfl (by decide) (sorts_wide _) (enters_of Try.func92 (by kernel_rfl) rfl) 93 #[.pointer (some ⟨Bm, 0, none⟩)] trivial (enters_of Try.func93 (by kernel_rfl) rfl) _ _ (by rw [hsize]; unfold maxLen; omega) (by rw [hsize]; omega) w hseq
    refine (callsIn_wide.1 h69).mono ?_
    rintro e w' ⟨v, ss, rfl, hS, hrow, _, hb⟩
    have hSS : ss.Perm ((keysT l).map bytesOf) := hS.trans hperm
    have hlen : ss.length = l.length := by rw [hSS.length_eq, List.length_map]; unfold keysT; rw [List.length_map]
    have hms : ss.mergeSort (fun x y => decide (x ≤ y)) = sortedK (keysT l) := mergeSort_of_perm hSS
    rw [hlen, hms] at hrow
    exact ⟨v, rfl, hrow, hb⟩
  have hP : ((sortedK (keysT l)).map mkB).Perm (keysT l) := by
    have := (List.mergeSort_perm ((keysT l).map bytesOf) (fun x y => decide (x ≤ y))).map mkB
    rw [List.map_map] at this
    refine this.trans (List.Perm.of_eq ?_)
    have e : (mkB ∘ bytesOf) = id := funext mkB_bytes
    rw [e, List.map_id]
  have hL : ((sortedK (keysT l)).map mkB).length = l.length := by rw [hP.length_eq]; unfold keysT; rw [List.length_map]
  refine key.mono fun v σ' h => ⟨(sortedK (keysT l)).map mkB, hP, ?_⟩
  rcases h with ⟨hz, rfl, rfl⟩ | ⟨b, c, hb, hc, rfl, rfl⟩
  · exact ⟨.inl ⟨rfl, List.eq_nil_of_length_eq_zero (by rw [hL]; exact hz)⟩, Same.refl _ _⟩
  · exact ⟨.inr ⟨b, c, by rw [hL], by rw [hL]; exact hc, by rw [upd_same, enc_flat]⟩, Same.updNew hb (Same.refl _ _)⟩
end Go.Proofs.Ytpnghjmphbhkjaa

-- V21
namespace Go.Proofs.Ytpnghjmphbhkjaa
open Go.Sp
set_option linter.unusedSimpArgs false
set_option linter.unusedVariables false
theorem made_on {σ σ2 τ : Hp} {v : Value} (h : Same (fun _ => False) σ σ2) (k : Made σ2 τ v) : Made σ τ v := ⟨h.trans k.1 (fun _ _ x => x), fun j hj => h.sub.noneAt (k.2 j hj)⟩
theorem take_key {S : List ByteArray} {R : ByteArray → List En} {i : Nat} {k : ByteArray} (h : S[i]? = some k) : entsT (S.take (i + 1)) R = entsT (S.take i) R ++ R k := by
  unfold entsT
  rw [List.take_add_one, h, List.flatMap_append]
  simp
set_option maxRecDepth 100000 in
set_option maxHeartbeats 4000000 in
theorem all34 {σ : Hp} {g m : Nat} {l : List (ByteArray × Value)} {R : ByteArray → List En} (hT : TabAt σ g (some m) l R) (hN : (entsT (keysT l) R).length ≤ 1000) :
    ACalls Try.prog 34 #[.pointer (some ⟨g, 0, none⟩)] σ fun u σ' => ∃ L : List En, L.Perm (entsT (keysT l) R) ∧ RowsAt 89 8 En.cells σ' u L ∧ Made σ σ' u := by
  have hmm : σ m = some (.mp l) := hT.map
  have hr0 : Go.Sp.rd σ g 0 = some (.map (some m)) := by unfold Go.Sp.rd; rw [hT.cell]; rfl
  have hksz : ∀ k ∈ keysT l, k.size ≤ 4096 := fun k hk => by
    have hne := (hT.ok.full k).1 hk
    obtain ⟨e, t, he⟩ := List.exists_cons_of_ne_nil hne
    have := hT.ok.own k e (by rw [he]; exact List.mem_cons_self ..)
    rw [← this.1]; omega
  have hll : l.length ≤ 1048576 := by
    have : ∀ (ks : List ByteArray), (∀ k ∈ ks, R k ≠ []) → ks.length ≤ (entsT ks R).length := fun ks => by
      induction ks with
      | nil => intro _; simp
      | cons a t ih =>
        intro h
        have h1 := ih fun k hk => h k (List.mem_cons_of_mem _ hk)
        have h2 := List.length_pos_iff.2 (h a (List.mem_cons_self ..))
        unfold entsT at h1 ⊢
        rw [List.flatMap_cons, List.length_append, List.length_cons]; omega
    have h1 := this (keysT l) fun k hk => (hT.ok.full k).1 hk
    have h2 : (keysT l).length = l.length := by unfold keysT; rw [List.length_map]
    omega
  have HT := Hid.mk hT
  clear hT
  have q1 := keys70 (some m) σ
  (refine acalls_F ok34 (by simp) ?_; unfold c34 r34)
  (repeat' (first | (simp +contextual -dsimp only [*, En.cells, tabC, ↓reduceIte, ↓evP, evQ, splice_nil, splice_zero, splice_skip, Nat.reduceAdd, Nat.reduceEqDiff, Nat.reduceLeDiff, Nat.reduceMul, reduceCtorEq, Int.reduceLT, Int.reduceLE, Int.reduceGT, Int.reduceGE, Int.reduceEq, Int.reduceNeg]) | (refine condF_split (fun hc => ?_) (fun hc => ?_) <;> (try simp only [Bool.not_eq_true', Bool.not_eq_false', Bool.and_eq_true, Bool.or_eq_false_iff] at hc)) | (intro _; intros) | (refine And.intro ?_ ?_; focus (first | omega | ((repeat (first | exact Sub.refl _ | (refine Sub.drop ?_ ?_; focus (simp only [evN, *]; done)) | refine Sub.both ?_)); done) | (simp_all; done) | (simp_all; omega)))))
  refine callF_of q1 ?_
  rintro u σ1 ⟨Bm, hBm, rfl, rfl⟩
  have hBm' : m ≠ Bm := fun e => by rw [← e, hmm] at hBm; cases hBm
  have q2 := sorted69m (σ := upd σ Bm (.cells [.map (some m)] 149)) (Bm := Bm) (m := m) (l := l) (upd_same _ _ _) (by rw [upd_ne _ _ hBm']; exact hmm) HT.out.ok.keys hksz hll
  have Q2 := Hid.mk q2
  clear q1 q2
  (repeat' (first | (simp +contextual -dsimp only [*, En.cells, tabC, ↓reduceIte, ↓evP, evQ, splice_nil, splice_zero, splice_skip, Nat.reduceAdd, Nat.reduceEqDiff, Nat.reduceLeDiff, Nat.reduceMul, reduceCtorEq, Int.reduceLT, Int.reduceLE, Int.reduceGT, Int.reduceGE, Int.reduceEq, Int.reduceNeg]) | (refine condF_split (fun hc => ?_) (fun hc => ?_) <;> (try simp only [Bool.not_eq_true', Bool.not_eq_false', Bool.and_eq_true, Bool.or_eq_false_iff] at hc)) | (intro _; intros) | (refine And.intro ?_ ?_; focus (first | omega | ((repeat (first | exact Sub.refl _ | (refine Sub.drop ?_ ?_; focus (simp only [evN, *]; done)) | refine Sub.both ?_)); done) | (simp_all; done) | (simp_all; omega)))))
  refine callF_of Q2.out ?_
  rintro u σ2 ⟨S, hP, hSr, hSame⟩
  have h02 : Same (fun _ => False) σ σ2 := (Same.updNew hBm (Same.refl _ _)).trans hSame (fun _ _ x => x)
  obtain ⟨A, c, rfl⟩ := hSr.slice
  have hSl : S.length ≤ 1048576 := by rw [hP.length_eq]; unfold keysT; rw [List.length_map]; exact hll
  have H := Hid.mk (And.intro hP (And.intro (hSr.ro sC_len) h02))
  clear hP hSr h02 hSame Q2
  (repeat' (first | (simp +contextual -dsimp only [*, En.cells, tabC, ↓reduceIte, ↓evP, evQ, splice_nil, splice_zero, splice_skip, Nat.reduceAdd, Nat.reduceEqDiff, Nat.reduceLeDiff, Nat.reduceMul, reduceCtorEq, Int.reduceLT, Int.reduceLE, Int.reduceGT, Int.reduceGE, Int.reduceEq, Int.reduceNeg]) | (refine condF_split (fun hc => ?_) (fun hc => ?_) <;> (try simp only [Bool.not_eq_true', Bool.not_eq_false', Bool.and_eq_true, Bool.or_eq_false_iff] at hc)) | (intro _; intros) | (refine And.intro ?_ ?_; focus (first | omega | ((repeat (first | exact Sub.refl _ | (refine Sub.drop ?_ ?_; focus (simp only [evN, *]; done)) | refine Sub.both ?_)); done) | (simp_all; done) | (simp_all; omega)))))
  refine loopF_of (fun k s τ => ∃ (i : Nat) (v : Value), i ≤ S.length ∧ k = S.length - i ∧ s 15 = .int .i64 i ∧ s 14 = .int .i64 S.length ∧ s 13 = .slice A S.length c ∧ s 0 = .pointer (some ⟨g, 0, none⟩) ∧ s 3 = v ∧ Hid (RowsAt 89 8 En.cells τ v (entsT (S.take i) R) ∧ Made σ2 τ v)) S.length (Sub.refl _)
    ⟨0, .slice none 0 0, by omega, rfl, (by first | rfl | (simp only [↓putO_get, ↓putO_no, init_zero, init_succ, Nat.reduceEqDiff, ↓reduceIte, *]; done) | (simp only [↓putO_get, ↓putO_no, init_zero, init_succ, Nat.reduceEqDiff, ↓reduceIte, *]; rfl)), (by first | rfl | (simp only [↓putO_get, ↓putO_no, init_zero, init_succ, Nat.reduceEqDiff, ↓reduceIte, *]; done) | (simp only [↓putO_get, ↓putO_no, init_zero, init_succ, Nat.reduceEqDiff, ↓reduceIte, *]; rfl)), (by first | rfl | (simp only [↓putO_get, ↓putO_no, init_zero, init_succ, Nat.reduceEqDiff, ↓reduceIte, *]; done) | (simp only [↓putO_get, ↓putO_no, init_zero, init_succ, Nat.reduceEqDiff, ↓reduceIte, *]; rfl)), (by first | rfl | (simp only [↓putO_get, ↓putO_no, init_zero, init_succ, Nat.reduceEqDiff, ↓reduceIte, *]; done) | (simp only [↓putO_get, ↓putO_no, init_zero, init_succ, Nat.reduceEqDiff, ↓reduceIte, *]; rfl)), (by first | rfl | (simp only [↓putO_get, ↓putO_no, init_zero, init_succ, Nat.reduceEqDiff, ↓reduceIte, *]; done) | (simp only [↓putO_get, ↓putO_no, init_zero, init_succ, Nat.reduceEqDiff, ↓reduceIte, *]; rfl)), ⟨.inl ⟨rfl, rfl⟩, Made.nil _⟩⟩ ?_
  rintro k s τ ⟨i, v, hi, hk, s15, s14, s13, s0, s3, hR⟩
  have hsub := hR.out.2.sub
  have hσ := H.out.2.2.trans hR.out.2.1 (fun _ _ x => x)
  rcases Nat.lt_or_ge i S.length with hlt | hge
  · obtain ⟨key, hkey⟩ : ∃ x, S[i]? = some x := ⟨_, List.getElem?_eq_getElem hlt⟩
    obtain ⟨b, off, e, hrd⟩ := (H.out.2.1.sub hsub).get hlt
    subst e
    rw [show S[i] = key by rw [List.getElem?_eq_getElem hlt] at hkey; exact Option.some.inj hkey] at hrd
    have hrd := rd_part hrd 0 (v := .string key) rfl
    rw [Nat.add_zero] at hrd
    have hd : decide ((i : Int) < (S.length : Int)) = true := by simp; omega
    have e1 : IntKind.i64.wrap ((i : Int) + 1) = ((i + 1 : Nat) : Int) := by rw [wi64 (by omega)]; rfl
    have hkm : key ∈ keysT l := H.out.1.mem_iff.1 (List.mem_of_getElem? hkey)
    have hne := (HT.out.ok.full key).1 hkm
    obtain ⟨b', c', hv', hc', hb'⟩ := (HT.out.rep key).resolve_left fun q => hne q.2
    have hr1 : Go.Sp.rd τ g 0 = some (.map (some m)) := rd_sub hσ.sub hr0
    have hmr : mreadV τ (.map (some m)) (.get false false) (.slice none 0 0) (.string key) = some (.slice (some ⟨b', 0, none⟩) (R key).length c') := by
      rw [← hv']; exact mread_tab (mo := some m) (show τ m = some (.mp l) from (hσ m (by rw [hmm]; simp) (fun x => x)).trans hmm) key
    have hbτ : τ b' = some (.row ((R key).flatMap En.cells) (c' * 8) 89) := (hσ b' (by rw [hb']; simp) (fun x => x)).trans hb'
    have hy : rdn τ b' 0 ((R key).length * 8) = some ((R key).flatMap En.cells) := by
      have := rdn_flat hbτ (i := 0) (m := (R key).length) (by omega)
      rw [Nat.zero_mul, List.drop_zero, List.take_length] at this; exact this
    have hlen1 : (entsT (S.take i) R).length + (R key).length ≤ 1000 := by
      have h1 := take_key (R := R) hkey
      have h2 : (entsT (S.take (i + 1)) R).length ≤ (entsT S R).length := by
        unfold entsT
        conv => rhs; rw [← List.take_append_drop (i + 1) S, List.flatMap_append, List.length_append]
        omega
      rw [h1, List.length_append] at h2
      have h3 : (entsT S R).length = (entsT (keysT l) R).length := by unfold entsT; exact (H.out.1.flatMap_right R).length_eq
      omega
    have hpos := List.length_pos_iff.2 hne
    have HY := Hid.mk (And.intro hy (And.intro hkey hne))
    clear hy hkey hne hbτ hb' hv' hσ hsub hkm
    (repeat' (first | (simp +contextual -dsimp only [*, En.cells, tabC, ↓reduceIte, ↓evP, evQ, splice_nil, splice_zero, splice_skip, Nat.reduceAdd, Nat.reduceEqDiff, Nat.reduceLeDiff, Nat.reduceMul, reduceCtorEq, Int.reduceLT, Int.reduceLE, Int.reduceGT, Int.reduceGE, Int.reduceEq, Int.reduceNeg]) | (refine condF_split (fun hc => ?_) (fun hc => ?_) <;> (try simp only [Bool.not_eq_true', Bool.not_eq_false', Bool.and_eq_true, Bool.or_eq_false_iff] at hc)) | (intro _; intros) | (refine And.intro ?_ ?_; focus (first | omega | ((repeat (first | exact Sub.refl _ | (refine Sub.drop ?_ ?_; focus (simp only [evN, *]; done)) | refine Sub.both ?_)); done) | (simp_all; done) | (simp_all; omega)))))
    refine app_row (ys := R key) En.cells_len En.one_cells hR.out.1 HY.out.1 rfl hpos (by omega) (by unfold maxLen; omega) ?_
    intro v' σ' hv' hG
    have HV : Hid (RowsAt 89 8 En.cells σ' v' (entsT (S.take (i + 1)) R) ∧ Made σ2 σ' v') := ⟨by rw [take_key HY.out.2.1]; exact hv', hR.out.2.grew hG⟩
    clear hv' hG
    (repeat' (first | (simp +contextual -dsimp only [*, En.cells, tabC, ↓reduceIte, ↓evP, evQ, splice_nil, splice_zero, splice_skip, Nat.reduceAdd, Nat.reduceEqDiff, Nat.reduceLeDiff, Nat.reduceMul, reduceCtorEq, Int.reduceLT, Int.reduceLE, Int.reduceGT, Int.reduceGE, Int.reduceEq, Int.reduceNeg]) | (refine condF_split (fun hc => ?_) (fun hc => ?_) <;> (try simp only [Bool.not_eq_true', Bool.not_eq_false', Bool.and_eq_true, Bool.or_eq_false_iff] at hc)) | (intro _; intros) | (refine And.intro ?_ ?_; focus (first | omega | ((repeat (first | exact Sub.refl _ | (refine Sub.drop ?_ ?_; focus (simp only [evN, *]; done)) | refine Sub.both ?_)); done) | (simp_all; done) | (simp_all; omega)))))
    refine nextF_of (S.length - (i + 1)) (by omega) (Sub.refl _) ⟨i + 1, v', by omega, rfl, (by first | rfl | (simp only [↓putO_get, ↓putO_no, init_zero, init_succ, Nat.reduceEqDiff, ↓reduceIte, *]; done) | (simp only [↓putO_get, ↓putO_no, init_zero, init_succ, Nat.reduceEqDiff, ↓reduceIte, *]; rfl)), (by first | rfl | (simp only [↓putO_get, ↓putO_no, init_zero, init_succ, Nat.reduceEqDiff, ↓reduceIte, *]; done) | (simp only [↓putO_get, ↓putO_no, init_zero, init_succ, Nat.reduceEqDiff, ↓reduceIte, *]; rfl)), (by first | rfl | (simp only [↓putO_get, ↓putO_no, init_zero, init_succ, Nat.reduceEqDiff, ↓reduceIte, *]; done) | (simp only [↓putO_get, ↓putO_no, init_zero, init_succ, Nat.reduceEqDiff, ↓reduceIte, *]; rfl)), (by first | rfl | (simp only [↓putO_get, ↓putO_no, init_zero, init_succ, Nat.reduceEqDiff, ↓reduceIte, *]; done) | (simp only [↓putO_get, ↓putO_no, init_zero, init_succ, Nat.reduceEqDiff, ↓reduceIte, *]; rfl)), (by first | rfl | (simp only [↓putO_get, ↓putO_no, init_zero, init_succ, Nat.reduceEqDiff, ↓reduceIte, *]; done) | (simp only [↓putO_get, ↓putO_no, init_zero, init_succ, Nat.reduceEqDiff, ↓reduceIte, *]; rfl)), HV⟩
  · have hd : decide ((i : Int) < (S.length : Int)) = false := by simp; omega
    clear hσ hsub
    (repeat' (first | (simp +contextual -dsimp only [*, En.cells, tabC, ↓reduceIte, ↓evP, evQ, splice_nil, splice_zero, splice_skip, Nat.reduceAdd, Nat.reduceEqDiff, Nat.reduceLeDiff, Nat.reduceMul, reduceCtorEq, Int.reduceLT, Int.reduceLE, Int.reduceGT, Int.reduceGE, Int.reduceEq, Int.reduceNeg]) | (refine condF_split (fun hc => ?_) (fun hc => ?_) <;> (try simp only [Bool.not_eq_true', Bool.not_eq_false', Bool.and_eq_true, Bool.or_eq_false_iff] at hc)) | (intro _; intros) | (refine And.intro ?_ ?_; focus (first | omega | ((repeat (first | exact Sub.refl _ | (refine Sub.drop ?_ ?_; focus (simp only [evN, *]; done)) | refine Sub.both ?_)); done) | (simp_all; done) | (simp_all; omega)))))
    have hr := hR.out.1
    rw [List.take_of_length_le hge] at hr
    exact endF_at ⟨_, by unfold entsT; exact H.out.1.flatMap_right R, hr, made_on H.out.2.2 hR.out.2⟩
/-- A table filled so far: nothing of it lies in what is read; all entries are told apart, each numbered below n. -/
structure FillAt (σ0 τ : Hp) (g : Nat) (n : Int) (k : Nat) : Prop where
  tab : ∃ mo l R, TabAt τ g mo l R ∧ (∀ j, OwnT g mo l j → σ0 j = none) ∧ InsNodup (entsT (keysT l) R) ∧ (∀ e ∈ entsT (keysT l) R, e.ins < n) ∧ entsT (keysT l) R ≠ [] ∧ (entsT (keysT l) R).length ≤ k
  sub : Sub σ0 τ
theorem ins_cons {e : En} {es : List En} {n : Int} (h : InsNodup es) (hs : ∀ x ∈ es, x.ins < n) (he : n ≤ e.ins) : InsNodup (e :: es) := by
  unfold InsNodup at h ⊢
  rw [List.map_cons, List.nodup_cons]
  exact ⟨fun q => by obtain ⟨x, hx, hh⟩ := List.mem_map.1 q; have := hs x hx; omega, h⟩
theorem ins_tail {x : En} {es : List En} (h : InsNodup (x :: es)) : InsNodup es := by
  unfold InsNodup at h ⊢
  rw [List.map_cons, List.nodup_cons] at h; exact h.2
theorem sub_tmov {g : Nat} {σ0 τ : Hp} {mo : Option Nat} {l : List (ByteArray × Value)} {τ' : Hp} {mo' : Option Nat} {l' : List (ByteArray × Value)} (hs : Sub σ0 τ) (ho : ∀ j, OwnT g mo l j → σ0 j = none) (h : TMov g τ mo l τ' mo' l') : Sub σ0 τ' ∧ ∀ j, OwnT g mo' l' j → σ0 j = none := by
  refine ⟨fun j => ?_, fun j hj => ?_⟩
  · by_cases hz : σ0 j = none
    · exact .inl hz
    · right
      have h1 := (hs j).resolve_left hz
      rw [h1]
      exact (h.same j (by rw [← h1]; exact hz) (fun q => hz (ho j q))).symm
  · rcases h.own j hj with q | q
    · exact ho j q
    · exact hs.noneAt q
/-- One Put more: whatever the entry, numbered n. -/
theorem fill_put {σ0 τ : Hp} {g k : Nat} {n : Int} (h : FillAt σ0 τ g n k) (e : En) (he : e.ins = n) (hk : k ≤ 1000) :
    ACalls Try.prog 33 #[.pointer (some ⟨g, 0, none⟩), .agg e.cells.toArray] τ fun u τ' => FillAt σ0 τ' g (n + 1) (k + 1) := by
  obtain ⟨⟨mo, l, R, hT, ho, hi, hn, hne, hl⟩, hs⟩ := h
  refine (put33 hT e (by omega)).mono fun u τ' q => ?_
  rcases q with ⟨_, _, rfl⟩ | ⟨_, _, mo', l', R', es, hT', hM, hp, hes⟩
  · exact ⟨⟨mo, l, R, hT, ho, hi, fun x hx => by have := hn x hx; omega, hne, by omega⟩, hs⟩
  · have hsub := sub_tmov hs ho hM
    have hfe : InsNodup es ∧ (∀ x ∈ es, x.ins < n) ∧ es.length ≤ k := by
      rcases hes with rfl | ⟨x, hx⟩
      · exact ⟨hi, hn, hl⟩
      · refine ⟨ins_tail (hi.perm hx), fun y hy => hn y (hx.mem_iff.2 (List.mem_cons_of_mem _ hy)), ?_⟩
        have := hx.length_eq; rw [List.length_cons] at this; omega
    refine ⟨⟨mo', l', R', hT', hsub.2, (ins_cons hfe.1 hfe.2.1 (by omega)).perm hp.symm, fun x hx => ?_, fun q => ?_, ?_⟩, hsub.1⟩
    · rcases List.mem_cons.1 (hp.mem_iff.1 hx) with rfl | hx
      · omega
      · have := hfe.2.1 x hx; omega
    · rw [q] at hp; exact absurd hp.length_eq (by simp)
    · rw [hp.length_eq, List.length_cons]; omega
theorem FillAt.fresh {σ0 τ : Hp} {g k : Nat} {n : Int} (h : FillAt σ0 τ g n k) {p : Nat} (hp : τ p = none) (o : Blk) : FillAt σ0 (upd τ p o) g n k := by
  obtain ⟨⟨mo, l, R, hT, ho, hi, hn, hne, hl⟩, hs⟩ := h
  exact ⟨⟨mo, l, R, (hT.fresh hp o).1, ho, hi, hn, hne, hl⟩, Sub.drop (hs.noneAt hp) hs⟩
set_option maxRecDepth 100000 in
set_option maxHeartbeats 4000000 in
theorem fill6 {σ0 τ : Hp} {g : Nat} {A : Option Addr} {c : Nat} {L : List En} (hro : RoRows 8 En.cells σ0 (.slice A L.length c) L) (hL : L.length ≤ 140737488355328) (h : FillAt σ0 τ g 0 1)
    {Q : Exit → Sl → Hp → Prop} {s : Sl} (s0 : s 0 = .slice A L.length c) (s5 : s 5 = .pointer (some ⟨g, 0, none⟩))
    (hQ : ∀ s' τ' n, [0, 1, 5].map s' = [0, 1, 5].map s → FillAt σ0 τ' g n 201 → Q .normal s' τ') : codeF Try.prog c6_b0 Q s τ ⟨⟩ := by
  have HQ := Hid.mk hQ
  have HH := Hid.mk h
  have HV := Hid.mk hro
  clear hQ h hro
  unfold c6_b0
  simp +contextual -dsimp only [*, En.cells, ↓reduceIte, ↓evP, evQ, splice_nil, splice_zero, splice_skip, Nat.reduceAdd, Nat.reduceEqDiff, Nat.reduceLeDiff, Nat.reduceMul, reduceCtorEq, Int.reduceLT, Int.reduceLE, Int.reduceGT, Int.reduceGE, Int.reduceEq, Int.reduceNeg]
  refine loopF_of (fun k s' τ => ∃ i : Nat, i ≤ L.length ∧ i ≤ 200 ∧ k = 200 - i ∧ s' 6 = .int .i64 i ∧ [0, 1, 5].map s' = [0, 1, 5].map s ∧ Hid (FillAt σ0 τ g i (i + 1))) 200 (Sub.refl _) ⟨0, by omega, by omega, rfl, (by first | rfl | (simp only [↓putO_get, ↓putO_no, init_zero, init_succ, Nat.reduceEqDiff, ↓reduceIte, *]; done) | (simp only [↓putO_get, ↓putO_no, init_zero, init_succ, Nat.reduceEqDiff, ↓reduceIte, *]; rfl)), (by simp only [List.map_cons, List.map_nil, ↓putO_get, ↓putO_no, init_zero, init_succ, Nat.reduceEqDiff, ↓reduceIte, *]), ⟨HH.out⟩⟩ ?_
  rintro k s' τ ⟨i, hi1, hi2, hk, s6, hKL, hF⟩
  have HK := Hid.mk hKL
  simp only [List.map_cons, List.map_nil, ↓putO_get, ↓putO_no, init_zero, init_succ, Nat.reduceEqDiff, ↓reduceIte, List.cons.injEq, and_true] at hKL
  have fin : FillAt σ0 τ g i 201 := by
    obtain ⟨⟨mo, l, R, hT, ho, hi, hn, hne, hl⟩, hs⟩ := hF.out
    exact ⟨⟨mo, l, R, hT, ho, hi, hn, hne, by omega⟩, hs⟩
  have FIN := Hid.mk fin
  clear fin
  rcases Nat.lt_or_ge i L.length with hlt | hge
  · have hd : decide ((i : Int) < (L.length : Int)) = true := by simp; omega
    rcases Nat.lt_or_ge i 200 with hlt2 | hge2
    · have hd2 : decide ((i : Int) < 200) = true := by simp; omega
      have e1 : IntKind.i64.wrap ((i : Int) + 1) = ((i + 1 : Nat) : Int) := by rw [wi64 (by omega)]; rfl
      obtain ⟨e, he⟩ : ∃ e, L[i]? = some e := ⟨_, List.getElem?_eq_getElem hlt⟩
      obtain ⟨b, o, ee, h1⟩ := (HV.out.sub hF.out.sub).get hlt
      subst ee
      rw [show L[i] = e by rw [List.getElem?_eq_getElem hlt] at he; exact Option.some.inj he] at h1
      have hlt' : (i : Int) < (L.length : Int) := by omega
      clear he
      (repeat' (first | (simp +contextual -dsimp only [*, En.cells, ↓reduceIte, ↓evP, evQ, splice_nil, splice_zero, splice_skip, Nat.reduceAdd, Nat.reduceEqDiff, Nat.reduceLeDiff, Nat.reduceMul, reduceCtorEq, Int.reduceLT, Int.reduceLE, Int.reduceGT, Int.reduceGE, Int.reduceEq, Int.reduceNeg]) | (refine condF_split (fun hc => ?_) (fun hc => ?_) <;> (try simp only [Bool.not_eq_true', Bool.not_eq_false', Bool.and_eq_true, Bool.or_eq_false_iff] at hc)) | (intro _; intros) | (refine And.intro ?_ ?_; focus (first | omega | ((repeat (first | exact Sub.refl _ | (refine Sub.drop ?_ ?_; focus (simp only [evN, *]; done)) | refine Sub.both ?_)); done) | (simp_all; done) | (simp_all; omega)))))
      rename_i p p0
      have q := fill_put (hF.out.fresh p0 (.cells (En.cells { e with ins := i }) 89)) { e with ins := i } rfl (by omega)
      have Q := Hid.mk q
      clear q
      refine callF_of Q.out ?_
      intro u τ' hF'
      have HF' := Hid.mk hF'
      clear hF'
      (repeat' (first | (simp +contextual -dsimp only [*, En.cells, ↓reduceIte, ↓evP, evQ, splice_nil, splice_zero, splice_skip, Nat.reduceAdd, Nat.reduceEqDiff, Nat.reduceLeDiff, Nat.reduceMul, reduceCtorEq, Int.reduceLT, Int.reduceLE, Int.reduceGT, Int.reduceGE, Int.reduceEq, Int.reduceNeg]) | (refine condF_split (fun hc => ?_) (fun hc => ?_) <;> (try simp only [Bool.not_eq_true', Bool.not_eq_false', Bool.and_eq_true, Bool.or_eq_false_iff] at hc)) | (intro _; intros) | (refine And.intro ?_ ?_; focus (first | omega | ((repeat (first | exact Sub.refl _ | (refine Sub.drop ?_ ?_; focus (simp only [evN, *]; done)) | refine Sub.both ?_)); done) | (simp_all; done) | (simp_all; omega)))))
      exact nextF_of (200 - (i + 1)) (by omega) (Sub.refl _) ⟨i + 1, by omega, by omega, rfl, (by first | rfl | (simp only [↓putO_get, ↓putO_no, init_zero, init_succ, Nat.reduceEqDiff, ↓reduceIte, *]; done) | (simp only [↓putO_get, ↓putO_no, init_zero, init_succ, Nat.reduceEqDiff, ↓reduceIte, *]; rfl)), (by simp only [List.map_cons, List.map_nil, ↓putO_get, ↓putO_no, init_zero, init_succ, Nat.reduceEqDiff, ↓reduceIte, *]), ⟨by have := HF'.out; exact this⟩⟩
    · have hd2 : decide ((i : Int) < 200) = false := by simp; omega
      (repeat' (first | (simp +contextual -dsimp only [*, En.cells, ↓reduceIte, ↓evP, evQ, splice_nil, splice_zero, splice_skip, Nat.reduceAdd, Nat.reduceEqDiff, Nat.reduceLeDiff, Nat.reduceMul, reduceCtorEq, Int.reduceLT, Int.reduceLE, Int.reduceGT, Int.reduceGE, Int.reduceEq, Int.reduceNeg]) | (refine condF_split (fun hc => ?_) (fun hc => ?_) <;> (try simp only [Bool.not_eq_true', Bool.not_eq_false', Bool.and_eq_true, Bool.or_eq_false_iff] at hc)) | (intro _; intros) | (refine And.intro ?_ ?_; focus (first | omega | ((repeat (first | exact Sub.refl _ | (refine Sub.drop ?_ ?_; focus (simp only [evN, *]; done)) | refine Sub.both ?_)); done) | (simp_all; done) | (simp_all; omega)))))
      exact HQ.out _ _ _ (by simp only [List.map_cons, List.map_nil, ↓putO_get, ↓putO_no, init_zero, init_succ, Nat.reduceEqDiff, ↓reduceIte, *]) FIN.out
  · have hd : decide ((i : Int) < (L.length : Int)) = false := by simp; omega
    (repeat' (first | (simp +contextual -dsimp only [*, En.cells, ↓reduceIte, ↓evP, evQ, splice_nil, splice_zero, splice_skip, Nat.reduceAdd, Nat.reduceEqDiff, Nat.reduceLeDiff, Nat.reduceMul, reduceCtorEq, Int.reduceLT, Int.reduceLE, Int.reduceGT, Int.reduceGE, Int.reduceEq, Int.reduceNeg]) | (refine condF_split (fun hc => ?_) (fun hc => ?_) <;> (try simp only [Bool.not_eq_true', Bool.not_eq_false', Bool.and_eq_true, Bool.or_eq_false_iff] at hc)) | (intro _; intros) | (refine And.intro ?_ ?_; focus (first | omega | ((repeat (first | exact Sub.refl _ | (refine Sub.drop ?_ ?_; focus (simp only [evN, *]; done)) | refine Sub.both ?_)); done) | (simp_all; done) | (simp_all; omega)))))
    exact HQ.out _ _ _ (by simp only [List.map_cons, List.map_nil, ↓putO_get, ↓putO_no, init_zero, init_succ, Nat.reduceEqDiff, ↓reduceIte, *]) FIN.out
theorem TabAt.same {τ τ' : Hp} {g : Nat} {mo : Option Nat} {l : List (ByteArray × Value)} {R : ByteArray → List En} {F : Nat → Prop} (hT : TabAt τ g mo l R) (hS : Same F τ τ') (hF : ∀ j, F j → ¬ OwnT g mo l j) : TabAt τ' g mo l R := by
  have at_ : ∀ j, OwnT g mo l j → τ' j = τ j := fun j hj => hS j (hT.known hj) (fun f => hF j f hj)
  refine ⟨(at_ g (.inl rfl)).trans hT.cell, ?_, fun k => (hT.rep k).keep fun j hj => at_ j (.inr (.inr ⟨k, hj⟩)), hT.ok⟩
  cases mo with
  | none => exact hT.map
  | some m => exact (at_ m (.inr (.inl rfl))).trans hT.map
structure SqM (τ : Hp) (g m : Nat) (va vo vg : Value) (All : List En) (P : List Nat) (Gn : List En) (l : List (ByteArray × Value)) (R : ByteArray → List En) : Prop where
  tab : TabAt τ g (some m) l R
  a : RowsAt 89 8 En.cells τ va All
  o : RowsAt 3 1 pC τ vo P
  gn : RowsAt 89 8 En.cells τ vg Gn
  sa : ∀ j, blk va = some j → ¬ OwnT g (some m) l j
  so : ∀ j, blk vo = some j → ¬ OwnT g (some m) l j
  sg : ∀ j, blk vg = some j → ¬ OwnT g (some m) l j
  ga : ∀ j, blk vg = some j → blk va ≠ some j ∧ blk vo ≠ some j
theorem SqM.made {τ τ' : Hp} {g m : Nat} {va vo vg : Value} {All : List En} {P : List Nat} {Gn : List En} {l : List (ByteArray × Value)} {R : ByteArray → List En} (h : SqM τ g m va vo vg All P Gn l R) (hS : Same (fun _ => False) τ τ') : SqM τ' g m va vo vg All P Gn l R :=
  ⟨h.tab.same hS (fun _ f => f.elim), h.a.sameF hS (fun _ _ f => f), h.o.sameF hS (fun _ _ f => f), h.gn.sameF hS (fun _ _ f => f), h.sa, h.so, h.sg, h.ga⟩
theorem SqM.tmov {τ τ' : Hp} {g m : Nat} {va vo vg : Value} {All : List En} {P : List Nat} {Gn : List En} {l l' : List (ByteArray × Value)} {R R' : ByteArray → List En} (h : SqM τ g m va vo vg All P Gn l R) (hM : TMov g τ (some m) l τ' (some m) l') (hT : TabAt τ' g (some m) l' R') : SqM τ' g m va vo vg All P Gn l' R' := by
  have out : ∀ {v : Value} {j : Nat}, τ j ≠ none → ¬ OwnT g (some m) l j → ¬ OwnT g (some m) l' j := fun hk ho q => (hM.own _ q).elim ho hk
  exact ⟨hT, h.a.sameF hM.same (fun j hj => h.sa j hj), h.o.sameF hM.same (fun j hj => h.so j hj), h.gn.sameF hM.same (fun j hj => h.sg j hj),
    fun j hj => out (v := va) (h.a.known hj) (h.sa j hj), fun j hj => out (v := vo) (h.o.known hj) (h.so j hj), fun j hj => out (v := vg) (h.gn.known hj) (h.sg j hj), h.ga⟩
theorem SqM.grew {τ τ' : Hp} {g m : Nat} {va vo vg vg' : Value} {All : List En} {P : List Nat} {Gn Gn' : List En} {l : List (ByteArray × Value)} {R : ByteArray → List En} (h : SqM τ g m va vo vg All P Gn l R) (hG : Grew τ vg τ' vg') (hr : RowsAt 89 8 En.cells τ' vg' Gn') : SqM τ' g m va vo vg' All P Gn' l R :=
  ⟨h.tab.same hG.same (fun j hj => h.sg j hj), h.a.sameF hG.same (fun j hj q => (h.ga j q).1 hj), h.o.sameF hG.same (fun j hj q => (h.ga j q).2 hj), hr, h.sa, h.so,
    fun j hj q => (hG.new j hj).elim (fun x => h.sg j x q) (fun x => h.tab.known q x),
    fun j hj => (hG.new j hj).elim (fun x => h.ga j x) (fun x => ⟨fun y => h.a.known y x, fun y => h.o.known y x⟩)⟩
theorem ent_uniq {r : List En} (hs : Rising r) {a b : En} (ha : a ∈ r) (hb : b ∈ r) (h : a.lo = b.lo) : a = b := by
  obtain ⟨i, hi, rfl⟩ := List.getElem_of_mem ha
  obtain ⟨j, hj, rfl⟩ := List.getElem_of_mem hb
  rcases Nat.lt_trichotomy i j with c | c | c
  · have := List.pairwise_iff_getElem.1 hs i j hi hj c; omega
  · subst c; rfl
  · have := List.pairwise_iff_getElem.1 hs j i hj hi c; omega
/-- Drop, for an entry that is there. -/
theorem drop38e {σ : Hp} {g m : Nat} {l : List (ByteArray × Value)} {R : ByteArray → List En} (hT : TabAt σ g (some m) l R) {e : En} (he : e ∈ entsT (keysT l) R) (hN : (entsT (keysT l) R).length ≤ 1000) :
    ACalls Try.prog 38 #[.pointer (some ⟨g, 0, none⟩), .string e.key, .int .i64 e.lo] σ fun u σ' => u = .bool true ∧ ∃ l' R', (entsT (keysT l) R).Perm (e :: entsT (keysT l') R') ∧ TabAt σ' g (some m) l' R' ∧ TMov g σ (some m) l σ' (some m) l' := by
  have hmem : e ∈ R e.key := by
    unfold entsT at he
    obtain ⟨k, _, hk⟩ := List.mem_flatMap.1 he
    have := (hT.ok.own k e hk).1
    rw [this]; exact hk
  have hh := (hasE_iff (hT.ok.ris e.key) e.lo).2 ⟨e, hmem, rfl⟩
  refine (drop38 hT e.key e.lo hN).mono fun u σ' q => ?_
  rcases q with ⟨h1, _⟩ | ⟨_, rfl, l', e', he', hp, hT', hM⟩
  · rw [hh] at h1; cases h1
  · obtain ⟨e'', he'', hlo⟩ := hasE_get hh
    rw [he'] at he''; cases he''
    have := ent_uniq (hT.ok.ris e.key) (List.mem_of_getElem? he') hmem hlo
    subst this
    exact ⟨rfl, l', _, hp, hT', hM⟩
set_option maxRecDepth 100000 in
set_option maxHeartbeats 2000000 in
theorem squeeze6 {σ0 τ : Hp} {g m mo : Nat} {va vo vg : Value} {All : List En} {P : List Nat} {Gn : List En} {l : List (ByteArray × Value)} {R : ByteArray → List En} (hM : SqM τ g m va vo vg All P Gn l R) (hq : Squeeze All Gn (entsT (keysT l) R)) (hA : All.length ≤ 1000) (hmo : mo ≤ 65535) (hs0 : Sub σ0 τ) (ho0 : ∀ j, OwnT g (some m) l j → σ0 j = none) (hg0 : ∀ j, blk vg = some j → σ0 j = none)
    {Q : Exit → Sl → Hp → Prop} {s : Sl} (s1 : s 1 = .int .u16 mo) (s5 : s 5 = .pointer (some ⟨g, 0, none⟩)) (s8 : s 8 = va) (s9 : s 9 = vo) (s10 : s 10 = vg)
    (hQ : ∀ s' τ' vg' Gn' l' R', [1, 5, 8, 9].map s' = [1, 5, 8, 9].map s → s' 10 = vg' → SqM τ' g m va vo vg' All P Gn' l' R' → Squeeze All Gn' (entsT (keysT l') R') → costs (entsT (keysT l') R') ≤ mo → Sub σ0 τ' → (∀ j, OwnT g (some m) l' j → σ0 j = none) → Q .normal s' τ') : codeF Try.prog c6_b2 Q s τ ⟨⟩ := by
  have HQ := Hid.mk hQ
  have w0 : IntKind.i64.wrap (mo : Int) = (mo : Int) := by rw [wi64 (by omega)]
  have HM := Hid.mk (And.intro hM (And.intro hq (And.intro hs0 (And.intro ho0 hg0))))
  clear hM hq hQ hs0 ho0 hg0
  unfold c6_b2
  simp +contextual -dsimp only [*, En.cells, ↓reduceIte, ↓evP, evQ, splice_nil, splice_zero, splice_skip, Nat.reduceAdd, Nat.reduceEqDiff, Nat.reduceLeDiff, Nat.reduceMul, reduceCtorEq, Int.reduceLT, Int.reduceLE, Int.reduceGT, Int.reduceGE, Int.reduceEq, Int.reduceNeg]
  refine loopF_of (fun k s' τ => ∃ (vg : Value) (Gn : List En) (l : List (ByteArray × Value)) (R : ByteArray → List En), k = (entsT (keysT l) R).length ∧ [1, 5, 8, 9].map s' = [1, 5, 8, 9].map s ∧ s' 10 = vg ∧ Hid (SqM τ g m va vo vg All P Gn l R ∧ Squeeze All Gn (entsT (keysT l) R) ∧ Sub σ0 τ ∧ (∀ j, OwnT g (some m) l j → σ0 j = none) ∧ ∀ j, blk vg = some j → σ0 j = none)) (entsT (keysT l) R).length (Sub.refl _) ⟨vg, Gn, l, R, rfl, (by simp only [List.map_cons, List.map_nil, ↓putO_get, ↓putO_no, init_zero, init_succ, Nat.reduceEqDiff, ↓reduceIte, *]), (by first | rfl | (simp only [↓putO_get, ↓putO_no, init_zero, init_succ, Nat.reduceEqDiff, ↓reduceIte, *]; done) | (simp only [↓putO_get, ↓putO_no, init_zero, init_succ, Nat.reduceEqDiff, ↓reduceIte, *]; rfl)), HM⟩ ?_
  clear HM s10
  rintro k s' τ ⟨vg, Gn, l, R, hk, hKL, s10, HM⟩
  have HK := Hid.mk hKL
  simp only [List.map_cons, List.map_nil, ↓putO_get, ↓putO_no, init_zero, init_succ, Nat.reduceEqDiff, ↓reduceIte, List.cons.injEq, and_true] at hKL
  have hlenE : Gn.length + (entsT (keysT l) R).length ≤ All.length := by
    refine Nat.le_of_eq ?_
    have := HM.out.2.1.perm.length_eq; rw [List.length_append] at this; exact this
  have qb := bytes36 HM.out.1.tab.cell
  obtain ⟨B, hB⟩ : ∃ B, B = costs (entsT (keysT l) R) := ⟨_, rfl⟩
  rw [← hB] at qb
  have HB := Hid.mk hB
  clear hB
  rcases Nat.lt_or_ge mo B with hgt | hle
  · have hd : decide ((B : Int) > (mo : Int)) = true := by simp; omega
    have hne : entsT (keysT l) R ≠ [] := fun q => by have := HB.out; rw [q] at this; simp [costs] at this; omega
    have hpos := List.length_pos_iff.2 hne
    have qa := all34 HM.out.1.tab (by omega)
    have QA := Hid.mk qa
    clear qa hne
    (repeat' (first | (simp +contextual -dsimp only [*, En.cells, ↓reduceIte, ↓evP, evQ, splice_nil, splice_zero, splice_skip, Nat.reduceAdd, Nat.reduceEqDiff, Nat.reduceLeDiff, Nat.reduceMul, reduceCtorEq, Int.reduceLT, Int.reduceLE, Int.reduceGT, Int.reduceGE, Int.reduceEq, Int.reduceNeg]) | (refine condF_split (fun hc => ?_) (fun hc => ?_) <;> (try simp only [Bool.not_eq_true', Bool.not_eq_false', Bool.and_eq_true, Bool.or_eq_false_iff] at hc)) | (intro _; intros) | (refine And.intro ?_ ?_; focus (first | omega | ((repeat (first | exact Sub.refl _ | (refine Sub.drop ?_ ?_; focus (simp only [evN, *]; done)) | refine Sub.both ?_)); done) | (simp_all; done) | (simp_all; omega)))))
    refine callF_v qb ?_
    clear qb
    (repeat' (first | (simp +contextual -dsimp only [*, En.cells, ↓reduceIte, ↓evP, evQ, splice_nil, splice_zero, splice_skip, Nat.reduceAdd, Nat.reduceEqDiff, Nat.reduceLeDiff, Nat.reduceMul, reduceCtorEq, Int.reduceLT, Int.reduceLE, Int.reduceGT, Int.reduceGE, Int.reduceEq, Int.reduceNeg]) | (refine condF_split (fun hc => ?_) (fun hc => ?_) <;> (try simp only [Bool.not_eq_true', Bool.not_eq_false', Bool.and_eq_true, Bool.or_eq_false_iff] at hc)) | (intro _; intros) | (refine And.intro ?_ ?_; focus (first | omega | ((repeat (first | exact Sub.refl _ | (refine Sub.drop ?_ ?_; focus (simp only [evN, *]; done)) | refine Sub.both ?_)); done) | (simp_all; done) | (simp_all; omega)))))
    refine callF_of QA.out ?_
    rintro vn τ1 ⟨L, hLp, hLr, hLm⟩
    have hM1 := HM.out.1.made hLm.1
    obtain ⟨A, c, rfl⟩ := hLr.slice
    have hLl1 : L.length ≤ (entsT (keysT l) R).length := Nat.le_of_eq hLp.length_eq
    have hLl2 : (entsT (keysT l) R).length ≤ L.length := Nat.le_of_eq hLp.length_eq.symm
    have hvn : ∀ j, blk (.slice A L.length c) = some j → ¬ OwnT g (some m) l j := fun j hj q => HM.out.1.tab.known q (hLm.2 j hj)
    have hga : ∀ j, blk vg = some j → blk (.slice A L.length c) ≠ some j := fun j hj q => HM.out.1.gn.known hj (hLm.2 j q)
    have qv := victim37 (hLr.ro En.cells_len) (by omega) (by omega)
    have hs1 : Sub σ0 τ1 := HM.out.2.2.1.same hLm.1 (fun _ f => f.elim)
    have HS1 := Hid.mk hs1
    clear hs1
    have H1 := Hid.mk (And.intro hLp (And.intro hLr (And.intro hM1 (And.intro hvn hga))))
    have QV := Hid.mk qv
    clear hLp hLr hM1 hvn hga qv hLm QA
    (repeat' (first | (simp +contextual -dsimp only [*, En.cells, ↓reduceIte, ↓evP, evQ, splice_nil, splice_zero, splice_skip, Nat.reduceAdd, Nat.reduceEqDiff, Nat.reduceLeDiff, Nat.reduceMul, reduceCtorEq, Int.reduceLT, Int.reduceLE, Int.reduceGT, Int.reduceGE, Int.reduceEq, Int.reduceNeg]) | (refine condF_split (fun hc => ?_) (fun hc => ?_) <;> (try simp only [Bool.not_eq_true', Bool.not_eq_false', Bool.and_eq_true, Bool.or_eq_false_iff] at hc)) | (intro _; intros) | (refine And.intro ?_ ?_; focus (first | omega | ((repeat (first | exact Sub.refl _ | (refine Sub.drop ?_ ?_; focus (simp only [evN, *]; done)) | refine Sub.both ?_)); done) | (simp_all; done) | (simp_all; omega)))))
    refine callF_of QV.out ?_
    rintro u τ2 ⟨⟨v, hv, rfl, hmin⟩, rfl⟩
    have hget := atE_get hv
    obtain ⟨b, off, ee, hrd⟩ := (H1.out.2.1.ro En.cells_len).get hv
    subst ee
    rw [show L[v] = atE L v by rw [List.getElem?_eq_getElem hv] at hget; exact Option.some.inj hget] at hrd
    obtain ⟨e, he⟩ : ∃ e, e = atE L v := ⟨_, rfl⟩
    rw [← he] at hrd hmin hget
    have hr0 := rd_part hrd 0 (v := .string e.key) rfl
    have hr3 := rd_part hrd 3 (v := .int .i64 e.lo) rfl
    rw [Nat.add_zero] at hr0
    have d1 : decide ((v : Int) < 0) = false := by simp
    have d2 : decide ((v : Int) ≥ (L.length : Int)) = false := by simp; omega
    have hvl : (v : Int) < (L.length : Int) := by omega
    have hem : e ∈ entsT (keysT l) R := H1.out.1.mem_iff.1 (List.mem_of_getElem? hget)
    have hmin' : ∀ x ∈ entsT (keysT l) R, e.le x := fun x hx => by
      obtain ⟨i, hi⟩ := List.getElem?_of_mem (H1.out.1.mem_iff.2 hx)
      have hil := (List.getElem?_eq_some_iff.1 hi).1
      have := hmin i hil
      have h2 := atE_get hil
      rw [hi] at h2; cases h2
      exact this
    have qd := drop38e H1.out.2.2.1.tab hem (by omega)
    have QD := Hid.mk qd
    have H2 := Hid.mk (And.intro hmin' (And.intro hget he))
    clear qd hmin hmin' hget he hem hrd QV
    (repeat' (first | (simp +contextual -dsimp only [*, En.cells, ↓reduceIte, ↓evP, evQ, splice_nil, splice_zero, splice_skip, Nat.reduceAdd, Nat.reduceEqDiff, Nat.reduceLeDiff, Nat.reduceMul, reduceCtorEq, Int.reduceLT, Int.reduceLE, Int.reduceGT, Int.reduceGE, Int.reduceEq, Int.reduceNeg]) | (refine condF_split (fun hc => ?_) (fun hc => ?_) <;> (try simp only [Bool.not_eq_true', Bool.not_eq_false', Bool.and_eq_true, Bool.or_eq_false_iff] at hc)) | (intro _; intros) | (refine And.intro ?_ ?_; focus (first | omega | ((repeat (first | exact Sub.refl _ | (refine Sub.drop ?_ ?_; focus (simp only [evN, *]; done)) | refine Sub.both ?_)); done) | (simp_all; done) | (simp_all; omega)))))
    refine callF_of QD.out ?_
    rintro u τ3 ⟨rfl, l', R', hp, hT', hTM⟩
    have hM3 := H1.out.2.2.1.tmov hTM hT'
    have hrn := H1.out.2.1.sameF hTM.same (fun j hj => H1.out.2.2.2.1 j hj)
    have hl3 : (entsT (keysT l') R').length + 1 ≤ (entsT (keysT l) R).length := by rw [hp.length_eq]; exact Nat.le_refl _
    obtain ⟨b2, off2, ee, hrd⟩ := (hrn.ro En.cells_len).get hv
    cases ee
    rw [show L[v] = e by have := H2.out.2.1; rw [List.getElem?_eq_getElem hv] at this; exact Option.some.inj this] at hrd
    have HS3 := Hid.mk (sub_tmov HS1.out HM.out.2.2.2.1 hTM)
    have H3 := Hid.mk (And.intro hM3 (And.intro (HM.out.2.1.step hp H2.out.1) hrn))
    clear hM3 hrn hp hT' hTM QD
    (repeat' (first | (simp +contextual -dsimp only [*, En.cells, ↓reduceIte, ↓evP, evQ, splice_nil, splice_zero, splice_skip, Nat.reduceAdd, Nat.reduceEqDiff, Nat.reduceLeDiff, Nat.reduceMul, reduceCtorEq, Int.reduceLT, Int.reduceLE, Int.reduceGT, Int.reduceGE, Int.reduceEq, Int.reduceNeg]) | (refine condF_split (fun hc => ?_) (fun hc => ?_) <;> (try simp only [Bool.not_eq_true', Bool.not_eq_false', Bool.and_eq_true, Bool.or_eq_false_iff] at hc)) | (intro _; intros) | (refine And.intro ?_ ?_; focus (first | omega | ((repeat (first | exact Sub.refl _ | (refine Sub.drop ?_ ?_; focus (simp only [evN, *]; done)) | refine Sub.both ?_)); done) | (simp_all; done) | (simp_all; omega)))))
    rename_i n n0
    have hM4 := H3.out.1.made (Same.updNew n0 (o := .row e.cells 8 89) (Same.refl _ _))
    refine app_row (ys := [e]) En.cells_len En.one_cells hM4.gn (by unfold rdn; rw [upd_same]; rfl) rfl (by omega) (by omega) (by unfold maxLen; omega) ?_
    intro vg' τ5 hv' hG
    have hs4 : Sub σ0 (upd τ3 n (.row e.cells 8 89)) := Sub.drop (HS3.out.1.noneAt n0) HS3.out.1
    have H5 := Hid.mk (And.intro (hM4.grew hG hv') (And.intro H3.out.2.1 (And.intro (hs4.same hG.same (fun j hj => HM.out.2.2.2.2 j hj)) (And.intro HS3.out.2 (fun j (hj : blk vg' = some j) => (hG.new j hj).elim (fun x => HM.out.2.2.2.2 j x) (fun x => hs4.noneAt x))))))
    clear hs4
    clear hM4 hG hv'
    (repeat' (first | (simp +contextual -dsimp only [*, En.cells, ↓reduceIte, ↓evP, evQ, splice_nil, splice_zero, splice_skip, Nat.reduceAdd, Nat.reduceEqDiff, Nat.reduceLeDiff, Nat.reduceMul, reduceCtorEq, Int.reduceLT, Int.reduceLE, Int.reduceGT, Int.reduceGE, Int.reduceEq, Int.reduceNeg]) | (refine condF_split (fun hc => ?_) (fun hc => ?_) <;> (try simp only [Bool.not_eq_true', Bool.not_eq_false', Bool.and_eq_true, Bool.or_eq_false_iff] at hc)) | (intro _; intros) | (refine And.intro ?_ ?_; focus (first | omega | ((repeat (first | exact Sub.refl _ | (refine Sub.drop ?_ ?_; focus (simp only [evN, *]; done)) | refine Sub.both ?_)); done) | (simp_all; done) | (simp_all; omega)))))
    exact nextF_of (entsT (keysT l') R').length (by omega) (Sub.refl _) ⟨vg', Gn ++ [e], l', R', rfl, (by simp only [List.map_cons, List.map_nil, ↓putO_get, ↓putO_no, init_zero, init_succ, Nat.reduceEqDiff, ↓reduceIte, *]), (by first | rfl | (simp only [↓putO_get, ↓putO_no, init_zero, init_succ, Nat.reduceEqDiff, ↓reduceIte, *]; done) | (simp only [↓putO_get, ↓putO_no, init_zero, init_succ, Nat.reduceEqDiff, ↓reduceIte, *]; rfl)), H5⟩
  · have hd : decide ((B : Int) > (mo : Int)) = false := by simp; omega
    (repeat' (first | (simp +contextual -dsimp only [*, En.cells, ↓reduceIte, ↓evP, evQ, splice_nil, splice_zero, splice_skip, Nat.reduceAdd, Nat.reduceEqDiff, Nat.reduceLeDiff, Nat.reduceMul, reduceCtorEq, Int.reduceLT, Int.reduceLE, Int.reduceGT, Int.reduceGE, Int.reduceEq, Int.reduceNeg]) | (refine condF_split (fun hc => ?_) (fun hc => ?_) <;> (try simp only [Bool.not_eq_true', Bool.not_eq_false', Bool.and_eq_true, Bool.or_eq_false_iff] at hc)) | (intro _; intros) | (refine And.intro ?_ ?_; focus (first | omega | ((repeat (first | exact Sub.refl _ | (refine Sub.drop ?_ ?_; focus (simp only [evN, *]; done)) | refine Sub.both ?_)); done) | (simp_all; done) | (simp_all; omega)))))
    refine callF_v qb ?_
    clear qb
    (repeat' (first | (simp +contextual -dsimp only [*, En.cells, ↓reduceIte, ↓evP, evQ, splice_nil, splice_zero, splice_skip, Nat.reduceAdd, Nat.reduceEqDiff, Nat.reduceLeDiff, Nat.reduceMul, reduceCtorEq, Int.reduceLT, Int.reduceLE, Int.reduceGT, Int.reduceGE, Int.reduceEq, Int.reduceNeg]) | (refine condF_split (fun hc => ?_) (fun hc => ?_) <;> (try simp only [Bool.not_eq_true', Bool.not_eq_false', Bool.and_eq_true, Bool.or_eq_false_iff] at hc)) | (intro _; intros) | (refine And.intro ?_ ?_; focus (first | omega | ((repeat (first | exact Sub.refl _ | (refine Sub.drop ?_ ?_; focus (simp only [evN, *]; done)) | refine Sub.both ?_)); done) | (simp_all; done) | (simp_all; omega)))))
    exact HQ.out _ _ _ _ _ _ (by simp only [List.map_cons, List.map_nil, ↓putO_get, ↓putO_no, init_zero, init_succ, Nat.reduceEqDiff, ↓reduceIte, *]) (by first | rfl | (simp only [↓putO_get, ↓putO_no, init_zero, init_succ, Nat.reduceEqDiff, ↓reduceIte, *]; done) | (simp only [↓putO_get, ↓putO_no, init_zero, init_succ, Nat.reduceEqDiff, ↓reduceIte, *]; rfl)) HM.out.1 HM.out.2.1 (by rw [← HB.out]; exact hle) HM.out.2.2.1 HM.out.2.2.2.1
theorem ro_get {τ : Hp} {v : Value} {L : List En} (h : RowsAt 89 8 En.cells τ v L) {i : Nat} {e : En} (he : L[i]? = some e) : ∃ b c, v = .slice (some ⟨b, 0, none⟩) L.length c ∧ rdn τ b (i * 8) 8 = some e.cells := by
  have hi := (List.getElem?_eq_some_iff.1 he).1
  rcases h with ⟨_, rfl⟩ | ⟨b, c, rfl, hc, hb⟩
  · simp at hi
  · refine ⟨b, c, rfl, ?_⟩
    have := rdn_flat hb (i := i) (m := 1) (by omega)
    rw [Nat.one_mul] at this
    rw [this, List.drop_eq_getElem_cons hi, (List.getElem?_eq_some_iff.1 he).2]
    simp
set_option maxRecDepth 100000 in
set_option maxHeartbeats 2000000 in
theorem check6 {τ : Hp} {va vo vg : Value} {All Gn : List En} {P : List Nat} {f : Nat → Nat} (ha : RowsAt 89 8 En.cells τ va All) (ho : RowsAt 3 1 pC τ vo P) (hg : RowsAt 89 8 En.cells τ vg Gn) (hP : P = (List.range All.length).map f) (hA : All.length ≤ 1000)
    (hf : ∀ i, i < All.length → f i < All.length) (hlaw : ∀ (i : Nat) (e : En), Gn[i]? = some e → i < All.length ∧ e = atE All (f i))
    {Q : Exit → Sl → Hp → Prop} {s : Sl} (s8 : s 8 = va) (s9 : s 9 = vo) (s10 : s 10 = vg) (hQ : ∀ s', [1, 5, 8, 9, 10].map s' = [1, 5, 8, 9, 10].map s → Q .normal s' τ) : codeF Try.prog c6_b4 Q s τ ⟨⟩ := by
  have HQ := Hid.mk hQ
  have H := Hid.mk (And.intro ha (And.intro ho (And.intro hg (And.intro hP (And.intro hf hlaw)))))
  have hGA : Gn.length ≤ All.length := by
    rcases Nat.lt_or_ge All.length Gn.length with c | c
    · obtain ⟨e, he⟩ : ∃ e, Gn[All.length]? = some e := ⟨_, List.getElem?_eq_getElem c⟩
      have := (hlaw _ _ he).1; omega
    · exact c
  have hlg : ∃ A c, vg = .slice A Gn.length c := hg.slice
  clear ha ho hg hP hf hlaw hQ
  unfold c6_b4
  simp +contextual -dsimp only [*, En.cells, pC, ↓reduceIte, ↓evP, evQ, splice_nil, splice_zero, splice_skip, Nat.reduceAdd, Nat.reduceEqDiff, Nat.reduceLeDiff, Nat.reduceMul, reduceCtorEq, Int.reduceLT, Int.reduceLE, Int.reduceGT, Int.reduceGE, Int.reduceEq, Int.reduceNeg]
  refine loopF_of (fun k s' τ' => ∃ i : Nat, i ≤ Gn.length ∧ k = Gn.length - i ∧ s' 13 = .int .i64 i ∧ [1, 5, 8, 9, 10].map s' = [1, 5, 8, 9, 10].map s ∧ τ' = τ) Gn.length (Sub.refl _) ⟨0, by omega, rfl, (by first | rfl | (simp only [↓putO_get, ↓putO_no, init_zero, init_succ, Nat.reduceEqDiff, ↓reduceIte, *]; done) | (simp only [↓putO_get, ↓putO_no, init_zero, init_succ, Nat.reduceEqDiff, ↓reduceIte, *]; rfl)), (by simp only [List.map_cons, List.map_nil, ↓putO_get, ↓putO_no, init_zero, init_succ, Nat.reduceEqDiff, ↓reduceIte, *]), rfl⟩ ?_
  rintro k s' τ' ⟨i, hi, hk, s13, hKL, hτ⟩
  subst hτ
  have HK := Hid.mk hKL
  simp only [List.map_cons, List.map_nil, ↓putO_get, ↓putO_no, init_zero, init_succ, Nat.reduceEqDiff, ↓reduceIte, List.cons.injEq, and_true] at hKL
  obtain ⟨Ag, cg, hvg⟩ := hlg
  rcases Nat.lt_or_ge i Gn.length with hlt | hge
  · obtain ⟨e, he⟩ : ∃ e, Gn[i]? = some e := ⟨_, List.getElem?_eq_getElem hlt⟩
    obtain ⟨bg, cg', hvg', hrg⟩ := ro_get H.out.2.2.1 he
    obtain ⟨hiA, hee⟩ := H.out.2.2.2.2.2 i e he
    have hfi := H.out.2.2.2.2.1 i hiA
    obtain ⟨x, hx⟩ : ∃ x, x = f i := ⟨_, rfl⟩
    rw [← hx] at hfi hee
    have hAx : All[x]? = some e := by rw [hee]; exact atE_get hfi
    obtain ⟨ba, ca, hva, hra⟩ := ro_get H.out.1 hAx
    have hPi : P[i]? = some x := by rw [H.out.2.2.2.1, List.getElem?_map, List.getElem?_range hiA, hx]; rfl
    have hPl : P.length = All.length := by rw [H.out.2.2.2.1, List.length_map, List.length_range]
    obtain ⟨bo, co, hvo, hro⟩ : ∃ b c, vo = .slice (some ⟨b, 0, none⟩) P.length c ∧ Go.Sp.rd τ' b (i * 1) = some (.int .i64 (x : Nat)) := by
      rcases H.out.2.1 with ⟨_, q⟩ | ⟨b, c, q, _, hb⟩
      · rw [q] at hPi; simp at hPi
      · refine ⟨b, c, q, ?_⟩
        unfold Go.Sp.rd
        rw [hb]
        show (List.flatMap pC P)[i * 1]? = _
        have := get_flat (f := pC) pC_len hPi 0 (by omega)
        rw [Nat.add_zero] at this
        rw [this]; rfl
    rw [hPl] at hvo
    have hd : decide ((i : Int) < (Gn.length : Int)) = true := by simp; omega
    have d1 : decide ((x : Int) < 0) = false := by simp
    have d2 : decide ((x : Int) ≥ (All.length : Int)) = false := by simp; omega
    have i1 : (i : Int) < (All.length : Int) := by omega
    have i2 : (i : Int) < (Gn.length : Int) := by omega
    have i3 : (x : Int) < (All.length : Int) := by omega
    have e1 : IntKind.i64.wrap ((i : Int) + 1) = ((i + 1 : Nat) : Int) := by rw [wi64 (by omega)]; rfl
    have HX := Hid.mk (And.intro hx (And.intro hee (And.intro hPi hPl)))
    clear hx hee hPi hPl hAx he hvg
    rw [hvg'] at s10
    rw [hva] at s8
    rw [hvo] at s9
    clear hvg' hva hvo
    (repeat' (first | (simp +contextual -dsimp only [*, En.cells, pC, ↓reduceIte, ↓evP, evQ, splice_nil, splice_zero, splice_skip, Nat.reduceAdd, Nat.reduceEqDiff, Nat.reduceLeDiff, Nat.reduceMul, reduceCtorEq, Int.reduceLT, Int.reduceLE, Int.reduceGT, Int.reduceGE, Int.reduceEq, Int.reduceNeg]) | (refine condF_split (fun hc => ?_) (fun hc => ?_) <;> (try simp only [Bool.not_eq_true', Bool.not_eq_false', Bool.and_eq_true, Bool.or_eq_false_iff] at hc)) | (intro _; intros) | (refine And.intro ?_ ?_; focus (first | omega | ((repeat (first | exact Sub.refl _ | (refine Sub.drop ?_ ?_; focus (simp only [evN, *]; done)) | refine Sub.both ?_)); done) | (simp_all; done) | (simp_all; omega)))))
    exact nextF_of (Gn.length - (i + 1)) (by omega) (Sub.refl _) ⟨i + 1, by omega, rfl, (by first | rfl | (simp only [↓putO_get, ↓putO_no, init_zero, init_succ, Nat.reduceEqDiff, ↓reduceIte, *]; done) | (simp only [↓putO_get, ↓putO_no, init_zero, init_succ, Nat.reduceEqDiff, ↓reduceIte, *]; rfl)), (by simp only [List.map_cons, List.map_nil, ↓putO_get, ↓putO_no, init_zero, init_succ, Nat.reduceEqDiff, ↓reduceIte, *]), rfl⟩
  · have hd : decide ((i : Int) < (Gn.length : Int)) = false := by simp; omega
    have HV := Hid.mk hvg
    rw [hvg] at s10
    clear hvg
    (repeat' (first | (simp +contextual -dsimp only [*, En.cells, pC, ↓reduceIte, ↓evP, evQ, splice_nil, splice_zero, splice_skip, Nat.reduceAdd, Nat.reduceEqDiff, Nat.reduceLeDiff, Nat.reduceMul, reduceCtorEq, Int.reduceLT, Int.reduceLE, Int.reduceGT, Int.reduceGE, Int.reduceEq, Int.reduceNeg]) | (refine condF_split (fun hc => ?_) (fun hc => ?_) <;> (try simp only [Bool.not_eq_true', Bool.not_eq_false', Bool.and_eq_true, Bool.or_eq_false_iff] at hc)) | (intro _; intros) | (refine And.intro ?_ ?_; focus (first | omega | ((repeat (first | exact Sub.refl _ | (refine Sub.drop ?_ ?_; focus (simp only [evN, *]; done)) | refine Sub.both ?_)); done) | (simp_all; done) | (simp_all; omega)))))
    exact HQ.out _ HK.out
set_option maxRecDepth 100000 in
set_option maxHeartbeats 2000000 in
theorem ahead6 {τ : Hp} {vs vg : Value} {St Gn : List En} (hs : RowsAt 89 8 En.cells τ vs St) (hg : RowsAt 89 8 En.cells τ vg Gn) (hS : St.length ≤ 1000) (hG : Gn.length ≤ 1000) (hlaw : ∀ x ∈ St, ∀ y ∈ Gn, x.bef y = false)
    {Q : Exit → Sl → Hp → Prop} {s : Sl} (s14 : s 14 = vs) (s10 : s 10 = vg) (hQ : ∀ s', [1, 5].map s' = [1, 5].map s → Q .normal s' τ) : codeF Try.prog c6_b6 Q s τ ⟨⟩ := by
  have HQ := Hid.mk hQ
  have H := Hid.mk (And.intro hs (And.intro hg hlaw))
  obtain ⟨As, cs, rfl⟩ := hs.slice
  obtain ⟨Ag, cg, rfl⟩ := hg.slice
  clear hs hg hlaw hQ
  unfold c6_b6
  simp +contextual -dsimp only [*, En.cells, pC, ↓reduceIte, ↓evP, evQ, splice_nil, splice_zero, splice_skip, Nat.reduceAdd, Nat.reduceEqDiff, Nat.reduceLeDiff, Nat.reduceMul, reduceCtorEq, Int.reduceLT, Int.reduceLE, Int.reduceGT, Int.reduceGE, Int.reduceEq, Int.reduceNeg]
  refine loopF_of (fun k s' τ' => ∃ i : Nat, i ≤ St.length ∧ k = St.length - i ∧ s' 15 = .int .i64 i ∧ [1, 5, 10, 14].map s' = [1, 5, 10, 14].map s ∧ τ' = τ) St.length (Sub.refl _) ⟨0, by omega, rfl, (by first | rfl | (simp only [↓putO_get, ↓putO_no, init_zero, init_succ, Nat.reduceEqDiff, ↓reduceIte, *]; done) | (simp only [↓putO_get, ↓putO_no, init_zero, init_succ, Nat.reduceEqDiff, ↓reduceIte, *]; rfl)), (by simp only [List.map_cons, List.map_nil, ↓putO_get, ↓putO_no, init_zero, init_succ, Nat.reduceEqDiff, ↓reduceIte, *]), rfl⟩ ?_
  rintro k s' τ' ⟨i, hi, hk, s15, hKL, hτ⟩
  subst hτ
  have HK := Hid.mk hKL
  simp only [List.map_cons, List.map_nil, ↓putO_get, ↓putO_no, init_zero, init_succ, Nat.reduceEqDiff, ↓reduceIte, List.cons.injEq, and_true] at hKL
  rcases Nat.lt_or_ge i St.length with hlt | hge
  · have hd : decide ((i : Int) < (St.length : Int)) = true := by simp; omega
    (repeat' (first | (simp +contextual -dsimp only [*, En.cells, pC, ↓reduceIte, ↓evP, evQ, splice_nil, splice_zero, splice_skip, Nat.reduceAdd, Nat.reduceEqDiff, Nat.reduceLeDiff, Nat.reduceMul, reduceCtorEq, Int.reduceLT, Int.reduceLE, Int.reduceGT, Int.reduceGE, Int.reduceEq, Int.reduceNeg]) | (refine condF_split (fun hc => ?_) (fun hc => ?_) <;> (try simp only [Bool.not_eq_true', Bool.not_eq_false', Bool.and_eq_true, Bool.or_eq_false_iff] at hc)) | (intro _; intros) | (refine And.intro ?_ ?_; focus (first | omega | ((repeat (first | exact Sub.refl _ | (refine Sub.drop ?_ ?_; focus (simp only [evN, *]; done)) | refine Sub.both ?_)); done) | (simp_all; done) | (simp_all; omega)))))
    refine loopF_of (fun k s'' τ'' => ∃ j : Nat, j ≤ Gn.length ∧ k = Gn.length - j ∧ s'' 16 = .int .i64 j ∧ s'' 15 = .int .i64 i ∧ [1, 5, 10, 14].map s'' = [1, 5, 10, 14].map s ∧ τ'' = τ') Gn.length (Sub.refl _) ⟨0, by omega, rfl, (by first | rfl | (simp only [↓putO_get, ↓putO_no, init_zero, init_succ, Nat.reduceEqDiff, ↓reduceIte, *]; done) | (simp only [↓putO_get, ↓putO_no, init_zero, init_succ, Nat.reduceEqDiff, ↓reduceIte, *]; rfl)), (by first | rfl | (simp only [↓putO_get, ↓putO_no, init_zero, init_succ, Nat.reduceEqDiff, ↓reduceIte, *]; done) | (simp only [↓putO_get, ↓putO_no, init_zero, init_succ, Nat.reduceEqDiff, ↓reduceIte, *]; rfl)), (by simp only [List.map_cons, List.map_nil, ↓putO_get, ↓putO_no, init_zero, init_succ, Nat.reduceEqDiff, ↓reduceIte, *]), rfl⟩ ?_
    clear s15 hKL HK
    rintro k2 s'' τ'' ⟨j, hj, hk2, s16, s15, hKL, hτ⟩
    subst hτ
    have HK := Hid.mk hKL
    simp only [List.map_cons, List.map_nil, ↓putO_get, ↓putO_no, init_zero, init_succ, Nat.reduceEqDiff, ↓reduceIte, List.cons.injEq, and_true] at hKL
    have e1 : IntKind.i64.wrap ((i : Int) + 1) = ((i + 1 : Nat) : Int) := by rw [wi64 (by omega)]; rfl
    rcases Nat.lt_or_ge j Gn.length with hlt2 | hge2
    · obtain ⟨x, hx⟩ : ∃ x, St[i]? = some x := ⟨_, List.getElem?_eq_getElem hlt⟩
      obtain ⟨y, hy⟩ : ∃ y, Gn[j]? = some y := ⟨_, List.getElem?_eq_getElem hlt2⟩
      obtain ⟨bs, cs', hvs, hrs⟩ := ro_get H.out.1 hx
      obtain ⟨bg, cg', hvg, hrg⟩ := ro_get H.out.2.1 hy
      cases hvs
      cases hvg
      have hbf := H.out.2.2 x (List.mem_of_getElem? hx) y (List.mem_of_getElem? hy)
      have q := before40 x y τ''
      rw [hbf] at q
      have QB := Hid.mk q
      have hd2 : decide ((j : Int) < (Gn.length : Int)) = true := by simp; omega
      have i1 : (i : Int) < (St.length : Int) := by omega
      have i2 : (j : Int) < (Gn.length : Int) := by omega
      have e2 : IntKind.i64.wrap ((j : Int) + 1) = ((j + 1 : Nat) : Int) := by rw [wi64 (by omega)]; rfl
      clear q hbf hx hy
      (repeat' (first | (simp +contextual -dsimp only [*, En.cells, pC, ↓reduceIte, ↓evP, evQ, splice_nil, splice_zero, splice_skip, Nat.reduceAdd, Nat.reduceEqDiff, Nat.reduceLeDiff, Nat.reduceMul, reduceCtorEq, Int.reduceLT, Int.reduceLE, Int.reduceGT, Int.reduceGE, Int.reduceEq, Int.reduceNeg]) | (refine condF_split (fun hc => ?_) (fun hc => ?_) <;> (try simp only [Bool.not_eq_true', Bool.not_eq_false', Bool.and_eq_true, Bool.or_eq_false_iff] at hc)) | (intro _; intros) | (refine And.intro ?_ ?_; focus (first | omega | ((repeat (first | exact Sub.refl _ | (refine Sub.drop ?_ ?_; focus (simp only [evN, *]; done)) | refine Sub.both ?_)); done) | (simp_all; done) | (simp_all; omega)))))
      refine callF_v QB.out ?_
      (repeat' (first | (simp +contextual -dsimp only [*, En.cells, pC, ↓reduceIte, ↓evP, evQ, splice_nil, splice_zero, splice_skip, Nat.reduceAdd, Nat.reduceEqDiff, Nat.reduceLeDiff, Nat.reduceMul, reduceCtorEq, Int.reduceLT, Int.reduceLE, Int.reduceGT, Int.reduceGE, Int.reduceEq, Int.reduceNeg]) | (refine condF_split (fun hc => ?_) (fun hc => ?_) <;> (try simp only [Bool.not_eq_true', Bool.not_eq_false', Bool.and_eq_true, Bool.or_eq_false_iff] at hc)) | (intro _; intros) | (refine And.intro ?_ ?_; focus (first | omega | ((repeat (first | exact Sub.refl _ | (refine Sub.drop ?_ ?_; focus (simp only [evN, *]; done)) | refine Sub.both ?_)); done) | (simp_all; done) | (simp_all; omega)))))
      exact nextF_of (Gn.length - (j + 1)) (by omega) (Sub.refl _) ⟨j + 1, by omega, rfl, (by first | rfl | (simp only [↓putO_get, ↓putO_no, init_zero, init_succ, Nat.reduceEqDiff, ↓reduceIte, *]; done) | (simp only [↓putO_get, ↓putO_no, init_zero, init_succ, Nat.reduceEqDiff, ↓reduceIte, *]; rfl)), (by first | rfl | (simp only [↓putO_get, ↓putO_no, init_zero, init_succ, Nat.reduceEqDiff, ↓reduceIte, *]; done) | (simp only [↓putO_get, ↓putO_no, init_zero, init_succ, Nat.reduceEqDiff, ↓reduceIte, *]; rfl)), (by simp only [List.map_cons, List.map_nil, ↓putO_get, ↓putO_no, init_zero, init_succ, Nat.reduceEqDiff, ↓reduceIte, *]), rfl⟩
    · have hd2 : decide ((j : Int) < (Gn.length : Int)) = false := by simp; omega
      (repeat' (first | (simp +contextual -dsimp only [*, En.cells, pC, ↓reduceIte, ↓evP, evQ, splice_nil, splice_zero, splice_skip, Nat.reduceAdd, Nat.reduceEqDiff, Nat.reduceLeDiff, Nat.reduceMul, reduceCtorEq, Int.reduceLT, Int.reduceLE, Int.reduceGT, Int.reduceGE, Int.reduceEq, Int.reduceNeg]) | (refine condF_split (fun hc => ?_) (fun hc => ?_) <;> (try simp only [Bool.not_eq_true', Bool.not_eq_false', Bool.and_eq_true, Bool.or_eq_false_iff] at hc)) | (intro _; intros) | (refine And.intro ?_ ?_; focus (first | omega | ((repeat (first | exact Sub.refl _ | (refine Sub.drop ?_ ?_; focus (simp only [evN, *]; done)) | refine Sub.both ?_)); done) | (simp_all; done) | (simp_all; omega)))))
      exact nextF_of (St.length - (i + 1)) (by omega) (Sub.refl _) ⟨i + 1, by omega, rfl, (by first | rfl | (simp only [↓putO_get, ↓putO_no, init_zero, init_succ, Nat.reduceEqDiff, ↓reduceIte, *]; done) | (simp only [↓putO_get, ↓putO_no, init_zero, init_succ, Nat.reduceEqDiff, ↓reduceIte, *]; rfl)), (by simp only [List.map_cons, List.map_nil, ↓putO_get, ↓putO_no, init_zero, init_succ, Nat.reduceEqDiff, ↓reduceIte, *]), rfl⟩
  · have hd : decide ((i : Int) < (St.length : Int)) = false := by simp; omega
    (repeat' (first | (simp +contextual -dsimp only [*, En.cells, pC, ↓reduceIte, ↓evP, evQ, splice_nil, splice_zero, splice_skip, Nat.reduceAdd, Nat.reduceEqDiff, Nat.reduceLeDiff, Nat.reduceMul, reduceCtorEq, Int.reduceLT, Int.reduceLE, Int.reduceGT, Int.reduceGE, Int.reduceEq, Int.reduceNeg]) | (refine condF_split (fun hc => ?_) (fun hc => ?_) <;> (try simp only [Bool.not_eq_true', Bool.not_eq_false', Bool.and_eq_true, Bool.or_eq_false_iff] at hc)) | (intro _; intros) | (refine And.intro ?_ ?_; focus (first | omega | ((repeat (first | exact Sub.refl _ | (refine Sub.drop ?_ ?_; focus (simp only [evN, *]; done)) | refine Sub.both ?_)); done) | (simp_all; done) | (simp_all; omega)))))
    exact HQ.out _ (by simp only [List.map_cons, List.map_nil, ↓putO_get, ↓putO_no, init_zero, init_succ, Nat.reduceEqDiff, ↓reduceIte, *])
def e0 : En := ⟨⟨#[107]⟩, false, ⟨#[]⟩, 0, 5, false, 0, -1⟩
theorem e0_good : e0.good = true := by decide
theorem tab_new {σ : Hp} {g : Nat} (hg : σ g = none) : TabAt (upd σ g (.cells (tabC none 0 0) 151)) g none [] (fun _ => []) := by
  refine ⟨upd_same _ _ _, rfl, fun k => .inl ⟨rfl, rfl⟩, ⟨List.nodup_nil, fun k => ⟨fun h => (by cases h), fun h => absurd rfl h⟩, fun k k' _ b h => (by cases h), fun k => List.Pairwise.nil, fun k e he => (by cases he)⟩⟩
theorem first_put {σ : Hp} {g : Nat} (hg : σ g = none) : ACalls Try.prog 33 #[.pointer (some ⟨g, 0, none⟩), .agg e0.cells.toArray] (upd σ g (.cells (tabC none 0 0) 151)) fun u σ' => u = .bool true ∧ FillAt σ σ' g 0 1 := by
  refine (put33 (tab_new hg) e0 (by simp [keysT, entsT])).mono fun u σ' q => ?_
  rcases q with ⟨h1, _⟩ | ⟨_, rfl, mo', l', R', es, hT', hM, hp, hes⟩
  · rw [e0_good] at h1; cases h1
  · have hes' : es = [] := by
      rcases hes with h | ⟨x, h⟩
      · exact h
      · exact absurd h.length_eq (by simp [keysT, entsT])
    subst hes'
    have hs := sub_tmov (σ0 := σ) (Sub.drop hg (Sub.refl _)) (fun j hj => by
      rcases hj with rfl | h | ⟨key, h⟩
      · exact hg
      · cases h
      · cases h) hM
    refine ⟨rfl, ⟨mo', l', R', hT', hs.2, InsNodup.perm (by unfold InsNodup; simp) hp.symm, fun e he => ?_, fun q => ?_, by rw [hp.length_eq]; exact Nat.le_refl _⟩, hs.1⟩
    · have := List.mem_singleton.1 (hp.mem_iff.1 he)
      rw [this]; decide
    · rw [q] at hp; exact absurd hp.length_eq (by simp)
set_option maxRecDepth 100000 in
set_option maxHeartbeats 4000000 in
theorem end6 {σ τ : Hp} {g m mo : Nat} {vg vo va : Value} {All Gn : List En} {f : Nat → Nat} {l : List (ByteArray × Value)} {R : ByteArray → List En} (hs : Sub σ τ) (ho : ∀ j, OwnT g (some m) l j → σ j = none) (hM : SqM τ g m va vo vg All ((List.range All.length).map f) Gn l R) (hq : Squeeze All Gn (entsT (keysT l) R)) (hc : costs (entsT (keysT l) R) ≤ mo)
    (hA : All.length ≤ 1000) (hmo : mo ≤ 65535) (hn : InsNodup All) (hmv : Mv 0 All.length id f) (hso : So (leP All) f 0 All.length) {Q : Exit → Sl → Hp → Prop} {s : Sl} (s1 : s 1 = .int .u16 mo) (s5 : s 5 = .pointer (some ⟨g, 0, none⟩)) (s8 : s 8 = va) (s9 : s 9 = vo) (s10 : s 10 = vg)
    (hQ : ∀ s' τ', s' 4 = .bool true → Sub σ τ' → Q .ret s' τ') : codeF Try.prog c6_t2 Q s τ ⟨⟩ := by
  have HQ := Hid.mk hQ
  have law := hq.law hn (inOrder_perm hmv) (inOrder_sorted hso)
  have hlaw : ∀ (i : Nat) (e : En), Gn[i]? = some e → i < All.length ∧ e = atE All (f i) := fun i e he => inOrder_get (law.2 i e he)
  have hf : ∀ i, i < All.length → f i < All.length := fun i hi => by
    obtain ⟨j, _, h2, h3⟩ := hmv.inn (Nat.zero_le i) hi
    rw [h3]; exact h2
  have hlen := hq.perm.length_eq
  rw [List.length_append] at hlen
  have hln1 : Gn.length + (entsT (keysT l) R).length ≤ All.length := Nat.le_of_eq hlen
  have hln2 : All.length ≤ Gn.length + (entsT (keysT l) R).length := Nat.le_of_eq hlen.symm
  have w0 : IntKind.i64.wrap (mo : Int) = (mo : Int) := by rw [wi64 (by omega)]
  have w1 : IntKind.i64.wrap ((Gn.length : Int) + ((entsT (keysT l) R).length : Int)) = (All.length : Int) := by rw [wi64 (by omega)]; omega
  have ql := len39 hM.tab.cell
  have hva : ∃ A c, va = .slice A All.length c := hM.a.slice
  have hvo : ∃ A c, vo = .slice A All.length c := by
    obtain ⟨A, c, q⟩ := hM.o.slice
    rw [List.length_map, List.length_range] at q
    exact ⟨A, c, q⟩
  have hvg : ∃ A c, vg = .slice A Gn.length c := hM.gn.slice
  have H := Hid.mk (And.intro hs (And.intro ho (And.intro hM (And.intro hq (And.intro hc (And.intro hlaw hf))))))
  clear hs ho hM hq hc hlaw hf law hn hmv hso hQ hlen
  obtain ⟨Aa, ca, rfl⟩ := hva
  obtain ⟨Ao, co, rfl⟩ := hvo
  obtain ⟨Ag, cg, rfl⟩ := hvg
  unfold c6_t2
  (repeat' (first | (simp +contextual -dsimp only [*, En.cells, tabC, ↓reduceIte, ↓evP, evQ, splice_nil, splice_zero, splice_skip, Nat.reduceAdd, Nat.reduceEqDiff, Nat.reduceLeDiff, Nat.reduceMul, reduceCtorEq, Int.reduceLT, Int.reduceLE, Int.reduceGT, Int.reduceGE, Int.reduceEq, Int.reduceNeg]) | (refine condF_split (fun hc => ?_) (fun hc => ?_) <;> (try simp only [Bool.not_eq_true', Bool.not_eq_false', Bool.and_eq_true, Bool.or_eq_false_iff] at hc)) | (intro _; intros) | (refine And.intro ?_ ?_; focus (first | omega | ((repeat (first | exact Sub.refl _ | (refine Sub.drop ?_ ?_; focus (simp only [evN, *]; done)) | refine Sub.both ?_)); done) | (simp_all; done) | (simp_all; omega)))))
  refine callF_v ql ?_
  clear ql
  (repeat' (first | (simp +contextual -dsimp only [*, En.cells, tabC, ↓reduceIte, ↓evP, evQ, splice_nil, splice_zero, splice_skip, Nat.reduceAdd, Nat.reduceEqDiff, Nat.reduceLeDiff, Nat.reduceMul, reduceCtorEq, Int.reduceLT, Int.reduceLE, Int.reduceGT, Int.reduceGE, Int.reduceEq, Int.reduceNeg]) | (refine condF_split (fun hc => ?_) (fun hc => ?_) <;> (try simp only [Bool.not_eq_true', Bool.not_eq_false', Bool.and_eq_true, Bool.or_eq_false_iff] at hc)) | (intro _; intros) | (refine And.intro ?_ ?_; focus (first | omega | ((repeat (first | exact Sub.refl _ | (refine Sub.drop ?_ ?_; focus (simp only [evN, *]; done)) | refine Sub.both ?_)); done) | (simp_all; done) | (simp_all; omega)))))
  unfold c6_s4
  refine codeF_cut (fun s' τ' => [1, 5, 8, 9, 10].map s' = [1, 5, 8, 9, 10].map s ∧ τ' = τ) ?_ ?_
  · refine check6 H.out.2.2.1.a H.out.2.2.1.o H.out.2.2.1.gn rfl hA H.out.2.2.2.2.2.2 H.out.2.2.2.2.2.1 (by first | rfl | (simp only [↓putO_get, ↓putO_no, init_zero, init_succ, Nat.reduceEqDiff, ↓reduceIte, *]; done) | (simp only [↓putO_get, ↓putO_no, init_zero, init_succ, Nat.reduceEqDiff, ↓reduceIte, *]; rfl)) (by first | rfl | (simp only [↓putO_get, ↓putO_no, init_zero, init_succ, Nat.reduceEqDiff, ↓reduceIte, *]; done) | (simp only [↓putO_get, ↓putO_no, init_zero, init_succ, Nat.reduceEqDiff, ↓reduceIte, *]; rfl)) (by first | rfl | (simp only [↓putO_get, ↓putO_no, init_zero, init_succ, Nat.reduceEqDiff, ↓reduceIte, *]; done) | (simp only [↓putO_get, ↓putO_no, init_zero, init_succ, Nat.reduceEqDiff, ↓reduceIte, *]; rfl)) (fun s' h => ?_)
    rw [thn_normal]
    exact ⟨h.trans (by simp only [List.map_cons, List.map_nil, ↓putO_get, ↓putO_no, init_zero, init_succ, Nat.reduceEqDiff, ↓reduceIte, *]), rfl⟩
  clear w1
  rintro s' τ' ⟨hKL, rfl⟩
  simp only [List.map_cons, List.map_nil, ↓putO_get, ↓putO_no, init_zero, init_succ, Nat.reduceEqDiff, ↓reduceIte, List.cons.injEq, and_true] at hKL
  have qa := all34 H.out.2.2.1.tab (by omega)
  unfold c6_t4
  (repeat' (first | (simp +contextual -dsimp only [*, En.cells, tabC, ↓reduceIte, ↓evP, evQ, splice_nil, splice_zero, splice_skip, Nat.reduceAdd, Nat.reduceEqDiff, Nat.reduceLeDiff, Nat.reduceMul, reduceCtorEq, Int.reduceLT, Int.reduceLE, Int.reduceGT, Int.reduceGE, Int.reduceEq, Int.reduceNeg]) | (refine condF_split (fun hc => ?_) (fun hc => ?_) <;> (try simp only [Bool.not_eq_true', Bool.not_eq_false', Bool.and_eq_true, Bool.or_eq_false_iff] at hc)) | (intro _; intros) | (refine And.intro ?_ ?_; focus (first | omega | ((repeat (first | exact Sub.refl _ | (refine Sub.drop ?_ ?_; focus (simp only [evN, *]; done)) | refine Sub.both ?_)); done) | (simp_all; done) | (simp_all; omega)))))
  refine callF_of qa ?_
  rintro vs τ1 ⟨St, hp, hr, hm⟩
  have hM1 := H.out.2.2.1.made hm.1
  have hnb : ∀ x ∈ St, ∀ y ∈ Gn, x.bef y = false := fun x hx y hy => H.out.2.2.2.1.notBef hy (hp.mem_iff.1 hx)
  have hSl : St.length ≤ 1000 := by rw [hp.length_eq]; omega
  have hs1 : Sub σ τ1 := H.out.1.same hm.1 (fun _ f => f.elim)
  have H1 := Hid.mk (And.intro hM1 (And.intro hr (And.intro hnb hs1)))
  clear hM1 hr hnb hs1 hp hm qa
  (repeat' (first | (simp +contextual -dsimp only [*, En.cells, tabC, ↓reduceIte, ↓evP, evQ, splice_nil, splice_zero, splice_skip, Nat.reduceAdd, Nat.reduceEqDiff, Nat.reduceLeDiff, Nat.reduceMul, reduceCtorEq, Int.reduceLT, Int.reduceLE, Int.reduceGT, Int.reduceGE, Int.reduceEq, Int.reduceNeg]) | (refine condF_split (fun hc => ?_) (fun hc => ?_) <;> (try simp only [Bool.not_eq_true', Bool.not_eq_false', Bool.and_eq_true, Bool.or_eq_false_iff] at hc)) | (intro _; intros) | (refine And.intro ?_ ?_; focus (first | omega | ((repeat (first | exact Sub.refl _ | (refine Sub.drop ?_ ?_; focus (simp only [evN, *]; done)) | refine Sub.both ?_)); done) | (simp_all; done) | (simp_all; omega)))))
  unfold c6_s6
  refine codeF_cut (fun s2 τ2 => [1, 5].map s2 = [1, 5].map s ∧ τ2 = τ1) ?_ ?_
  · refine ahead6 H1.out.2.1 H1.out.1.gn hSl (by omega) H1.out.2.2.1 (by first | rfl | (simp only [↓putO_get, ↓putO_no, init_zero, init_succ, Nat.reduceEqDiff, ↓reduceIte, *]; done) | (simp only [↓putO_get, ↓putO_no, init_zero, init_succ, Nat.reduceEqDiff, ↓reduceIte, *]; rfl)) (by first | rfl | (simp only [↓putO_get, ↓putO_no, init_zero, init_succ, Nat.reduceEqDiff, ↓reduceIte, *]; done) | (simp only [↓putO_get, ↓putO_no, init_zero, init_succ, Nat.reduceEqDiff, ↓reduceIte, *]; rfl)) (fun s2 h => ?_)
    rw [thn_normal]
    exact ⟨h.trans (by simp only [List.map_cons, List.map_nil, ↓putO_get, ↓putO_no, init_zero, init_succ, Nat.reduceEqDiff, ↓reduceIte, *]), rfl⟩
  rintro s2 τ2 ⟨hKL2, rfl⟩
  simp only [List.map_cons, List.map_nil, ↓putO_get, ↓putO_no, init_zero, init_succ, Nat.reduceEqDiff, ↓reduceIte, List.cons.injEq, and_true] at hKL2
  have qb := bytes36 H1.out.1.tab.cell
  have hcc := H.out.2.2.2.2.1
  have hd : decide ((costs (entsT (keysT l) R) : Int) ≤ (mo : Int)) = true := by simp; omega
  clear hcc
  unfold c6_t6
  (repeat' (first | (simp +contextual -dsimp only [*, En.cells, tabC, ↓reduceIte, ↓evP, evQ, splice_nil, splice_zero, splice_skip, Nat.reduceAdd, Nat.reduceEqDiff, Nat.reduceLeDiff, Nat.reduceMul, reduceCtorEq, Int.reduceLT, Int.reduceLE, Int.reduceGT, Int.reduceGE, Int.reduceEq, Int.reduceNeg]) | (refine condF_split (fun hc => ?_) (fun hc => ?_) <;> (try simp only [Bool.not_eq_true', Bool.not_eq_false', Bool.and_eq_true, Bool.or_eq_false_iff] at hc)) | (intro _; intros) | (refine And.intro ?_ ?_; focus (first | omega | ((repeat (first | exact Sub.refl _ | (refine Sub.drop ?_ ?_; focus (simp only [evN, *]; done)) | refine Sub.both ?_)); done) | (simp_all; done) | (simp_all; omega)))))
  refine callF_v qb ?_
  (repeat' (first | (simp +contextual -dsimp only [*, En.cells, tabC, ↓reduceIte, ↓evP, evQ, splice_nil, splice_zero, splice_skip, Nat.reduceAdd, Nat.reduceEqDiff, Nat.reduceLeDiff, Nat.reduceMul, reduceCtorEq, Int.reduceLT, Int.reduceLE, Int.reduceGT, Int.reduceGE, Int.reduceEq, Int.reduceNeg]) | (refine condF_split (fun hc => ?_) (fun hc => ?_) <;> (try simp only [Bool.not_eq_true', Bool.not_eq_false', Bool.and_eq_true, Bool.or_eq_false_iff] at hc)) | (intro _; intros) | (refine And.intro ?_ ?_; focus (first | omega | ((repeat (first | exact Sub.refl _ | (refine Sub.drop ?_ ?_; focus (simp only [evN, *]; done)) | refine Sub.both ?_)); done) | (simp_all; done) | (simp_all; omega)))))
  exact HQ.out _ _ (by first | rfl | (simp only [↓putO_get, ↓putO_no, init_zero, init_succ, Nat.reduceEqDiff, ↓reduceIte, *]; done) | (simp only [↓putO_get, ↓putO_no, init_zero, init_succ, Nat.reduceEqDiff, ↓reduceIte, *]; rfl)) H1.out.2.2.2
set_option maxRecDepth 100000 in
set_option maxHeartbeats 4000000 in
theorem mid6 {σ τ : Hp} {g mo : Nat} {n : Int} (hF : FillAt σ τ g n 201) (hmo : mo ≤ 65535) {Q : Exit → Sl → Hp → Prop} {s : Sl} (s1 : s 1 = .int .u16 mo) (s5 : s 5 = .pointer (some ⟨g, 0, none⟩))
    (hQ : ∀ s' τ', s' 4 = .bool true → Sub σ τ' → Q .ret s' τ') : codeF Try.prog c6_t0 Q s τ ⟨⟩ := by
  have HQ := Hid.mk hQ
  obtain ⟨⟨mp, l, R, hT, ho, hi, hn, hne, hl⟩, hs⟩ := hF
  obtain ⟨m, rfl⟩ : ∃ m, mp = some m := by
    cases mp with
    | none =>
      have h0 : l = [] := hT.map
      rw [h0] at hne; exact absurd rfl hne
    | some m => exact ⟨m, rfl⟩
  have qa := all34 hT (by omega)
  have H := Hid.mk (And.intro hT (And.intro ho (And.intro hi (And.intro hne hs))))
  have QA := Hid.mk qa
  clear hQ hT ho hi hn hne hs qa
  unfold c6_t0
  (repeat' (first | (simp +contextual -dsimp only [*, En.cells, tabC, ↓reduceIte, ↓evP, evQ, splice_nil, splice_zero, splice_skip, Nat.reduceAdd, Nat.reduceEqDiff, Nat.reduceLeDiff, Nat.reduceMul, reduceCtorEq, Int.reduceLT, Int.reduceLE, Int.reduceGT, Int.reduceGE, Int.reduceEq, Int.reduceNeg]) | (refine condF_split (fun hc => ?_) (fun hc => ?_) <;> (try simp only [Bool.not_eq_true', Bool.not_eq_false', Bool.and_eq_true, Bool.or_eq_false_iff] at hc)) | (intro _; intros) | (refine And.intro ?_ ?_; focus (first | omega | ((repeat (first | exact Sub.refl _ | (refine Sub.drop ?_ ?_; focus (simp only [evN, *]; done)) | refine Sub.both ?_)); done) | (simp_all; done) | (simp_all; omega)))))
  refine callF_of QA.out ?_
  rintro va τ1 ⟨All, hp, hr, hm⟩
  obtain ⟨A, c, rfl⟩ := hr.slice
  have hA1 : All.length ≤ 201 := by rw [hp.length_eq]; exact hl
  have hA0 : 0 < All.length := by rw [hp.length_eq]; exact List.length_pos_iff.2 H.out.2.2.2.1
  have qo := order35 (hr.ro En.cells_len) hA0 (by omega)
  have hins : InsNodup All := H.out.2.2.1.perm hp.symm
  have H1 := Hid.mk (And.intro hp (And.intro hr (And.intro hm hins)))
  have QO := Hid.mk qo
  clear hp hr hm hins qo QA
  (repeat' (first | (simp +contextual -dsimp only [*, En.cells, tabC, ↓reduceIte, ↓evP, evQ, splice_nil, splice_zero, splice_skip, Nat.reduceAdd, Nat.reduceEqDiff, Nat.reduceLeDiff, Nat.reduceMul, reduceCtorEq, Int.reduceLT, Int.reduceLE, Int.reduceGT, Int.reduceGE, Int.reduceEq, Int.reduceNeg]) | (refine condF_split (fun hc => ?_) (fun hc => ?_) <;> (try simp only [Bool.not_eq_true', Bool.not_eq_false', Bool.and_eq_true, Bool.or_eq_false_iff] at hc)) | (intro _; intros) | (refine And.intro ?_ ?_; focus (first | omega | ((repeat (first | exact Sub.refl _ | (refine Sub.drop ?_ ?_; focus (simp only [evN, *]; done)) | refine Sub.both ?_)); done) | (simp_all; done) | (simp_all; omega)))))
  refine callF_of QO.out ?_
  rintro vo τ2 ⟨b, c', f, hb, hc', rfl, hmv, hso, rfl⟩
  have hM : SqM (upd τ1 b (.row (rowN All.length f) (c' * 1) 3)) g m (.slice A All.length c) (.slice (some ⟨b, 0, none⟩) All.length c') (.slice none 0 0) All ((List.range All.length).map f) [] l R := by
    have t1 := H.out.1.same H1.out.2.2.1.1 (fun _ x => x.elim)
    refine ⟨(t1.fresh hb _).1, H1.out.2.1.fresh hb _, .inr ⟨b, c', by rw [List.length_map, List.length_range], by rw [List.length_map, List.length_range]; exact hc', by rw [upd_same, rowN_flat]⟩, .inl ⟨rfl, rfl⟩, fun j hj q => H.out.1.known q (H1.out.2.2.1.2 j hj), fun j hj q => ?_, fun j hj => (by cases hj), fun j hj => (by cases hj)⟩
    cases hj
    exact t1.known q hb
  have hq : Squeeze All [] (entsT (keysT l) R) := ⟨by rw [List.nil_append]; exact H1.out.1.symm, List.Pairwise.nil, fun y hy => (by cases hy)⟩
  have hs2 : Sub σ (upd τ1 b (.row (rowN All.length f) (c' * 1) 3)) := Sub.drop ((H.out.2.2.2.2.same H1.out.2.2.1.1 (fun _ x => x.elim)).noneAt hb) (H.out.2.2.2.2.same H1.out.2.2.1.1 (fun _ x => x.elim))
  have H2 := Hid.mk (And.intro hM (And.intro hq (And.intro hs2 (And.intro hmv hso))))
  clear hM hq hs2 hmv hso hb hc' QO
  obtain ⟨τ2, hτ2⟩ : ∃ τ2, τ2 = upd τ1 b (.row (rowN All.length f) (c' * 1) 3) := ⟨_, rfl⟩
  rw [← hτ2] at H2 ⊢
  clear hτ2
  (repeat' (first | (simp +contextual -dsimp only [*, En.cells, tabC, ↓reduceIte, ↓evP, evQ, splice_nil, splice_zero, splice_skip, Nat.reduceAdd, Nat.reduceEqDiff, Nat.reduceLeDiff, Nat.reduceMul, reduceCtorEq, Int.reduceLT, Int.reduceLE, Int.reduceGT, Int.reduceGE, Int.reduceEq, Int.reduceNeg]) | (refine condF_split (fun hc => ?_) (fun hc => ?_) <;> (try simp only [Bool.not_eq_true', Bool.not_eq_false', Bool.and_eq_true, Bool.or_eq_false_iff] at hc)) | (intro _; intros) | (refine And.intro ?_ ?_; focus (first | omega | ((repeat (first | exact Sub.refl _ | (refine Sub.drop ?_ ?_; focus (simp only [evN, *]; done)) | refine Sub.both ?_)); done) | (simp_all; done) | (simp_all; omega)))))
  unfold c6_s2
  refine codeF_cut (fun s' τ' => ∃ (vg : Value) (Gn : List En) (l' : List (ByteArray × Value)) (R' : ByteArray → List En), [1, 5, 8, 9].map s' = [.int .u16 mo, .pointer (some ⟨g, 0, none⟩), .slice A All.length c, .slice (some ⟨b, 0, none⟩) All.length c'] ∧ s' 10 = vg ∧ Sub σ τ' ∧ (∀ j, OwnT g (some m) l' j → σ j = none) ∧
    SqM τ' g m (.slice A All.length c) (.slice (some ⟨b, 0, none⟩) All.length c') vg All ((List.range All.length).map f) Gn l' R' ∧ Squeeze All Gn (entsT (keysT l') R') ∧ costs (entsT (keysT l') R') ≤ mo) ?_ ?_
  · refine squeeze6 (mo := mo) H2.out.1 H2.out.2.1 (by omega) hmo H2.out.2.2.1 H.out.2.1 (fun j hj => (by cases hj)) (by first | rfl | (simp only [↓putO_get, ↓putO_no, init_zero, init_succ, Nat.reduceEqDiff, ↓reduceIte, *]; done) | (simp only [↓putO_get, ↓putO_no, init_zero, init_succ, Nat.reduceEqDiff, ↓reduceIte, *]; rfl)) (by first | rfl | (simp only [↓putO_get, ↓putO_no, init_zero, init_succ, Nat.reduceEqDiff, ↓reduceIte, *]; done) | (simp only [↓putO_get, ↓putO_no, init_zero, init_succ, Nat.reduceEqDiff, ↓reduceIte, *]; rfl)) (by first | rfl | (simp only [↓putO_get, ↓putO_no, init_zero, init_succ, Nat.reduceEqDiff, ↓reduceIte, *]; done) | (simp only [↓putO_get, ↓putO_no, init_zero, init_succ, Nat.reduceEqDiff, ↓reduceIte, *]; rfl)) (by first | rfl | (simp only [↓putO_get, ↓putO_no, init_zero, init_succ, Nat.reduceEqDiff, ↓reduceIte, *]; done) | (simp only [↓putO_get, ↓putO_no, init_zero, init_succ, Nat.reduceEqDiff, ↓reduceIte, *]; rfl)) (by first | rfl | (simp only [↓putO_get, ↓putO_no, init_zero, init_succ, Nat.reduceEqDiff, ↓reduceIte, *]; done) | (simp only [↓putO_get, ↓putO_no, init_zero, init_succ, Nat.reduceEqDiff, ↓reduceIte, *]; rfl)) (fun s' τ' vg' Gn' l' R' h1 h2 h3 h4 h5 h6 h7 => ?_)
    rw [thn_normal]
    exact ⟨vg', Gn', l', R', h1.trans (by simp only [List.map_cons, List.map_nil, ↓putO_get, ↓putO_no, init_zero, init_succ, Nat.reduceEqDiff, ↓reduceIte, *]), h2, h6, h7, h3, h4, h5⟩
  rintro s' τ' ⟨vg, Gn, l', R', hKL, s10, hs3, ho3, h3, h4, h5⟩
  simp only [List.map_cons, List.map_nil, ↓putO_get, ↓putO_no, init_zero, init_succ, Nat.reduceEqDiff, ↓reduceIte, List.cons.injEq, and_true] at hKL
  refine end6 hs3 ho3 h3 h4 h5 (by omega) hmo H1.out.2.2.2 H2.out.2.2.2.1 H2.out.2.2.2.2 (by first | rfl | (simp only [↓putO_get, ↓putO_no, init_zero, init_succ, Nat.reduceEqDiff, ↓reduceIte, *]; done) | (simp only [↓putO_get, ↓putO_no, init_zero, init_succ, Nat.reduceEqDiff, ↓reduceIte, *]; rfl)) (by first | rfl | (simp only [↓putO_get, ↓putO_no, init_zero, init_succ, Nat.reduceEqDiff, ↓reduceIte, *]; done) | (simp only [↓putO_get, ↓putO_no, init_zero, init_succ, Nat.reduceEqDiff, ↓reduceIte, *]; rfl)) (by first | rfl | (simp only [↓putO_get, ↓putO_no, init_zero, init_succ, Nat.reduceEqDiff, ↓reduceIte, *]; done) | (simp only [↓putO_get, ↓putO_no, init_zero, init_succ, Nat.reduceEqDiff, ↓reduceIte, *]; rfl)) (by first | rfl | (simp only [↓putO_get, ↓putO_no, init_zero, init_succ, Nat.reduceEqDiff, ↓reduceIte, *]; done) | (simp only [↓putO_get, ↓putO_no, init_zero, init_succ, Nat.reduceEqDiff, ↓reduceIte, *]; rfl)) (by first | rfl | (simp only [↓putO_get, ↓putO_no, init_zero, init_succ, Nat.reduceEqDiff, ↓reduceIte, *]; done) | (simp only [↓putO_get, ↓putO_no, init_zero, init_succ, Nat.reduceEqDiff, ↓reduceIte, *]; rfl)) HQ.out
set_option maxRecDepth 100000 in
set_option maxHeartbeats 4000000 in
theorem victims6 {σ : Hp} {v : Value} {L : List En} (hro : RoRows 8 En.cells σ v L) (hL : L.length ≤ 140737488355328) (mo : Nat) (hmo : mo ≤ 65535) :
    ACalls Try.prog 6 #[v, .int .u16 mo] σ fun u σ' => u = .bool true ∧ σ' = σ := by
  obtain ⟨A, c, rfl⟩ : ∃ A c, v = .slice A L.length c := by obtain ⟨A, c, rfl, _⟩ := hro; exact ⟨A, c, rfl⟩
  have HV := Hid.mk hro
  clear hro
  have qn := new32 σ
  (refine acalls_F ok6 (by simp) ?_; unfold c6 r6)
  (repeat' (first | (simp +contextual -dsimp only [*, En.cells, tabC, ↓reduceIte, ↓evP, evQ, splice_nil, splice_zero, splice_skip, Nat.reduceAdd, Nat.reduceEqDiff, Nat.reduceLeDiff, Nat.reduceMul, reduceCtorEq, Int.reduceLT, Int.reduceLE, Int.reduceGT, Int.reduceGE, Int.reduceEq, Int.reduceNeg]) | (refine condF_split (fun hc => ?_) (fun hc => ?_) <;> (try simp only [Bool.not_eq_true', Bool.not_eq_false', Bool.and_eq_true, Bool.or_eq_false_iff] at hc)) | (intro _; intros) | (refine And.intro ?_ ?_; focus (first | omega | ((repeat (first | exact Sub.refl _ | (refine Sub.drop ?_ ?_; focus (simp only [evN, *]; done)) | refine Sub.both ?_)); done) | (simp_all; done) | (simp_all; omega)))))
  refine callF_of qn ?_
  rintro u σ1 ⟨g, hg, rfl, rfl⟩
  have qp := Hid.mk (first_put hg)
  clear qn
  (repeat' (first | (simp +contextual -dsimp only [*, En.cells, tabC, ↓reduceIte, ↓evP, evQ, splice_nil, splice_zero, splice_skip, Nat.reduceAdd, Nat.reduceEqDiff, Nat.reduceLeDiff, Nat.reduceMul, reduceCtorEq, Int.reduceLT, Int.reduceLE, Int.reduceGT, Int.reduceGE, Int.reduceEq, Int.reduceNeg]) | (refine condF_split (fun hc => ?_) (fun hc => ?_) <;> (try simp only [Bool.not_eq_true', Bool.not_eq_false', Bool.and_eq_true, Bool.or_eq_false_iff] at hc)) | (intro _; intros) | (refine And.intro ?_ ?_; focus (first | omega | ((repeat (first | exact Sub.refl _ | (refine Sub.drop ?_ ?_; focus (simp only [evN, *]; done)) | refine Sub.both ?_)); done) | (simp_all; done) | (simp_all; omega)))))
  refine callF_of qp.out ?_
  rintro u τ ⟨rfl, hF⟩
  have HF := Hid.mk hF
  clear hF qp
  (repeat' (first | (simp +contextual -dsimp only [*, En.cells, tabC, ↓reduceIte, ↓evP, evQ, splice_nil, splice_zero, splice_skip, Nat.reduceAdd, Nat.reduceEqDiff, Nat.reduceLeDiff, Nat.reduceMul, reduceCtorEq, Int.reduceLT, Int.reduceLE, Int.reduceGT, Int.reduceGE, Int.reduceEq, Int.reduceNeg]) | (refine condF_split (fun hc => ?_) (fun hc => ?_) <;> (try simp only [Bool.not_eq_true', Bool.not_eq_false', Bool.and_eq_true, Bool.or_eq_false_iff] at hc)) | (intro _; intros) | (refine And.intro ?_ ?_; focus (first | omega | ((repeat (first | exact Sub.refl _ | (refine Sub.drop ?_ ?_; focus (simp only [evN, *]; done)) | refine Sub.both ?_)); done) | (simp_all; done) | (simp_all; omega)))))
  unfold c6_s0
  refine codeF_cut (fun s' τ' => ∃ n : Int, [0, 1, 5].map s' = [.slice A L.length c, .int .u16 mo, .pointer (some ⟨g, 0, none⟩)] ∧ FillAt σ τ' g n 201) ?_ ?_
  · refine fill6 HV.out hL HF.out (by first | rfl | (simp only [↓putO_get, ↓putO_no, init_zero, init_succ, Nat.reduceEqDiff, ↓reduceIte, *]; done) | (simp only [↓putO_get, ↓putO_no, init_zero, init_succ, Nat.reduceEqDiff, ↓reduceIte, *]; rfl)) (by first | rfl | (simp only [↓putO_get, ↓putO_no, init_zero, init_succ, Nat.reduceEqDiff, ↓reduceIte, *]; done) | (simp only [↓putO_get, ↓putO_no, init_zero, init_succ, Nat.reduceEqDiff, ↓reduceIte, *]; rfl)) (fun s' τ' n h1 h2 => ?_)
    rw [thn_normal]
    exact ⟨n, h1.trans (by simp only [List.map_cons, List.map_nil, ↓putO_get, ↓putO_no, init_zero, init_succ, Nat.reduceEqDiff, ↓reduceIte, *]), h2⟩
  rintro s' τ' ⟨n, hKL, hF2⟩
  simp only [List.map_cons, List.map_nil, ↓putO_get, ↓putO_no, init_zero, init_succ, Nat.reduceEqDiff, ↓reduceIte, List.cons.injEq, and_true] at hKL
  refine mid6 hF2 hmo (by first | rfl | (simp only [↓putO_get, ↓putO_no, init_zero, init_succ, Nat.reduceEqDiff, ↓reduceIte, *]; done) | (simp only [↓putO_get, ↓putO_no, init_zero, init_succ, Nat.reduceEqDiff, ↓reduceIte, *]; rfl)) (by first | rfl | (simp only [↓putO_get, ↓putO_no, init_zero, init_succ, Nat.reduceEqDiff, ↓reduceIte, *]; done) | (simp only [↓putO_get, ↓putO_no, init_zero, init_succ, Nat.reduceEqDiff, ↓reduceIte, *]; rfl)) (fun s2 τ2 h4 hs2 => ?_)
  have HS := Hid.mk hs2
  clear hs2 hF2
  simp +contextual -dsimp only [*, En.cells, tabC, ↓reduceIte, ↓evP, evQ, splice_nil, splice_zero, splice_skip, Nat.reduceAdd, Nat.reduceEqDiff, Nat.reduceLeDiff, Nat.reduceMul, reduceCtorEq, Int.reduceLT, Int.reduceLE, Int.reduceGT, Int.reduceGE, Int.reduceEq, Int.reduceNeg]
  exact endF_det rfl HS.out
end Go.Proofs.Ytpnghjmphbhkjaa

-- KnV
namespace Go.Proofs.Ytpnghjmphbhkjaa
open Go.RowKit Go.Sp Go.Sp.Open
set_option linter.unusedVariables false
theorem u16_range {n : Int} (h : (Lit.int .u16 n).wf = true) : 0 ≤ n ∧ n ≤ 65535 := by
  have e1 : IntKind.u16.min = 0 := by decide
  have e2 : IntKind.u16.max = 65535 := by decide
  simp [Lit.wf] at h
  omega
theorem opensT31 : Opens Try.prog 31 (Kd.pair Kd.bool Kd.string) (fun (x : Bool × ByteArray) => (True ∧ ByteArray.size x.2 ≤ 140737488351232)) := by
  refine opens_struct Try.underlying31 (by kernel_rfl) ?_
  show OpensF Try.prog (_ :: _) 0 (Kd.pair Kd.bool Kd.string) _
  refine opensF_cons (G := fun (z : Bool) => True) (G' := (fun (z : ByteArray) => ByteArray.size z ≤ 140737488351232)) rfl (by kernel_rfl) (opens_bool Try.underlying4) ?_
  exact opensF_one rfl (by kernel_rfl) (opens_string Try.underlying9)
theorem opensT39 : Opens Try.prog 39 (Kd.pair Kd.string (Kd.pair (Kd.pair Kd.bool Kd.string) (Kd.pair (Kd.int .i64) (Kd.int .i64)))) (fun (x : ByteArray × (Bool × ByteArray) × Int × Int) => (ByteArray.size x.1 ≤ 140737488351232 ∧ (True ∧ ByteArray.size x.2.1.2 ≤ 140737488351232) ∧ (Lit.int .i64 x.2.2.1).wf = true ∧ (Lit.int .i64 x.2.2.2).wf = true)) := by
  refine opens_struct Try.underlying39 (by kernel_rfl) ?_
  show OpensF Try.prog (_ :: _) 0 (Kd.pair Kd.string (Kd.pair (Kd.pair Kd.bool Kd.string) (Kd.pair (Kd.int .i64) (Kd.int .i64)))) _
  refine opensF_cons (G := fun (z : ByteArray) => ByteArray.size z ≤ 140737488351232) (G' := (fun (z : (Bool × ByteArray) × Int × Int) => (True ∧ ByteArray.size z.1.2 ≤ 140737488351232) ∧ (Lit.int .i64 z.2.1).wf = true ∧ (Lit.int .i64 z.2.2).wf = true)) rfl (by kernel_rfl) (opens_string Try.underlying9) ?_
  refine opensF_cons (G := fun (z : Bool × ByteArray) => (True ∧ ByteArray.size z.2 ≤ 140737488351232)) (G' := (fun (z : Int × Int) => (Lit.int .i64 z.1).wf = true ∧ (Lit.int .i64 z.2).wf = true)) rfl (by kernel_rfl) opensT31 ?_
  refine opensF_cons (G := fun (z : Int) => (Lit.int .i64 z).wf = true) (G' := (fun (z : Int) => (Lit.int .i64 z).wf = true)) rfl (by kernel_rfl) (opens_int Try.underlying2) ?_
  exact opensF_one rfl (by kernel_rfl) (opens_int Try.underlying2)
theorem opensT89 : Opens Try.prog 89 (Kd.pair (Kd.pair Kd.string (Kd.pair (Kd.pair Kd.bool Kd.string) (Kd.pair (Kd.int .i64) (Kd.int .i64)))) (Kd.pair Kd.bool (Kd.pair (Kd.int .i64) (Kd.int .i64)))) (fun (x : (ByteArray × (Bool × ByteArray) × Int × Int) × Bool × Int × Int) => ((ByteArray.size x.1.1 ≤ 140737488351232 ∧ (True ∧ ByteArray.size x.1.2.1.2 ≤ 140737488351232) ∧ (Lit.int .i64 x.1.2.2.1).wf = true ∧ (Lit.int .i64 x.1.2.2.2).wf = true) ∧ True ∧ (Lit.int .i64 x.2.2.1).wf = true ∧ (Lit.int .i64 x.2.2.2).wf = true)) := by
  refine opens_struct Try.underlying89 (by kernel_rfl) ?_
  show OpensF Try.prog (_ :: _) 0 (Kd.pair (Kd.pair Kd.string (Kd.pair (Kd.pair Kd.bool Kd.string) (Kd.pair (Kd.int .i64) (Kd.int .i64)))) (Kd.pair Kd.bool (Kd.pair (Kd.int .i64) (Kd.int .i64)))) _
  refine opensF_cons (G := fun (z : ByteArray × (Bool × ByteArray) × Int × Int) => (ByteArray.size z.1 ≤ 140737488351232 ∧ (True ∧ ByteArray.size z.2.1.2 ≤ 140737488351232) ∧ (Lit.int .i64 z.2.2.1).wf = true ∧ (Lit.int .i64 z.2.2.2).wf = true)) (G' := (fun (z : Bool × Int × Int) => True ∧ (Lit.int .i64 z.2.1).wf = true ∧ (Lit.int .i64 z.2.2).wf = true)) rfl (by kernel_rfl) opensT39 ?_
  refine opensF_cons (G := fun (z : Bool) => True) (G' := (fun (z : Int × Int) => (Lit.int .i64 z.1).wf = true ∧ (Lit.int .i64 z.2).wf = true)) rfl (by kernel_rfl) (opens_bool Try.underlying4) ?_
  refine opensF_cons (G := fun (z : Int) => (Lit.int .i64 z).wf = true) (G' := (fun (z : Int) => (Lit.int .i64 z).wf = true)) rfl (by kernel_rfl) (opens_int Try.underlying2) ?_
  exact opensF_one rfl (by kernel_rfl) (opens_int Try.underlying2)
theorem opens_En : Opens Try.prog 89 (Kd.of 8 En.cells) (fun _ => True) := by
  refine opens_iso (fun (x : (ByteArray × (Bool × ByteArray) × Int × Int) × Bool × Int × Int) => (⟨x.1.1, x.1.2.1.1, x.1.2.1.2, x.1.2.2.1, x.1.2.2.2, x.2.1, x.2.2.1, x.2.2.2⟩ : En)) (fun w x cs h => ?_) (fun x h => ?_) opensT89
  · obtain ⟨_, _, rfl, ⟨_, _, rfl, rfl, ⟨_, _, rfl, ⟨_, _, rfl, rfl, rfl⟩, ⟨_, _, rfl, rfl, rfl⟩⟩⟩, ⟨_, _, rfl, rfl, ⟨_, _, rfl, rfl, rfl⟩⟩⟩ := h; rfl
  · trivial
end Go.Proofs.Ytpnghjmphbhkjaa
