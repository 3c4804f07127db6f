/- The store: a key read. -/
import Derived.Test.YtpnghjmphbhkjaaX14
namespace Go.Proofs.Ytpnghjmphbhkjaa
open Go.Sp
set_option linter.unusedSimpArgs false
set_option linter.unusedVariables false
structure Fct where
  key : ByteArray
  has : Bool
  data : ByteArray
  lo : Int
  hi : Int
def Fct.cells (f : Fct) : List Value := [.string f.key, .bool f.has, .string f.data, .int .i64 f.lo, .int .i64 f.hi]
def noF : Fct := ⟨⟨#[]⟩, false, ⟨#[]⟩, 0, 0⟩
def noVer : Ver := ⟨0, false, ⟨#[]⟩⟩
def before (l : List Ver) (i : Nat) : Ver := match i with | 0 => noVer | i + 1 => l.getD i noVer
def behindV (l : List Ver) (i : Nat) : Int := match l[i]? with | some v => v.n | none => 4611686018427387904
def factOf (k : ByteArray) (l : List Ver) (i : Nat) : Fct := ⟨k, (before l i).has, (before l i).data, (before l i).n, behindV l i⟩
/-- What Read answers. -/
def St.read (S : St) (k : ByteArray) (c : Int) : Fct × Int :=
  cond (!goodK k || decide (c < 0)) (noF, 1) (cond (decide (c > S.last)) (noF, 21) (cond (decide (c < S.oldest k)) (noF, 20) (factOf k (S.row k).list (place (S.row k).list c), 0)))
structure RowOk (r : Row) : Prop where
  sorted : r.list.Pairwise (fun a b => a.n < b.n)
  some : r.dropped = true → r.list ≠ []
  few : r.list.length ≤ 1048576
theorem _root_.Go.Sp.rd_later {σ : Hp} {b o : Nat} {v : Value} (h : rd σ b o = some v) : ∀ σ', Sub σ σ' → rd σ' b o = some v := fun σ' hs => rd_sub hs h
theorem _root_.Go.Sp.rdn_later {σ : Hp} {b o n : Nat} {vs : List Value} (h : rdn σ b o n = some vs) : ∀ σ', Sub σ σ' → rdn σ' b o n = some vs := fun σ' hs => rdn_sub hs h
theorem before_pos {L : List Ver} {i : Nat} {v : Ver} (h0 : 0 < i) (h : L[i - 1]? = some v) : before L i = v := by
  obtain ⟨j, rfl⟩ : ∃ j, i = j + 1 := ⟨i - 1, by omega⟩
  rw [Nat.add_sub_cancel] at h
  show L.getD j noVer = v
  rw [List.getD_eq_getElem?_getD, h]; rfl
theorem endF_of {k : ByteArray} {L : List Ver} {i : Nat} {v : Ver} {n : Int} {σ S : Hp} {δ} (h1 : before L i = v) (h2 : behindV L i = n) (hs : Sub S σ) : endF (fun u σ' => u = .tuple #[.agg (factOf k L i, (0 : Int)).1.cells.toArray, .int .i64 (factOf k L i, (0 : Int)).2] ∧ σ' = S) (.tuple #[.agg #[.string k, .bool v.has, .string v.data, .int .i64 v.n, .int .i64 n], .int .i64 0]) σ δ :=
  endF_det (by unfold factOf; rw [h1, h2]; rfl) hs
theorem StoreAt.fresh {σ : Hp} {g m : Nat} {S : St} (h : StoreAt σ g m S) {b : Nat} (hb : σ b = none) (o : Blk) : StoreAt (upd σ b o) g m S := by
  obtain ⟨h1, l, h2, h3⟩ := h
  refine ⟨?_, l, ?_, fun k => ?_⟩
  · rw [upd_ne _ _ (fun e => by rw [e, hb] at h1; cases h1)]; exact h1
  · rw [upd_ne _ _ (fun e => by rw [e, hb] at h2; cases h2)]; exact h2
  · obtain ⟨sv, e, hr⟩ := h3 k
    exact ⟨sv, e, hr.fresh hb o⟩
theorem read_bad {S : St} {k : ByteArray} {c : Int} (h : (!goodK k || decide (c < 0)) = true) : S.read k c = (noF, 1) := by unfold St.read; rw [h]; rfl
theorem read_ahead {S : St} {k : ByteArray} {c : Int} (h : (!goodK k || decide (c < 0)) = false) (h2 : decide (c > S.last) = true) : S.read k c = (noF, 21) := by unfold St.read; rw [h, h2]; rfl
theorem read_old {S : St} {k : ByteArray} {c : Int} (h : (!goodK k || decide (c < 0)) = false) (h2 : decide (c > S.last) = false) (h3 : decide (c < S.oldest k) = true) : S.read k c = (noF, 20) := by unfold St.read; rw [h, h2, h3]; rfl
theorem read_ok {S : St} {k : ByteArray} {c : Int} (h : (!goodK k || decide (c < 0)) = false) (h2 : decide (c > S.last) = false) (h3 : decide (c < S.oldest k) = false) : S.read k c = (factOf k (S.row k).list (place (S.row k).list c), 0) := by unfold St.read; rw [h, h2, h3]; rfl
set_option maxHeartbeats 4000000 in
set_option maxRecDepth 100000 in
theorem read12 {σ : Hp} {g m : Nat} {S : St} (hS : StoreAt σ g m S) (k : ByteArray) (c : Int) (hr : RowOk (S.row k)) :
    ACalls Try.prog 12 #[.pointer (some ⟨g, 0, none⟩), .string k, .int .i64 c] σ fun u σ' => u = .tuple #[.agg (S.read k c).1.cells.toArray, .int .i64 (S.read k c).2] ∧ σ' = σ := by
  have HS := Hid.mk hS
  obtain ⟨hcell, l, hm, hrep⟩ := hS
  obtain ⟨sv, hsv, hrow⟩ := hrep k
  obtain ⟨ra, rc, rfl⟩ := hrow.slice
  unfold noRow at hsv
  have hro := hrow.ro Ver.cells_len
  have hgm : ¬ g = m := fun e => by rw [e, hm] at hcell; cases hcell
  have hmg : ¬ m = g := fun e => hgm e.symm
  obtain ⟨τ, rfl⟩ := open_2 hcell hm hgm
  have HRO := Hid.mk (And.intro hro hr)
  clear hrep hcell hm hrow hro hr
  cases hk : goodK k
  · (refine acalls_F ok12 (by simp) ?_; unfold c12 r12)
    (repeat' (first | (simp +contextual -dsimp only [*, Ver.cells, Fct.cells, noF, ↓reduceIte, ↓evP, evQ, splice, Nat.reduceAdd, Nat.reduceEqDiff, Nat.reduceLeDiff, Nat.reduceMul, reduceCtorEq, Int.reduceLT, Int.reduceLE, Int.reduceGT, Int.reduceGE, Int.reduceEq, Int.reduceNeg]) | (refine condF_split (fun hc => ?_) (fun hc => ?_) <;> (try simp only [Bool.not_eq_true', Bool.not_eq_false', Bool.and_eq_true, Bool.or_eq_false_iff] at hc)) | refine callF_v (goodKey45 _ _) ?_ | refine ccallF_of (goodKey45 _ _) ?_ | refine gcallF_of (goodKey45 _ _) ?_ | refine vcallF_mk (by kernel_rfl) ?_ | refine vccallF_mk (by kernel_rfl) ?_ | (intro _; intros) | (refine And.intro ?_ ?_; focus (first | omega | ((repeat (first | exact Sub.refl _ | (refine Sub.drop ?_ ?_; focus (simp only [evN, *]; done)) | refine Sub.both ?_)); done) | (simp_all; done) | (simp_all; omega)))))
    rw [read_bad (by rw [hk]; rfl)]
    exact endF_det rfl (by (repeat (first | exact Sub.refl _ | (refine Sub.drop ?_ ?_; focus (simp only [evN, *]; done)) | refine Sub.both ?_)); done)
  · have hb0 : ∀ b, decide (c < 0) = b → (!goodK k || decide (c < 0)) = b := fun b h => by rw [hk, h]; rfl
    have HB := Hid.mk hb0
    clear hb0
    (refine acalls_F ok12 (by simp) ?_; unfold c12 r12)
    (repeat' (first | (simp +contextual -dsimp only [*, Ver.cells, Fct.cells, noF, ↓reduceIte, ↓evP, evQ, splice, Nat.reduceAdd, Nat.reduceEqDiff, Nat.reduceLeDiff, Nat.reduceMul, reduceCtorEq, Int.reduceLT, Int.reduceLE, Int.reduceGT, Int.reduceGE, Int.reduceEq, Int.reduceNeg]) | (refine condF_split (fun hc => ?_) (fun hc => ?_) <;> (try simp only [Bool.not_eq_true', Bool.not_eq_false', Bool.and_eq_true, Bool.or_eq_false_iff] at hc)) | refine callF_v (goodKey45 _ _) ?_ | refine ccallF_of (goodKey45 _ _) ?_ | refine gcallF_of (goodKey45 _ _) ?_ | refine vcallF_mk (by kernel_rfl) ?_ | refine vccallF_mk (by kernel_rfl) ?_ | (intro _; intros) | (refine And.intro ?_ ?_; focus (first | omega | ((repeat (first | exact Sub.refl _ | (refine Sub.drop ?_ ?_; focus (simp only [evN, *]; done)) | refine Sub.both ?_)); done) | (simp_all; done) | (simp_all; omega)))))
    · rw [read_bad (HB.out _ hc)]
      exact endF_det rfl (by (repeat (first | exact Sub.refl _ | (refine Sub.drop ?_ ?_; focus (simp only [evN, *]; done)) | refine Sub.both ?_)); done)
    have hlow := Hid.mk (HB.out _ hc)
    clear hc
    refine drawxF_of (Sub.refl _) ?_
    (repeat' (first | (simp +contextual -dsimp only [*, Ver.cells, Fct.cells, noF, ↓reduceIte, ↓evP, evQ, splice, Nat.reduceAdd, Nat.reduceEqDiff, Nat.reduceLeDiff, Nat.reduceMul, reduceCtorEq, Int.reduceLT, Int.reduceLE, Int.reduceGT, Int.reduceGE, Int.reduceEq, Int.reduceNeg]) | (refine condF_split (fun hc => ?_) (fun hc => ?_) <;> (try simp only [Bool.not_eq_true', Bool.not_eq_false', Bool.and_eq_true, Bool.or_eq_false_iff] at hc)) | refine vcallF_mk (by kernel_rfl) ?_ | refine vccallF_mk (by kernel_rfl) ?_ | (intro _; intros) | (refine And.intro ?_ ?_; focus (first | omega | ((repeat (first | exact Sub.refl _ | (refine Sub.drop ?_ ?_; focus (simp only [evN, *]; done)) | refine Sub.both ?_)); done) | (simp_all; done) | (simp_all; omega)))))
    · rw [read_ahead hlow.out hc]
      exact endF_det rfl (by (repeat (first | exact Sub.refl _ | (refine Sub.drop ?_ ?_; focus (simp only [evN, *]; done)) | refine Sub.both ?_)); done)
    rename_i x x1 x1' x2 x2' x0 y y1 y1' y2 y2' y3 y3' y0
    have hc0 := hlow
    have hc1 := Hid.mk hc
    clear hc
    refine drawxF_of (Sub.refl _) ?_
    (repeat' (first | (simp +contextual -dsimp only [*, Ver.cells, Fct.cells, noF, ↓reduceIte, ↓evP, evQ, splice, Nat.reduceAdd, Nat.reduceEqDiff, Nat.reduceLeDiff, Nat.reduceMul, reduceCtorEq, Int.reduceLT, Int.reduceLE, Int.reduceGT, Int.reduceGE, Int.reduceEq, Int.reduceNeg]) | (refine condF_split (fun hc => ?_) (fun hc => ?_) <;> (try simp only [Bool.not_eq_true', Bool.not_eq_false', Bool.and_eq_true, Bool.or_eq_false_iff] at hc)) | refine vcallF_mk (by kernel_rfl) ?_ | refine vccallF_mk (by kernel_rfl) ?_ | (intro _; intros) | (refine And.intro ?_ ?_; focus (first | omega | ((repeat (first | exact Sub.refl _ | (refine Sub.drop ?_ ?_; focus (simp only [evN, *]; done)) | refine Sub.both ?_)); done) | (simp_all; done) | (simp_all; omega)))))
    refine gcallF_of (oldest46 ((HS.out.fresh (b := x) (by first | assumption | exact (by simp only [evN, *]; done)) _).fresh (b := y) (by first | assumption | exact (by simp only [evN, *]; done)) _) k HRO.out.2.some) ?_
    (repeat' (first | (simp +contextual -dsimp only [*, Ver.cells, Fct.cells, noF, ↓reduceIte, ↓evP, evQ, splice, Nat.reduceAdd, Nat.reduceEqDiff, Nat.reduceLeDiff, Nat.reduceMul, reduceCtorEq, Int.reduceLT, Int.reduceLE, Int.reduceGT, Int.reduceGE, Int.reduceEq, Int.reduceNeg]) | (refine condF_split (fun hc => ?_) (fun hc => ?_) <;> (try simp only [Bool.not_eq_true', Bool.not_eq_false', Bool.and_eq_true, Bool.or_eq_false_iff] at hc)) | refine vcallF_mk (by kernel_rfl) ?_ | refine vccallF_mk (by kernel_rfl) ?_ | (intro _; intros) | (refine And.intro ?_ ?_; focus (first | omega | ((repeat (first | exact Sub.refl _ | (refine Sub.drop ?_ ?_; focus (simp only [evN, *]; done)) | refine Sub.both ?_)); done) | (simp_all; done) | (simp_all; omega)))))
    · rw [read_old hc0.out hc1.out hc]
      exact endF_det rfl (by (repeat (first | exact Sub.refl _ | (refine Sub.drop ?_ ?_; focus (simp only [evN, *]; done)) | refine Sub.both ?_)); done)
    have hc2 := Hid.mk hc
    clear hc
    rename_i z z1 z1' z2 z2' z3 z3' z4 z4' z0
    obtain ⟨L, hL⟩ : ∃ L, L = (S.row k).list := ⟨_, rfl⟩
    have hrow := HRO.out.1
    have hok := HRO.out.2
    rw [← hL] at hrow
    have hok : L.Pairwise (fun a b => a.n < b.n) ∧ L.length ≤ 1048576 := by rw [hL]; exact ⟨hok.sorted, hok.few⟩
    have hend : S.read k c = (factOf k L (place L c), 0) := by rw [hL]; exact read_ok hc0.out hc1.out hc2.out
    rw [hend]
    rw [← hL]
    clear HRO hc0 hc1 hc2 HB hlow hend hL hsv
    refine callF_v (search47 (x := z) (y := x) (A := ra) (c := rc) (l := L) (cc := c) (by first | (simp only [rd_ne, rd_same, rd_row, not_false_eq_true, List.getElem?_cons_zero, List.getElem?_cons_succ, *]; done) | (simp only [rd_ne, rd_same, rd_row, not_false_eq_true, List.getElem?_cons_zero, List.getElem?_cons_succ, *]; rfl)) (hrow.sub (by (repeat (first | exact Sub.refl _ | (refine Sub.drop ?_ ?_; focus (simp only [evN, *]; done)) | refine Sub.both ?_)); done)) (by first | (simp only [rd_ne, rd_same, rd_row, not_false_eq_true, List.getElem?_cons_zero, List.getElem?_cons_succ, *]; done) | (simp only [rd_ne, rd_same, rd_row, not_false_eq_true, List.getElem?_cons_zero, List.getElem?_cons_succ, *]; rfl)) hok.1 hok.2) ?_
    have hi := place_le L c
    have hro := hrow
    have HROW := Hid.mk hrow
    clear hrow
    obtain ⟨i, hie⟩ : ∃ i, i = place L c := ⟨_, rfl⟩
    rw [← hie] at hi
    rw [← hie]
    clear hie
    rcases Nat.lt_or_ge i L.length with hlt | hge
    · have hd : decide ((i : Int) < (L.length : Int)) = true := by simp; omega
      obtain ⟨v1, hv1⟩ : ∃ v, L[i]? = some v := ⟨_, List.getElem?_eq_getElem hlt⟩
      have hlt' : (i : Int) < (L.length : Int) := by omega
      obtain ⟨b, o, e, hr1⟩ := HROW.out.get hlt
      subst e
      rw [(List.getElem?_eq_some_iff.1 hv1).2] at hr1
      have hrd1 := Hid.mk (rd_later (rd_part hr1 0 (v := .int .i64 v1.n) rfl))
      rcases Nat.eq_zero_or_pos i with hi0 | hi0
      · have hz : decide ((i : Int) > 0) = false := by simp; omega
        have HI := Hid.mk hi0
        clear hi0 hr1 hro
        (repeat' (first | (simp +contextual -dsimp only [*, Ver.cells, Fct.cells, noF, ↓reduceIte, ↓evP, evQ, splice, Nat.reduceAdd, Nat.reduceEqDiff, Nat.reduceLeDiff, Nat.reduceMul, reduceCtorEq, Int.reduceLT, Int.reduceLE, Int.reduceGT, Int.reduceGE, Int.reduceEq, Int.reduceNeg]) | (refine condF_split (fun hc => ?_) (fun hc => ?_) <;> (try simp only [Bool.not_eq_true', Bool.not_eq_false', Bool.and_eq_true, Bool.or_eq_false_iff] at hc)) | refine vcallF_mk (by kernel_rfl) ?_ | refine vccallF_mk (by kernel_rfl) ?_ | (intro _; intros) | (refine And.intro ?_ ?_; focus (first | omega | ((repeat (first | exact Sub.refl _ | (refine Sub.drop ?_ ?_; focus (simp only [evN, *]; done)) | refine Sub.both ?_)); done) | (simp_all; done) | (simp_all; omega)))))
        rw [← Nat.add_zero (o + i * 3), hrd1.out _ (by (repeat (first | exact Sub.refl _ | (refine Sub.drop ?_ ?_; focus (simp only [evN, *]; done)) | refine Sub.both ?_)); done)]
        (repeat' (first | (simp +contextual -dsimp only [*, Ver.cells, Fct.cells, noF, ↓reduceIte, ↓evP, evQ, splice, Nat.reduceAdd, Nat.reduceEqDiff, Nat.reduceLeDiff, Nat.reduceMul, reduceCtorEq, Int.reduceLT, Int.reduceLE, Int.reduceGT, Int.reduceGE, Int.reduceEq, Int.reduceNeg]) | (refine condF_split (fun hc => ?_) (fun hc => ?_) <;> (try simp only [Bool.not_eq_true', Bool.not_eq_false', Bool.and_eq_true, Bool.or_eq_false_iff] at hc)) | refine vcallF_mk (by kernel_rfl) ?_ | refine vccallF_mk (by kernel_rfl) ?_ | (intro _; intros) | (refine And.intro ?_ ?_; focus (first | omega | ((repeat (first | exact Sub.refl _ | (refine Sub.drop ?_ ?_; focus (simp only [evN, *]; done)) | refine Sub.both ?_)); done) | (simp_all; done) | (simp_all; omega)))))
        exact endF_of (v := noVer) (by rw [HI.out]; rfl) (by unfold behindV; rw [hv1]) (by (repeat (first | exact Sub.refl _ | (refine Sub.drop ?_ ?_; focus (simp only [evN, *]; done)) | refine Sub.both ?_)); done)
      · have hz : decide ((i : Int) > 0) = true := by simp; omega
        have em : IntKind.i64.wrap ((i : Int) - 1) = ((i - 1 : Nat) : Int) := by rw [wi64 (by omega)]; omega
        obtain ⟨v0, hv0⟩ : ∃ v, L[i - 1]? = some v := ⟨_, List.getElem?_eq_getElem (by omega)⟩
        obtain ⟨b', o', e, hr0⟩ := HROW.out.get (i := i - 1) (by omega)
        cases e
        rw [(List.getElem?_eq_some_iff.1 hv0).2] at hr0
        have hrd0 := Hid.mk (rd_later (rd_part hr0 0 (v := .int .i64 v0.n) rfl))
        have hrn0 := Hid.mk (rdn_later (rdn_part hr0 1 2 (by omega)))
        have hlt0 : ((i - 1 : Nat) : Int) < (L.length : Int) := by omega
        clear hr1 hr0 hro
        (repeat' (first | (simp +contextual -dsimp only [*, Ver.cells, Fct.cells, noF, ↓reduceIte, ↓evP, evQ, splice, Nat.reduceAdd, Nat.reduceEqDiff, Nat.reduceLeDiff, Nat.reduceMul, reduceCtorEq, Int.reduceLT, Int.reduceLE, Int.reduceGT, Int.reduceGE, Int.reduceEq, Int.reduceNeg]) | (refine condF_split (fun hc => ?_) (fun hc => ?_) <;> (try simp only [Bool.not_eq_true', Bool.not_eq_false', Bool.and_eq_true, Bool.or_eq_false_iff] at hc)) | refine vcallF_mk (by kernel_rfl) ?_ | refine vccallF_mk (by kernel_rfl) ?_ | (intro _; intros) | (refine And.intro ?_ ?_; focus (first | omega | ((repeat (first | exact Sub.refl _ | (refine Sub.drop ?_ ?_; focus (simp only [evN, *]; done)) | refine Sub.both ?_)); done) | (simp_all; done) | (simp_all; omega)))))
        rw [← Nat.add_zero (o + i * 3), hrd1.out _ (by (repeat (first | exact Sub.refl _ | (refine Sub.drop ?_ ?_; focus (simp only [evN, *]; done)) | refine Sub.both ?_)); done)]
        (repeat' (first | (simp +contextual -dsimp only [*, Ver.cells, Fct.cells, noF, ↓reduceIte, ↓evP, evQ, splice, Nat.reduceAdd, Nat.reduceEqDiff, Nat.reduceLeDiff, Nat.reduceMul, reduceCtorEq, Int.reduceLT, Int.reduceLE, Int.reduceGT, Int.reduceGE, Int.reduceEq, Int.reduceNeg]) | (refine condF_split (fun hc => ?_) (fun hc => ?_) <;> (try simp only [Bool.not_eq_true', Bool.not_eq_false', Bool.and_eq_true, Bool.or_eq_false_iff] at hc)) | refine vcallF_mk (by kernel_rfl) ?_ | refine vccallF_mk (by kernel_rfl) ?_ | (intro _; intros) | (refine And.intro ?_ ?_; focus (first | omega | ((repeat (first | exact Sub.refl _ | (refine Sub.drop ?_ ?_; focus (simp only [evN, *]; done)) | refine Sub.both ?_)); done) | (simp_all; done) | (simp_all; omega)))))
        rename_i w w1 w1' w2 w2' w3 w3' w4 w4' w5 w5' w0
        refine drawxF_of (Sub.drop (by first | assumption | exact (by simp only [evN, *]; done)) (Sub.refl _)) ?_
        (repeat' (first | (simp +contextual -dsimp only [*, Ver.cells, Fct.cells, noF, ↓reduceIte, ↓evP, evQ, splice, Nat.reduceAdd, Nat.reduceEqDiff, Nat.reduceLeDiff, Nat.reduceMul, reduceCtorEq, Int.reduceLT, Int.reduceLE, Int.reduceGT, Int.reduceGE, Int.reduceEq, Int.reduceNeg]) | (refine condF_split (fun hc => ?_) (fun hc => ?_) <;> (try simp only [Bool.not_eq_true', Bool.not_eq_false', Bool.and_eq_true, Bool.or_eq_false_iff] at hc)) | refine vcallF_mk (by kernel_rfl) ?_ | refine vccallF_mk (by kernel_rfl) ?_ | (intro _; intros) | (refine And.intro ?_ ?_; focus (first | omega | ((repeat (first | exact Sub.refl _ | (refine Sub.drop ?_ ?_; focus (simp only [evN, *]; done)) | refine Sub.both ?_)); done) | (simp_all; done) | (simp_all; omega)))))
        rw [← Nat.add_zero (o + (i - 1) * 3), hrd0.out _ (by (repeat (first | exact Sub.refl _ | (refine Sub.drop ?_ ?_; focus (simp only [evN, *]; done)) | refine Sub.both ?_)); done)]
        (repeat' (first | (simp +contextual -dsimp only [*, Ver.cells, Fct.cells, noF, ↓reduceIte, ↓evP, evQ, splice, Nat.reduceAdd, Nat.reduceEqDiff, Nat.reduceLeDiff, Nat.reduceMul, reduceCtorEq, Int.reduceLT, Int.reduceLE, Int.reduceGT, Int.reduceGE, Int.reduceEq, Int.reduceNeg]) | (refine condF_split (fun hc => ?_) (fun hc => ?_) <;> (try simp only [Bool.not_eq_true', Bool.not_eq_false', Bool.and_eq_true, Bool.or_eq_false_iff] at hc)) | refine vcallF_mk (by kernel_rfl) ?_ | refine vccallF_mk (by kernel_rfl) ?_ | (intro _; intros) | (refine And.intro ?_ ?_; focus (first | omega | ((repeat (first | exact Sub.refl _ | (refine Sub.drop ?_ ?_; focus (simp only [evN, *]; done)) | refine Sub.both ?_)); done) | (simp_all; done) | (simp_all; omega)))))
        rw [hrn0.out _ (by (repeat (first | exact Sub.refl _ | (refine Sub.drop ?_ ?_; focus (simp only [evN, *]; done)) | refine Sub.both ?_)); done)]
        (repeat' (first | (simp +contextual -dsimp only [*, Ver.cells, Fct.cells, noF, ↓reduceIte, ↓evP, evQ, splice, Nat.reduceAdd, Nat.reduceEqDiff, Nat.reduceLeDiff, Nat.reduceMul, reduceCtorEq, Int.reduceLT, Int.reduceLE, Int.reduceGT, Int.reduceGE, Int.reduceEq, Int.reduceNeg]) | (refine condF_split (fun hc => ?_) (fun hc => ?_) <;> (try simp only [Bool.not_eq_true', Bool.not_eq_false', Bool.and_eq_true, Bool.or_eq_false_iff] at hc)) | refine vcallF_mk (by kernel_rfl) ?_ | refine vccallF_mk (by kernel_rfl) ?_ | (intro _; intros) | (refine And.intro ?_ ?_; focus (first | omega | ((repeat (first | exact Sub.refl _ | (refine Sub.drop ?_ ?_; focus (simp only [evN, *]; done)) | refine Sub.both ?_)); done) | (simp_all; done) | (simp_all; omega)))))
        exact endF_of (v := v0) (before_pos hi0 hv0) (by unfold behindV; rw [hv1]) (by (repeat (first | exact Sub.refl _ | (refine Sub.drop ?_ ?_; focus (simp only [evN, *]; done)) | refine Sub.both ?_)); done)
    · have hd : decide ((i : Int) < (L.length : Int)) = false := by simp; omega
      have hv1 : L[i]? = none := List.getElem?_eq_none hge
      rcases Nat.eq_zero_or_pos i with hi0 | hi0
      · have hz : decide ((i : Int) > 0) = false := by simp; omega
        have HI := Hid.mk hi0
        clear hi0 hro
        (repeat' (first | (simp +contextual -dsimp only [*, Ver.cells, Fct.cells, noF, ↓reduceIte, ↓evP, evQ, splice, Nat.reduceAdd, Nat.reduceEqDiff, Nat.reduceLeDiff, Nat.reduceMul, reduceCtorEq, Int.reduceLT, Int.reduceLE, Int.reduceGT, Int.reduceGE, Int.reduceEq, Int.reduceNeg]) | (refine condF_split (fun hc => ?_) (fun hc => ?_) <;> (try simp only [Bool.not_eq_true', Bool.not_eq_false', Bool.and_eq_true, Bool.or_eq_false_iff] at hc)) | refine vcallF_mk (by kernel_rfl) ?_ | refine vccallF_mk (by kernel_rfl) ?_ | (intro _; intros) | (refine And.intro ?_ ?_; focus (first | omega | ((repeat (first | exact Sub.refl _ | (refine Sub.drop ?_ ?_; focus (simp only [evN, *]; done)) | refine Sub.both ?_)); done) | (simp_all; done) | (simp_all; omega)))))
        exact endF_of (v := noVer) (by rw [HI.out]; rfl) (by unfold behindV; rw [hv1]) (by (repeat (first | exact Sub.refl _ | (refine Sub.drop ?_ ?_; focus (simp only [evN, *]; done)) | refine Sub.both ?_)); done)
      · have hz : decide ((i : Int) > 0) = true := by simp; omega
        have em : IntKind.i64.wrap ((i : Int) - 1) = ((i - 1 : Nat) : Int) := by rw [wi64 (by omega)]; omega
        obtain ⟨v0, hv0⟩ : ∃ v, L[i - 1]? = some v := ⟨_, List.getElem?_eq_getElem (by omega)⟩
        obtain ⟨b, o, e, hr0⟩ := HROW.out.get (i := i - 1) (by omega)
        subst e
        rw [(List.getElem?_eq_some_iff.1 hv0).2] at hr0
        have hrd0 := Hid.mk (rd_later (rd_part hr0 0 (v := .int .i64 v0.n) rfl))
        have hrn0 := Hid.mk (rdn_later (rdn_part hr0 1 2 (by omega)))
        have hlt0 : ((i - 1 : Nat) : Int) < (L.length : Int) := by omega
        clear hr0 hro
        (repeat' (first | (simp +contextual -dsimp only [*, Ver.cells, Fct.cells, noF, ↓reduceIte, ↓evP, evQ, splice, Nat.reduceAdd, Nat.reduceEqDiff, Nat.reduceLeDiff, Nat.reduceMul, reduceCtorEq, Int.reduceLT, Int.reduceLE, Int.reduceGT, Int.reduceGE, Int.reduceEq, Int.reduceNeg]) | (refine condF_split (fun hc => ?_) (fun hc => ?_) <;> (try simp only [Bool.not_eq_true', Bool.not_eq_false', Bool.and_eq_true, Bool.or_eq_false_iff] at hc)) | refine vcallF_mk (by kernel_rfl) ?_ | refine vccallF_mk (by kernel_rfl) ?_ | (intro _; intros) | (refine And.intro ?_ ?_; focus (first | omega | ((repeat (first | exact Sub.refl _ | (refine Sub.drop ?_ ?_; focus (simp only [evN, *]; done)) | refine Sub.both ?_)); done) | (simp_all; done) | (simp_all; omega)))))
        rename_i w w1 w1' w2 w2' w3 w3' w4 w4' w5 w5' w0
        refine drawxF_of (Sub.drop (by first | assumption | exact (by simp only [evN, *]; done)) (Sub.refl _)) ?_
        (repeat' (first | (simp +contextual -dsimp only [*, Ver.cells, Fct.cells, noF, ↓reduceIte, ↓evP, evQ, splice, Nat.reduceAdd, Nat.reduceEqDiff, Nat.reduceLeDiff, Nat.reduceMul, reduceCtorEq, Int.reduceLT, Int.reduceLE, Int.reduceGT, Int.reduceGE, Int.reduceEq, Int.reduceNeg]) | (refine condF_split (fun hc => ?_) (fun hc => ?_) <;> (try simp only [Bool.not_eq_true', Bool.not_eq_false', Bool.and_eq_true, Bool.or_eq_false_iff] at hc)) | refine vcallF_mk (by kernel_rfl) ?_ | refine vccallF_mk (by kernel_rfl) ?_ | (intro _; intros) | (refine And.intro ?_ ?_; focus (first | omega | ((repeat (first | exact Sub.refl _ | (refine Sub.drop ?_ ?_; focus (simp only [evN, *]; done)) | refine Sub.both ?_)); done) | (simp_all; done) | (simp_all; omega)))))
        rw [← Nat.add_zero (o + (i - 1) * 3), hrd0.out _ (by (repeat (first | exact Sub.refl _ | (refine Sub.drop ?_ ?_; focus (simp only [evN, *]; done)) | refine Sub.both ?_)); done)]
        (repeat' (first | (simp +contextual -dsimp only [*, Ver.cells, Fct.cells, noF, ↓reduceIte, ↓evP, evQ, splice, Nat.reduceAdd, Nat.reduceEqDiff, Nat.reduceLeDiff, Nat.reduceMul, reduceCtorEq, Int.reduceLT, Int.reduceLE, Int.reduceGT, Int.reduceGE, Int.reduceEq, Int.reduceNeg]) | (refine condF_split (fun hc => ?_) (fun hc => ?_) <;> (try simp only [Bool.not_eq_true', Bool.not_eq_false', Bool.and_eq_true, Bool.or_eq_false_iff] at hc)) | refine vcallF_mk (by kernel_rfl) ?_ | refine vccallF_mk (by kernel_rfl) ?_ | (intro _; intros) | (refine And.intro ?_ ?_; focus (first | omega | ((repeat (first | exact Sub.refl _ | (refine Sub.drop ?_ ?_; focus (simp only [evN, *]; done)) | refine Sub.both ?_)); done) | (simp_all; done) | (simp_all; omega)))))
        rw [hrn0.out _ (by (repeat (first | exact Sub.refl _ | (refine Sub.drop ?_ ?_; focus (simp only [evN, *]; done)) | refine Sub.both ?_)); done)]
        (repeat' (first | (simp +contextual -dsimp only [*, Ver.cells, Fct.cells, noF, ↓reduceIte, ↓evP, evQ, splice, Nat.reduceAdd, Nat.reduceEqDiff, Nat.reduceLeDiff, Nat.reduceMul, reduceCtorEq, Int.reduceLT, Int.reduceLE, Int.reduceGT, Int.reduceGE, Int.reduceEq, Int.reduceNeg]) | (refine condF_split (fun hc => ?_) (fun hc => ?_) <;> (try simp only [Bool.not_eq_true', Bool.not_eq_false', Bool.and_eq_true, Bool.or_eq_false_iff] at hc)) | refine vcallF_mk (by kernel_rfl) ?_ | refine vccallF_mk (by kernel_rfl) ?_ | (intro _; intros) | (refine And.intro ?_ ?_; focus (first | omega | ((repeat (first | exact Sub.refl _ | (refine Sub.drop ?_ ?_; focus (simp only [evN, *]; done)) | refine Sub.both ?_)); done) | (simp_all; done) | (simp_all; omega)))))
        exact endF_of (v := v0) (before_pos hi0 hv0) (by unfold behindV; rw [hv1]) (by (repeat (first | exact Sub.refl _ | (refine Sub.drop ?_ ?_; focus (simp only [evN, *]; done)) | refine Sub.both ?_)); done)
end Go.Proofs.Ytpnghjmphbhkjaa
