/- Store and stream: what is good; a key's last place. -/
import Derived.Test.YtpnghjmphbhkjaaSpL
import Derived.Test.YtpnghjmphbhkjaaXT1
namespace Go.Proofs.Ytpnghjmphbhkjaa
open Go.Sp
set_option linter.unusedSimpArgs false
set_option linter.unusedVariables false
theorem wi64 {x : Int} (h : -9223372036854775808 ≤ x ∧ x ≤ 9223372036854775807) : IntKind.i64.wrap x = x := IntWalk.i64_in x (by omega)
/-- A write. -/
structure Wr where
  key : ByteArray
  has : Bool
  data : ByteArray
def Wr.cells (w : Wr) : List Value := [.string w.key, .bool w.has, .string w.data]
theorem Wr.cells_len (w : Wr) : w.cells.length = 3 := rfl
def goodK (k : ByteArray) : Bool := decide (1 ≤ k.size) && decide (k.size ≤ 32)
def goodW (w : Wr) : Bool := goodK w.key && decide (w.data.size ≤ 256) && (w.has || decide (w.data = ⟨#[]⟩))
theorem goodKey45 (k : ByteArray) (σ : Hp) : ACalls Try.prog 45 #[.string k] σ fun u σ' => u = .bool (goodK k) ∧ σ' = σ := by
  (refine acalls_F ok45 (by simp) ?_; unfold c45 r45)
  (repeat' (first | (simp +contextual -dsimp only [*, ↓reduceIte, ↓evP, evQ, splice, Nat.reduceAdd, Nat.reduceEqDiff, Nat.reduceLeDiff, Nat.reduceMul, reduceCtorEq, Int.reduceLT, Int.reduceLE, Int.reduceGT, Int.reduceGE, Int.reduceEq, Int.reduceNeg]) | (refine condF_split (fun hc => ?_) (fun hc => ?_) <;> (try simp only [Bool.not_eq_true', Bool.not_eq_false', Bool.and_eq_true, Bool.or_eq_false_iff] at hc)) | (intro _; intros) | (refine And.intro ?_ ?_; focus (first | omega | ((repeat (first | exact Sub.refl _ | (refine Sub.drop ?_ ?_; focus (simp only [evN, *]; done)) | refine Sub.both ?_)); done) | (simp_all; done) | (simp_all; omega)))))
  all_goals (refine endF_det ?_ ?_; (focus ((try simp only [goodK, cond_true, cond_false, *]) <;> ((try simp only [decide_eq_true_eq, decide_eq_false_iff_not] at *) <;> first | rfl | (simp [goodK]; done) | (simp_all [goodK]; done) | (simp [goodK]; omega) | (simp [goodK]; (rw [Bool.eq_iff_iff]); simp; omega) | (simp_all [goodK] <;> omega) | ((try unfold goodK); (rw [Value.bool.injEq, Bool.eq_iff_iff]); simp <;> omega) | ((try unfold goodK); (repeat' split) <;> simp_all <;> omega) | (simp_all [goodK] <;> (repeat' split) <;> simp_all <;> omega)))); (focus ((try simp only [goodK, cond_true, cond_false, set_same, *]); exact (by (repeat (first | exact Sub.refl _ | (refine Sub.drop ?_ ?_; focus (simp only [evN, *]; done)) | refine Sub.both ?_)); done))))
theorem goodWrite74 (w : Wr) (σ : Hp) : ACalls Try.prog 74 #[.agg w.cells.toArray] σ fun u σ' => u = .bool (goodW w) ∧ σ' = σ := by
  obtain ⟨k, h, d⟩ := w
  cases h <;> cases hk : goodK k
  all_goals ((refine acalls_F ok74 (by simp) ?_; unfold c74 r74; simp +contextual -dsimp only [↓reduceIte, ↓evP, evQ, splice, Nat.reduceAdd, Nat.reduceEqDiff, Nat.reduceLeDiff, Nat.reduceMul, reduceCtorEq, Int.reduceLT, Int.reduceLE, Int.reduceGT, Int.reduceGE, Int.reduceEq, Int.reduceNeg]))
  all_goals (unfold Wr.cells; simp +contextual -dsimp only [*, ↓reduceIte, ↓evP, evQ, splice, Nat.reduceAdd, Nat.reduceEqDiff, Nat.reduceLeDiff, Nat.reduceMul, reduceCtorEq, Int.reduceLT, Int.reduceLE, Int.reduceGT, Int.reduceGE, Int.reduceEq, Int.reduceNeg])
  all_goals (repeat' (first | (simp +contextual -dsimp only [*, ↓reduceIte, ↓evP, evQ, splice, Nat.reduceAdd, Nat.reduceEqDiff, Nat.reduceLeDiff, Nat.reduceMul, reduceCtorEq, Int.reduceLT, Int.reduceLE, Int.reduceGT, Int.reduceGE, Int.reduceEq, Int.reduceNeg]) | (refine condF_split (fun hc => ?_) (fun hc => ?_) <;> (try simp only [Bool.not_eq_true', Bool.not_eq_false', Bool.and_eq_true, Bool.or_eq_false_iff] at hc)) | refine callF_v (goodKey45 _ _) ?_ | refine ccallF_of (goodKey45 _ _) ?_ | refine gcallF_of (goodKey45 _ _) ?_ | (intro _; intros) | (refine And.intro ?_ ?_; focus (first | omega | ((repeat (first | exact Sub.refl _ | (refine Sub.drop ?_ ?_; focus (simp only [evN, *]; done)) | refine Sub.both ?_)); done) | (simp_all; done) | (simp_all; omega)))))
  all_goals (refine endF_det ?_ ?_; (focus ((try simp only [goodW, cond_true, cond_false, *]) <;> ((try simp only [decide_eq_true_eq, decide_eq_false_iff_not] at *) <;> first | rfl | (simp [goodW]; done) | (simp_all [goodW]; done) | (simp [goodW]; omega) | (simp [goodW]; (rw [Bool.eq_iff_iff]); simp; omega) | (simp_all [goodW] <;> omega) | ((try unfold goodW); (rw [Value.bool.injEq, Bool.eq_iff_iff]); simp <;> omega) | ((try unfold goodW); (repeat' split) <;> simp_all <;> omega) | (simp_all [goodW] <;> (repeat' split) <;> simp_all <;> omega)))); (focus ((try simp only [goodW, cond_true, cond_false, set_same, *]); exact (by (repeat (first | exact Sub.refl _ | (refine Sub.drop ?_ ?_; focus (simp only [evN, *]; done)) | refine Sub.both ?_)); done))))
/-- The first place of a key in a list of keys. -/
def sC (k : ByteArray) : List Value := [.string k]
theorem sC_len (k : ByteArray) : (sC k).length = 1 := rfl
def pos (l : List ByteArray) (k : ByteArray) : Int := match l.findIdx? (fun x => decide (k = x)) with | some i => i | none => -1
end Go.Proofs.Ytpnghjmphbhkjaa
