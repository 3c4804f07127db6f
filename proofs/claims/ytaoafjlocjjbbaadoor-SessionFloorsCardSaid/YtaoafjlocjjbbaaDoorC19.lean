/- A session over the rest of a heap: what its calls leave of both. -/
import Derived.Test.YtaoafjlocjjbbaaDoorC17
namespace Go.Proofs.YtaoafjlocjjbbaaDoor
open Go.Sp
set_option linter.unusedVariables false
theorem send15 {τ : Hp} {g : Nat} {S : SesS} {v w : Value} {ws : List Wr} (hg : τ g = none) (hv : RoRows 3 Wr.cells τ w ws) (hn : ws.length * 40 ≤ 140737488355328) (h : S.busy = false) (he : checkV ws = 0) (hs : decide (S.seq ≥ 2147483647) = false) :
    ACalls Tryd.prog 15 #[.pointer (some ⟨g, 0, none⟩), w] (upd τ g (.cells (S.cells v) 101)) fun u σ' => ∃ v1 v2 τ', u = .tuple #[.agg (S.sent.msg v2).toArray, .int .i64 0] ∧ σ' = upd τ' g (.cells (S.sent.cells v1) 101) ∧ τ' g = none ∧ RowsAt 37 3 Wr.cells τ' v1 ws ∧ RowsAt 37 3 Wr.cells τ' v2 ws ∧
      Same (fun _ => False) τ τ' ∧ New τ v1 ∧ New τ v2 ∧ blk v1 ≠ blk v2 :=
  (send15d (v := v) hg hv hn h he hs).mono fun u σ' ⟨v1, v2, h1, h2, h3, h4, h5, h6, h7, h8⟩ =>
    ⟨v1, v2, off σ' g, h1, off_upd h2, off_none _ _, h3.offs (h3.notCells h2), h4.offs (h4.notCells h2), off_same hg h5, h6, h7, h8⟩
theorem again17 {τ : Hp} {g : Nat} {S : SesS} {v : Value} {ws : List Wr} (hg : τ g = none) (hr : RowsAt 37 3 Wr.cells τ v ws) (hn : ws.length * 40 ≤ 140737488355328) (r : Int) (h : S.busy = true) (ht : decide (S.tries ≥ r) = false) :
    ACalls Tryd.prog 17 #[.pointer (some ⟨g, 0, none⟩), .int .i64 r] (upd τ g (.cells (S.cells v) 101)) fun u σ' => ∃ v' τ', u = .tuple #[.agg (S.msg v').toArray, .int .i64 0] ∧ σ' = upd τ' g (.cells (S.tried.cells v) 101) ∧ τ' g = none ∧ RowsAt 37 3 Wr.cells τ' v' ws ∧ Same (fun _ => False) τ τ' ∧ New τ v' :=
  (again17c (upd_same _ _ _) (hr.fresh hg _) hn r h ht).mono fun u σ' ⟨v', σ1, h1, h2, h3, h4⟩ => by
    subst h2
    rw [set_same] at h4
    have e := h4.1.at (upd_same _ _ _) (fun x => x)
    exact ⟨v', off σ' g, h1, off_upd e, off_none _ _, h3.offs (New.ne h4.2), off_same hg (Same.unUpd hg h4.1), New.unUpd h4.2⟩
end Go.Proofs.YtaoafjlocjjbbaaDoor
