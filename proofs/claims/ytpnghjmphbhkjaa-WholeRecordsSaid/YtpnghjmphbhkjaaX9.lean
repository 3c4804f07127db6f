/- The stream: First. -/
import Derived.Test.YtpnghjmphbhkjaaX8
namespace Go.Proofs.Ytpnghjmphbhkjaa
open Go.Sp
set_option linter.unusedSimpArgs false
set_option linter.unusedVariables false
/-- The end of a slice from place i on. -/
theorem _root_.Go.Sp.sll_at (sz b o n c i : Nat) (h : i ≤ n) (hc : i < c) : lf (.sll sz) [.slice (some ⟨b, o, none⟩) n c, .int .i64 i] = some (.slice (some ⟨b, o + i * sz, none⟩) (n - i) (c - i)) := by
  rw [lf_sll_eq _ _ _ _ _ _ (by omega)]
  unfold sliced
  rw [Int.toNat_natCast, if_neg (by omega)]
  simp only [Option.map_some, Addr.add]
  by_cases e : i * sz = 0
  · rw [if_pos e, e]; rfl
  · rw [if_neg e]
/-- What First answers. -/
def firstV (H : List (List ByteArray)) (k : ByteArray) (a : Nat) : Int × Bool := if posH (H.drop a) k < 0 then (0, false) else (a + posH (H.drop a) k + 1, true)
theorem posH_le (H : List (List ByteArray)) (k : ByteArray) : -1 ≤ posH H k ∧ posH H k < max H.length 1 := by
  unfold posH
  cases h : H.findIdx? (fun l => hasK l k) with
  | none => show (-1 : Int) ≤ -1 ∧ (-1 : Int) < _; omega
  | some i =>
    rw [List.findIdx?_eq_some_iff_getElem] at h
    obtain ⟨hi, _⟩ := h
    show (-1 : Int) ≤ i ∧ (i : Int) < _
    omega
set_option maxHeartbeats 1000000 in
theorem first14 {σ : Hp} {g : Nat} {v : Value} {H : List (List ByteArray)} (hL : LogAt σ g v H) (k : ByteArray) (a : Nat) (hH : H.length < 1048576) :
    ACalls Try.prog 14 #[.pointer (some ⟨g, 0, none⟩), .string k, .int .i64 a] σ fun u σ' => u = .tuple #[.int .i64 (firstV H k a).1, .bool (firstV H k a).2] ∧ σ' = σ := by
  obtain ⟨A, cap, hv⟩ : ∃ A c, v = .slice A H.length c := by obtain ⟨vs, h, e, _⟩ := hL.rows; rw [← e]; exact h.slice
  rcases Nat.lt_or_ge a H.length with hlt | hge
  · have HL := Hid.mk hL
    obtain ⟨vs, hrow, hvl, _⟩ := hL.rows
    have hcell := hL.cell
    subst hv
    have HN := Hid.mk hvl
    rcases hrow with ⟨_, hnil⟩ | ⟨b, c, hbv, hcap, hb⟩
    · rw [hnil] at hvl; simp at hvl; omega
    injection hbv with e1 e2 e3
    subst e1; subst e3
    clear hvl hL e2
    have HB := Hid.mk hb
    clear hb
    have hd : decide ((a : Int) ≥ (H.length : Int)) = false := by simp; omega
    have hmx : mxI (a : Int) 0 = a := by unfold mxI; split <;> omega
    have hle : (0 : Int) ≤ (a : Int) ∧ (a : Int) ≤ (H.length : Int) := by omega
    have hrd : rd σ g 0 = some (.slice (some ⟨b, 0, none⟩) H.length cap) := by unfold rd; rw [hcell]; rfl
    have hn : ∀ y, σ y = none → ¬ g = y := fun y hy e => by rw [e, hy] at hcell; cases hcell
    have hsl : lf (.sll 1) [.slice (some ⟨b, 0, none⟩) H.length cap, .int .i64 a] = some (.slice (some ⟨b, a, none⟩) (H.drop a).length (cap - a)) := by
      rw [sll_at 1 b 0 H.length cap a (by omega) (by have := HN.out; omega), List.length_drop, Nat.zero_add, Nat.mul_one]
    (refine acalls_F ok14 (by simp) ?_; unfold c14 r14)
    (repeat' (first | (simp +contextual -dsimp only [*, ↓reduceIte, ↓evP, evQ, splice, Nat.reduceAdd, Nat.reduceEqDiff, Nat.reduceLeDiff, Nat.reduceMul, reduceCtorEq, Int.reduceLT, Int.reduceLE, Int.reduceGT, Int.reduceGE, Int.reduceEq, Int.reduceNeg]) | (refine condF_split (fun hc => ?_) (fun hc => ?_) <;> (try simp only [Bool.not_eq_true', Bool.not_eq_false', Bool.and_eq_true, Bool.or_eq_false_iff] at hc)) | refine vcallF_mk (by kernel_rfl) ?_ | refine vccallF_mk (by kernel_rfl) ?_ | (intro _; intros) | (refine And.intro ?_ ?_; focus (first | omega | ((repeat (first | exact Sub.refl _ | (refine Sub.drop ?_ ?_; focus (simp only [evN, *]; done)) | refine Sub.both ?_)); done) | (simp_all; done) | (simp_all; omega)))))
    rename_i d d0
    refine callF_v (last13 (n := H.length) (c := cap) (a := some ⟨b, 0, none⟩) (by rw [rd_ne _ _ _ (hn d d0)]; exact hrd)) ?_
    have hgd := hn d d0
    have hbd : ¬ b = d := fun e => by have := HB.out; rw [e, d0] at this; cases this
    have hrow : ∀ (i : Nat) l, (H.drop a)[i]? = some l → ∃ x, rd (upd σ d (.cells [.string k] 9)) b (a + i * 1) = some x ∧ RowsAt 9 1 sC (upd σ d (.cells [.string k] 9)) x l ∧ l.length < 4611686018427387904 := by
      intro i l hl
      rw [List.getElem?_drop] at hl
      obtain ⟨vs', h1, h2, h3⟩ := HL.out.rows
      have e : vs' = vs := by
        rcases h1 with ⟨e, _⟩ | ⟨_, _, e, _, hbb⟩
        · cases e
        · injection e with e1 e2 e3
          injection e1 with e1; injection e1 with e1
          subst e1
          rw [HB.out] at hbb
          have := (Blk.row.inj (Option.some.inj hbb)).1
          unfold vC at this
          simpa using this.symm
      subst e
      have hi : a + i < vs'.length := by rw [h2]; exact (List.getElem?_eq_some_iff.1 hl).1
      obtain ⟨h4, h5, h6⟩ := h3 (a + i) _ l (List.getElem?_eq_getElem hi) hl
      refine ⟨vs'[a + i], ?_, h4.fresh d0 _, by omega⟩
      rw [rd_ne _ _ _ hbd]
      unfold rd; rw [HB.out]
      show (vs'.flatMap vC)[a + i * 1]? = _
      have := get_flat vC_len (List.getElem?_eq_getElem hi) 0 (by omega)
      rw [Nat.add_zero, Nat.mul_one] at this
      rw [Nat.mul_one, this]; rfl
    have q := indexFunc49 (g := d) (k := k) (c := cap - a) hrow (by rw [List.length_drop]; omega) (by rw [rd_same]; rfl)
    clear hrow
    (repeat' (first | (simp +contextual -dsimp only [*, ↓reduceIte, ↓evP, evQ, splice, Nat.reduceAdd, Nat.reduceEqDiff, Nat.reduceLeDiff, Nat.reduceMul, reduceCtorEq, Int.reduceLT, Int.reduceLE, Int.reduceGT, Int.reduceGE, Int.reduceEq, Int.reduceNeg]) | (refine condF_split (fun hc => ?_) (fun hc => ?_) <;> (try simp only [Bool.not_eq_true', Bool.not_eq_false', Bool.and_eq_true, Bool.or_eq_false_iff] at hc)) | refine callF_v (q) ?_ | refine ccallF_of (q) ?_ | refine gcallF_of (q) ?_ | refine vcallF_mk (by kernel_rfl) ?_ | refine vccallF_mk (by kernel_rfl) ?_ | (intro _; intros) | (refine And.intro ?_ ?_; focus (first | omega | ((repeat (first | exact Sub.refl _ | (refine Sub.drop ?_ ?_; focus (simp only [evN, *]; done)) | refine Sub.both ?_)); done) | (simp_all; done) | (simp_all; omega)))))
    · have h2 : firstV H k a = (0, false) := by unfold firstV; rw [if_pos (of_decide_eq_true hc)]
      rw [h2]
      exact endF_det rfl (Sub.drop d0 (Sub.refl _))
    · have h2 : firstV H k a = (a + posH (H.drop a) k + 1, true) := by unfold firstV; rw [if_neg (of_decide_eq_false hc)]
      have h3 := posH_le (H.drop a) k
      rw [List.length_drop] at h3
      rw [h2]
      refine endF_det ?_ (Sub.drop d0 (Sub.refl _))
      rw [wi64 (by rw [wi64 (by omega)]; omega), wi64 (by omega)]
  · have h1 : H.drop a = [] := List.drop_eq_nil_of_le hge
    have h2 : firstV H k a = (0, false) := by unfold firstV; rw [h1]; rfl
    rw [h2]
    exact first14x (n := H.length) (c := cap) (A := A) (by unfold rd; rw [hL.cell, hv]; rfl) (by omega)
end Go.Proofs.Ytpnghjmphbhkjaa
