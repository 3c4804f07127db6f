/- The store: the check of a commit's writes. -/
import Derived.Test.YtpnghjmphbhkjaaX10
namespace Go.Proofs.Ytpnghjmphbhkjaa
open Go.Sp
set_option linter.unusedSimpArgs false
set_option linter.unusedVariables false
def chk : List Wr → Nat → List (ByteArray × Value) → Bool → Int
  | [], _, _, tw => cond tw 22 0
  | w :: r, i, l, tw => cond (goodW w) (chk r (i + 1) (mput l w.key (.int .i64 i)) (tw || (mget l w.key).isSome)) 1
def checkV (ws : List Wr) : Int := cond (decide ((ws.length : Int) = 0) || decide ((ws.length : Int) > 8)) 1 (chk ws 0 [] false)
theorem check41 {σ : Hp} {v : Value} {ws : List Wr} (hv : RoRows 3 Wr.cells σ v ws) (hn : ws.length ≤ 140737488355328) : ACalls Try.prog 41 #[v] σ fun u σ' => u = .int .i64 (checkV ws) ∧ σ' = σ := by
  obtain ⟨A, c, rfl, hrow⟩ := hv
  have H := Hid.mk hrow
  clear hrow
  (refine acalls_F ok41 (by simp) ?_; unfold c41 r41)
  (repeat' (first | (simp +contextual -dsimp only [*, Wr.cells, ↓reduceIte, ↓evP, evQ, splice, Nat.reduceAdd, Nat.reduceEqDiff, Nat.reduceLeDiff, Nat.reduceMul, reduceCtorEq, Int.reduceLT, Int.reduceLE, Int.reduceGT, Int.reduceGE, Int.reduceEq, Int.reduceNeg]) | (refine condF_split (fun hc => ?_) (fun hc => ?_) <;> (try simp only [Bool.not_eq_true', Bool.not_eq_false', Bool.and_eq_true, Bool.or_eq_false_iff] at hc)) | (intro _; intros) | (refine And.intro ?_ ?_; focus (first | omega | ((repeat (first | exact Sub.refl _ | (refine Sub.drop ?_ ?_; focus (simp only [evN, *]; done)) | refine Sub.both ?_)); done) | (simp_all; done) | (simp_all; omega)))))
  · exact endF_det (by unfold checkV; rw [hc]; rfl) (Sub.refl _)
  · rename_i h1; exact endF_det (by unfold checkV; rw [h1, hc]; rfl) (Sub.refl _)
  rename_i m hm
  have hck : checkV ws = chk ws 0 [] false := by unfold checkV; rw [‹decide ((ws.length : Int) = 0) = false›, ‹decide ((ws.length : Int) > 8) = false›]; rfl
  rw [hck]
  refine loopF_of (fun k s σ' => ∃ (i : Nat) (l : List (ByteArray × Value)) (tw : Bool), i ≤ ws.length ∧ k = ws.length - i ∧ s 20 = .int .i64 i ∧ s 19 = .int .i64 ws.length ∧ s 18 = .slice A ws.length c ∧ s 3 = .map (some m) ∧ s 4 = .bool tw ∧ σ' = upd σ m (.mp l) ∧
    chk (ws.drop i) i l tw = chk ws 0 [] false) ws.length (Sub.refl _) ⟨0, [], false, by omega, rfl, (by first | rfl | (simp only [↓putO_get, ↓putO_no, init_zero, init_succ, Nat.reduceEqDiff, ↓reduceIte, *]; done) | (simp only [↓putO_get, ↓putO_no, init_zero, init_succ, Nat.reduceEqDiff, ↓reduceIte, *]; rfl)), (by first | rfl | (simp only [↓putO_get, ↓putO_no, init_zero, init_succ, Nat.reduceEqDiff, ↓reduceIte, *]; done) | (simp only [↓putO_get, ↓putO_no, init_zero, init_succ, Nat.reduceEqDiff, ↓reduceIte, *]; rfl)), (by first | rfl | (simp only [↓putO_get, ↓putO_no, init_zero, init_succ, Nat.reduceEqDiff, ↓reduceIte, *]; done) | (simp only [↓putO_get, ↓putO_no, init_zero, init_succ, Nat.reduceEqDiff, ↓reduceIte, *]; rfl)), (by first | rfl | (simp only [↓putO_get, ↓putO_no, init_zero, init_succ, Nat.reduceEqDiff, ↓reduceIte, *]; done) | (simp only [↓putO_get, ↓putO_no, init_zero, init_succ, Nat.reduceEqDiff, ↓reduceIte, *]; rfl)), (by first | rfl | (simp only [↓putO_get, ↓putO_no, init_zero, init_succ, Nat.reduceEqDiff, ↓reduceIte, *]; done) | (simp only [↓putO_get, ↓putO_no, init_zero, init_succ, Nat.reduceEqDiff, ↓reduceIte, *]; rfl)), rfl, rfl⟩ ?_
  rintro k s σ' ⟨i, l, tw, hi, hk, h20, h19, h18, h3, h4, rfl, hc⟩
  rcases Nat.lt_or_ge i ws.length with hlt | hge
  · obtain ⟨w, ho⟩ : ∃ w, ws[i]? = some w := ⟨_, List.getElem?_eq_getElem hlt⟩
    obtain ⟨b, off, rfl, hrd⟩ := H.out i w ho
    have hrd := rdn_sub (Sub.drop (o := .mp l) hm (Sub.refl _)) hrd
    have hd : decide ((i : Int) < (ws.length : Int)) = true := by simp; omega
    have hdrop : ws.drop i = w :: ws.drop (i + 1) := by
      rw [List.drop_eq_getElem_cons hlt]
      rw [List.getElem?_eq_getElem hlt] at ho
      cases ho; rfl
    rw [hdrop] at hc
    have HC := Hid.mk hc
    have HK := Hid.mk hck
    clear ho hc hck hdrop H
    (repeat' (first | (simp +contextual -dsimp only [*, Wr.cells, ↓reduceIte, ↓evP, evQ, splice, Nat.reduceAdd, Nat.reduceEqDiff, Nat.reduceLeDiff, Nat.reduceMul, reduceCtorEq, Int.reduceLT, Int.reduceLE, Int.reduceGT, Int.reduceGE, Int.reduceEq, Int.reduceNeg]) | (refine condF_split (fun hc => ?_) (fun hc => ?_) <;> (try simp only [Bool.not_eq_true', Bool.not_eq_false', Bool.and_eq_true, Bool.or_eq_false_iff] at hc)) | refine callF_v (goodWrite74 _ _) ?_ | refine ccallF_of (goodWrite74 _ _) ?_ | refine gcallF_of (goodWrite74 _ _) ?_ | (intro _; intros) | (refine And.intro ?_ ?_; focus (first | omega | ((repeat (first | exact Sub.refl _ | (refine Sub.drop ?_ ?_; focus (simp only [evN, *]; done)) | refine Sub.both ?_)); done) | (simp_all; done) | (simp_all; omega)))))
    · have hg' := Hid.mk (show goodW w = false by assumption)
      refine endF_det ?_ ?_
      · rw [← HC.out]; unfold chk; rw [hg'.out]; rfl
      · refine Sub.drop ?_ (Sub.drop hm (Sub.refl _)); assumption
    · have hg' := Hid.mk (show goodW w = true by assumption)
      have htw' := Hid.mk (show tw = true by assumption)
      refine nextF_of (σ₁ := upd σ m (.mp (mput l w.key (.int .i64 i)))) (ws.length - (i + 1)) (by omega) (by (repeat (first | exact Sub.refl _ | (refine Sub.drop ?_ ?_; focus (simp only [evN, *]; done)) | refine Sub.both ?_)); done) ⟨i + 1, _, true, by omega, rfl, ?_, (by first | rfl | (simp only [↓putO_get, ↓putO_no, init_zero, init_succ, Nat.reduceEqDiff, ↓reduceIte, *]; done) | (simp only [↓putO_get, ↓putO_no, init_zero, init_succ, Nat.reduceEqDiff, ↓reduceIte, *]; rfl)), (by first | rfl | (simp only [↓putO_get, ↓putO_no, init_zero, init_succ, Nat.reduceEqDiff, ↓reduceIte, *]; done) | (simp only [↓putO_get, ↓putO_no, init_zero, init_succ, Nat.reduceEqDiff, ↓reduceIte, *]; rfl)), (by first | rfl | (simp only [↓putO_get, ↓putO_no, init_zero, init_succ, Nat.reduceEqDiff, ↓reduceIte, *]; done) | (simp only [↓putO_get, ↓putO_no, init_zero, init_succ, Nat.reduceEqDiff, ↓reduceIte, *]; rfl)), (by first | rfl | (simp only [↓putO_get, ↓putO_no, init_zero, init_succ, Nat.reduceEqDiff, ↓reduceIte, *]; done) | (simp only [↓putO_get, ↓putO_no, init_zero, init_succ, Nat.reduceEqDiff, ↓reduceIte, *]; rfl)), rfl, ?_⟩
      · show Value.int .i64 (IntKind.i64.wrap _) = _; rw [wi64 (by omega)]; rfl
      · rw [← HC.out]; conv => rhs; unfold chk
        rw [hg'.out, htw'.out]; rfl
    · have hg' := Hid.mk (show goodW w = true by assumption)
      have htw' := Hid.mk (show tw = false by assumption)
      refine nextF_of (σ₁ := upd σ m (.mp (mput l w.key (.int .i64 i)))) (ws.length - (i + 1)) (by omega) (by (repeat (first | exact Sub.refl _ | (refine Sub.drop ?_ ?_; focus (simp only [evN, *]; done)) | refine Sub.both ?_)); done) ⟨i + 1, _, (mget l w.key).isSome, by omega, rfl, ?_, (by first | rfl | (simp only [↓putO_get, ↓putO_no, init_zero, init_succ, Nat.reduceEqDiff, ↓reduceIte, *]; done) | (simp only [↓putO_get, ↓putO_no, init_zero, init_succ, Nat.reduceEqDiff, ↓reduceIte, *]; rfl)), (by first | rfl | (simp only [↓putO_get, ↓putO_no, init_zero, init_succ, Nat.reduceEqDiff, ↓reduceIte, *]; done) | (simp only [↓putO_get, ↓putO_no, init_zero, init_succ, Nat.reduceEqDiff, ↓reduceIte, *]; rfl)), (by first | rfl | (simp only [↓putO_get, ↓putO_no, init_zero, init_succ, Nat.reduceEqDiff, ↓reduceIte, *]; done) | (simp only [↓putO_get, ↓putO_no, init_zero, init_succ, Nat.reduceEqDiff, ↓reduceIte, *]; rfl)), (by first | rfl | (simp only [↓putO_get, ↓putO_no, init_zero, init_succ, Nat.reduceEqDiff, ↓reduceIte, *]; done) | (simp only [↓putO_get, ↓putO_no, init_zero, init_succ, Nat.reduceEqDiff, ↓reduceIte, *]; rfl)), rfl, ?_⟩
      · show Value.int .i64 (IntKind.i64.wrap _) = _; rw [wi64 (by omega)]; rfl
      · rw [← HC.out]; conv => rhs; unfold chk
        rw [hg'.out, htw'.out]; rfl
  · have hd : decide ((i : Int) < (ws.length : Int)) = false := by simp; omega
    have hdrop : ws.drop i = [] := List.drop_eq_nil_of_le hge
    rw [hdrop] at hc
    have HC := Hid.mk hc
    clear hc hck
    cases tw
    all_goals simp +contextual -dsimp only [*, Wr.cells, ↓reduceIte, ↓evP, evQ, splice, Nat.reduceAdd, Nat.reduceEqDiff, Nat.reduceLeDiff, Nat.reduceMul, reduceCtorEq, Int.reduceLT, Int.reduceLE, Int.reduceGT, Int.reduceGE, Int.reduceEq, Int.reduceNeg]
    all_goals exact endF_det (by rw [← HC.out]; rfl) (Sub.drop hm (Sub.refl _))
theorem chk_twice : ∀ (ws : List Wr) (i : Nat) (l : List (ByteArray × Value)), chk ws i l true ≠ 0
  | [], i, l => by show (22 : Int) ≠ 0; decide
  | w :: r, i, l => by
    unfold chk
    cases goodW w
    · show (1 : Int) ≠ 0; decide
    · exact chk_twice r _ _
theorem chk_zero {w : Wr} {r : List Wr} {i : Nat} {l : List (ByteArray × Value)} (h : chk (w :: r) i l false = 0) : mget l w.key = none ∧ chk r (i + 1) (mput l w.key (.int .i64 i)) false = 0 := by
  unfold chk at h
  cases hg : goodW w <;> rw [hg] at h
  · exact absurd h (by show (1 : Int) ≠ 0; decide)
  · have h : chk r (i + 1) (mput l w.key (.int .i64 i)) (false || (mget l w.key).isSome) = 0 := h
    cases hm : mget l w.key with
    | none => rw [hm] at h; exact ⟨rfl, h⟩
    | some x => rw [hm] at h; exact absurd h (chk_twice _ _ _)
theorem mget_mput (k k' : ByteArray) (v : Value) : ∀ (l : List (ByteArray × Value)), (mget (mput l k v) k').isSome = (decide (k' = k) || (mget l k').isSome)
  | [] => by by_cases h : k' = k <;> simp [mput, mget, h]
  | p :: r => by
    have ih := mget_mput k k' v r
    unfold mput
    by_cases h : k = p.1
    · rw [if_pos h]
      unfold mget
      by_cases h' : k' = k
      · rw [if_pos h', if_pos (h'.trans h)]; simp
      · rw [if_neg h', if_neg (fun e => h' (e.trans h.symm))]; simp [h']
    · rw [if_neg h]
      unfold mget
      by_cases h' : k' = p.1
      · rw [if_pos h', if_pos h']; simp
      · rw [if_neg h', if_neg h']; exact ih
theorem chk_good : ∀ (ws : List Wr) (i : Nat) (l : List (ByteArray × Value)), chk ws i l false = 0 → (∀ w ∈ ws, goodW w = true ∧ mget l w.key = none) ∧ (keysOf ws).Nodup
  | [], _, _, _ => ⟨(fun w h => by cases h), List.Pairwise.nil⟩
  | w :: r, i, l, h => by
    have hg : goodW w = true := by
      unfold chk at h
      cases hg : goodW w with
      | true => rfl
      | false => rw [hg] at h; exact absurd h (by show (1 : Int) ≠ 0; decide)
    obtain ⟨h1, h2⟩ := chk_zero h
    obtain ⟨h3, h4⟩ := chk_good r _ _ h2
    refine ⟨fun x hx => ?_, List.nodup_cons.2 ⟨fun hm => ?_, h4⟩⟩
    · rcases List.mem_cons.1 hx with rfl | hx
      · exact ⟨hg, h1⟩
      · obtain ⟨a, b⟩ := h3 x hx
        refine ⟨a, ?_⟩
        have := mget_mput w.key x.key (.int .i64 i) l
        rw [b] at this
        cases hq : mget l x.key with
        | none => rfl
        | some y => rw [hq] at this; simp at this
    · obtain ⟨x, hx, e⟩ := List.mem_map.1 hm
      obtain ⟨_, b⟩ := h3 x hx
      have := mget_mput w.key x.key (.int .i64 i) l
      rw [b] at this
      have e : x.key = w.key := e
      simp [e] at this
/-- Writes that may be committed. -/
structure GoodWs (ws : List Wr) : Prop where
  some : ws ≠ []
  few : ws.length ≤ 8
  good : ∀ w ∈ ws, goodW w = true
  once : (keysOf ws).Nodup
theorem check_good {ws : List Wr} (h : checkV ws = 0) : GoodWs ws := by
  unfold checkV at h
  cases h1 : (decide ((ws.length : Int) = 0) || decide ((ws.length : Int) > 8)) <;> rw [h1] at h
  · obtain ⟨a, b⟩ := chk_good ws 0 [] h
    simp only [Bool.or_eq_false_iff, decide_eq_false_iff_not] at h1
    exact ⟨fun e => h1.1 (by rw [e]; rfl), by omega, fun w hw => (a w hw).1, b⟩
  · exact absurd h (by show (1 : Int) ≠ 0; decide)
theorem goodW_key {w : Wr} (h : goodW w = true) : goodS w.key = true := by
  unfold goodW goodK at h
  unfold goodS
  simp only [Bool.and_eq_true, decide_eq_true_eq, Bool.not_eq_true', decide_eq_false_iff_not] at h ⊢
  refine ⟨fun e => ?_, by omega⟩
  have := h.1.1.1
  rw [e] at this
  exact absurd this (by decide)
theorem GoodWs.keys {ws : List Wr} (h : GoodWs ws) : keysOf ws ≠ [] ∧ (keysOf ws).length ≤ 8 ∧ (∀ k ∈ keysOf ws, goodS k = true) ∧ (keysOf ws).Nodup := by
  refine ⟨fun e => h.some (List.map_eq_nil_iff.1 e), by unfold keysOf; rw [List.length_map]; exact h.few, fun k hk => ?_, h.once⟩
  obtain ⟨w, hw, rfl⟩ := List.mem_map.1 hk
  exact goodW_key (h.good w hw)
end Go.Proofs.Ytpnghjmphbhkjaa
