/- A history of commits: the versions of a key, cut to so many; whether a record has a key. -/
import Derived.Test.YtpnghjmphbhkjaaX2
namespace Go.Proofs.Ytpnghjmphbhkjaa
open Go.Sp
set_option linter.unusedSimpArgs false
set_option linter.unusedVariables false
structure Ver where
  n : Nat
  has : Bool
  data : ByteArray
def Ver.cells (v : Ver) : List Value := [.int .i64 v.n, .bool v.has, .string v.data]
theorem Ver.cells_len (v : Ver) : v.cells.length = 3 := rfl
/-- A key's versions that are kept, and whether some were dropped. -/
structure Row where
  list : List Ver
  dropped : Bool
def cut (m : Nat) (l : List Ver) : Row := if m < l.length then ⟨l.drop (l.length - m), true⟩ else ⟨l, false⟩
def Row.push (m : Nat) (v : Ver) (r : Row) : Row := if m < r.list.length + 1 then ⟨(r.list ++ [v]).drop (r.list.length + 1 - m), true⟩ else ⟨r.list ++ [v], r.dropped⟩
theorem push_cut {m : Nat} (v : Ver) (l : List Ver) : (cut m l).push m v = cut m (l ++ [v]) := by
  by_cases h : m < l.length
  · have e1 : cut m l = ⟨l.drop (l.length - m), true⟩ := if_pos h
    have e2 : cut m (l ++ [v]) = ⟨(l ++ [v]).drop ((l ++ [v]).length - m), true⟩ := if_pos (by simp; omega)
    rw [e1, e2]
    unfold Row.push
    simp only [List.length_drop]
    rw [if_pos (by omega)]
    have e : l.drop (l.length - m) ++ [v] = (l ++ [v]).drop (l.length - m) := by rw [List.drop_append_of_le_length (by omega)]
    rw [e, List.drop_drop]
    congr 2
    simp; omega
  · have e1 : cut m l = ⟨l, false⟩ := if_neg h
    rw [e1]
    unfold Row.push cut
    simp only [List.length_append, List.length_cons, List.length_nil, Nat.zero_add]
theorem cut_len (m : Nat) (l : List Ver) : (cut m l).list.length ≤ m := by
  unfold cut
  by_cases h : m < l.length
  · rw [if_pos h]; simp; omega
  · rw [if_neg h]; simp; omega
def Wr.ver (w : Wr) (n : Nat) : Ver := ⟨n, w.has, w.data⟩
def wrote (k : ByteArray) (ws : List Wr) : Option Wr := ws.find? (fun w => decide (w.key = k))
def wroteV (k : ByteArray) (ws : List Wr) (n : Nat) : List Ver := match wrote k ws with | some w => [w.ver n] | none => []
def versF : Nat → List (List Wr) → ByteArray → List Ver
  | _, [], _ => []
  | n, ws :: r, k => wroteV k ws n ++ versF (n + 1) r k
theorem versF_append (k : ByteArray) (ws : List Wr) : ∀ (H : List (List Wr)) (n : Nat), versF n (H ++ [ws]) k = versF n H k ++ wroteV k ws (n + H.length)
  | [], n => by simp [versF]
  | x :: r, n => by
    show wroteV k x n ++ versF (n + 1) (r ++ [ws]) k = (wroteV k x n ++ versF (n + 1) r k) ++ _
    rw [versF_append k ws r (n + 1), List.append_assoc, show n + 1 + r.length = n + (x :: r).length by simp; omega]
theorem mem_wroteV {k : ByteArray} {ws : List Wr} {n : Nat} {v : Ver} : v ∈ wroteV k ws n ↔ ∃ w, wrote k ws = some w ∧ v = w.ver n := by
  unfold wroteV
  cases h : wrote k ws with
  | none => simp
  | some w => simp
theorem mem_versF {k : ByteArray} {v : Ver} : ∀ {H : List (List Wr)} {n : Nat}, v ∈ versF n H k ↔ ∃ (i : Nat) (ws : List Wr) (w : Wr), H[i]? = some ws ∧ wrote k ws = some w ∧ v = w.ver (n + i)
  | [], n => by simp [versF]
  | x :: r, n => by
    show v ∈ wroteV k x n ++ versF (n + 1) r k ↔ _
    rw [List.mem_append, mem_wroteV, mem_versF]
    constructor
    · rintro (⟨w, h, e⟩ | ⟨i, ws, w, h1, h2, e⟩)
      · exact ⟨0, x, w, rfl, h, e⟩
      · exact ⟨i + 1, ws, w, by simpa using h1, h2, by rw [e]; congr 1; omega⟩
    · rintro ⟨i, ws, w, h1, h2, e⟩
      cases i with
      | zero => simp at h1; subst h1; exact .inl ⟨w, h2, e⟩
      | succ i => exact .inr ⟨i, ws, w, by simpa using h1, h2, by rw [e]; congr 1; omega⟩
theorem versF_ge {k : ByteArray} {v : Ver} {H : List (List Wr)} {n : Nat} (h : v ∈ versF n H k) : n ≤ v.n ∧ v.n < n + H.length := by
  obtain ⟨i, ws, w, h1, _, rfl⟩ := mem_versF.1 h
  have := (List.getElem?_eq_some_iff.1 h1).1
  exact ⟨by show n ≤ n + i; omega, by show n + i < _; omega⟩
theorem versF_sorted (k : ByteArray) : ∀ (H : List (List Wr)) (n : Nat), (versF n H k).Pairwise (fun a b => a.n < b.n)
  | [], n => List.Pairwise.nil
  | x :: r, n => by
    show (wroteV k x n ++ versF (n + 1) r k).Pairwise _
    rw [List.pairwise_append]
    refine ⟨?_, versF_sorted k r (n + 1), fun a ha b hb => ?_⟩
    · unfold wroteV
      cases wrote k x with
      | none => exact List.Pairwise.nil
      | some w => exact List.pairwise_singleton _ _
    · obtain ⟨w, _, rfl⟩ := mem_wroteV.1 ha
      have := versF_ge hb
      show n < b.n; omega
def vers (H : List (List Wr)) (k : ByteArray) : List Ver := versF 1 H k
def keysOf (ws : List Wr) : List ByteArray := ws.map Wr.key
theorem hasK_wrote (k : ByteArray) (ws : List Wr) : hasK (keysOf ws) k = (wrote k ws).isSome := by
  have h1 : hasK (keysOf ws) k = true ↔ ∃ w ∈ ws, w.key = k := by rw [hasK_iff]; simp [keysOf]
  have h2 : (wrote k ws).isSome = true ↔ ∃ w ∈ ws, w.key = k := by
    unfold wrote
    rw [List.find?_isSome]
    simp
  rw [Bool.eq_iff_iff, h1, h2]
/-- A store: how many versions it keeps, its last commit, each key's row. -/
structure St where
  most : Nat
  last : Nat
  row : ByteArray → Row
def stepW (m n : Nat) (R : ByteArray → Row) (w : Wr) : ByteArray → Row := fun k => if k = w.key then (R k).push m (w.ver n) else R k
def St.commit (S : St) (ws : List Wr) : St := ⟨S.most, S.last + 1, ws.foldl (stepW S.most (S.last + 1)) S.row⟩
def St.new (m : Nat) : St := ⟨m, 0, fun _ => ⟨[], false⟩⟩
def St.run (m : Nat) (H : List (List Wr)) : St := ⟨m, H.length, fun k => cut m (vers H k)⟩
theorem fold_step (m n : Nat) (k : ByteArray) : ∀ (ws : List Wr) (R : ByteArray → Row), (keysOf ws).Nodup → (ws.foldl (stepW m n) R) k = match wrote k ws with | some w => (R k).push m (w.ver n) | none => R k
  | [], R, _ => rfl
  | w :: r, R, h => by
    have hn : w.key ∉ keysOf r ∧ (keysOf r).Nodup := List.nodup_cons.1 h
    rw [List.foldl_cons, fold_step m n k r _ hn.2]
    by_cases e : w.key = k
    · have h1 : wrote k (w :: r) = some w := by unfold wrote; rw [List.find?_cons_of_pos (by simp [e])]
      have h2 : wrote k r = none := by
        unfold wrote; rw [List.find?_eq_none]
        intro x hx; simp only [decide_eq_true_eq]; intro e'
        exact hn.1 (by rw [e, ← e']; exact List.mem_map_of_mem hx)
      rw [h1, h2]
      show stepW m n R w k = _
      unfold stepW; rw [if_pos e.symm]
    · have h1 : wrote k (w :: r) = wrote k r := by unfold wrote; rw [List.find?_cons_of_neg (by simp [e])]
      have h2 : stepW m n R w k = R k := by unfold stepW; rw [if_neg (fun x => e x.symm)]
      rw [h1, h2]
theorem run_commit (m : Nat) (H : List (List Wr)) (ws : List Wr) (h : (keysOf ws).Nodup) : (St.run m H).commit ws = St.run m (H ++ [ws]) := by
  unfold St.commit St.run
  simp only [List.length_append, List.length_cons, List.length_nil, Nat.zero_add]
  congr 1
  funext k
  rw [fold_step _ _ _ _ _ h]
  unfold vers
  rw [versF_append]
  unfold wroteV
  cases hw : wrote k ws with
  | none => simp
  | some w => simp only; rw [push_cut, Nat.add_comm 1]
theorem new_run (m : Nat) : St.new m = St.run m [] := by
  unfold St.new St.run
  congr 1
/-- The first place of a key in a list of records. -/
def posH (H : List (List ByteArray)) (k : ByteArray) : Int := match H.findIdx? (fun l => hasK l k) with | some i => i | none => -1
theorem posH_some {H : List (List Wr)} {k : ByteArray} {c : Nat} {v : Ver} (h : (vers H k).find? (fun v => decide (c < v.n)) = some v) : posH ((H.map keysOf).drop c) k = (v.n : Int) - c - 1 ∧ c < v.n ∧ v ∈ vers H k := by
  have hm : v ∈ vers H k := List.mem_of_find?_eq_some h
  have hc : c < v.n := by have := List.find?_some h; simpa using this
  have hmin : ∀ u ∈ vers H k, c < u.n → v.n ≤ u.n := by
    obtain ⟨_, A, B, hAB, hA⟩ := List.find?_eq_some_iff_append.1 h
    intro u hu hcu
    rw [hAB] at hu
    rcases List.mem_append.1 hu with hu | hu
    · have := hA u hu; simp at this; omega
    · have hs := versF_sorted k H 1
      rw [show versF 1 H k = A ++ v :: B from hAB] at hs
      rcases List.mem_cons.1 hu with rfl | hu
      · exact Nat.le_refl _
      · exact Nat.le_of_lt ((List.pairwise_cons.1 (List.pairwise_append.1 hs).2.1).1 u hu)
  obtain ⟨i, ws, w, h1, h2, e⟩ := mem_versF.1 hm
  have hn : v.n = 1 + i := by rw [e]; rfl
  have hi := (List.getElem?_eq_some_iff.1 h1)
  obtain ⟨hi, hws⟩ := hi
  have key : ((H.map keysOf).drop c).findIdx? (fun l => hasK l k) = some (i - c) := by
    rw [List.findIdx?_eq_some_iff_getElem]
    refine ⟨by simp; omega, ?_, fun j hj => ?_⟩
    · rw [List.getElem_drop, List.getElem_map]
      have : H[c + (i - c)]'(by omega) = ws := by rw [← hws]; congr 1; omega
      rw [this, hasK_wrote, h2]; rfl
    · rw [List.getElem_drop, List.getElem_map, hasK_wrote]
      intro hsome
      obtain ⟨w', hw'⟩ := Option.isSome_iff_exists.1 hsome
      have hu : w'.ver (1 + (c + j)) ∈ vers H k := mem_versF.2 ⟨c + j, _, w', List.getElem?_eq_getElem (by omega), hw', rfl⟩
      have := hmin _ hu (by show c < 1 + (c + j); omega)
      have : v.n ≤ 1 + (c + j) := this
      omega
  refine ⟨?_, hc, hm⟩
  unfold posH; rw [key]; show ((i - c : Nat) : Int) = _; omega
theorem posH_none {H : List (List Wr)} {k : ByteArray} {c : Nat} (h : (vers H k).find? (fun v => decide (c < v.n)) = none) : posH ((H.map keysOf).drop c) k = -1 := by
  have key : ((H.map keysOf).drop c).findIdx? (fun l => hasK l k) = none := by
    rw [List.findIdx?_eq_none_iff]
    intro l hl
    obtain ⟨j, hj⟩ := List.getElem?_of_mem hl
    obtain ⟨hj, e⟩ := List.getElem?_eq_some_iff.1 hj
    rw [List.getElem_drop, List.getElem_map] at e
    rw [← e, hasK_wrote]
    cases hw : wrote k (H[c + j]'(by simp at hj; omega)) with
    | none => rfl
    | some w =>
      have hu : w.ver (1 + (c + j)) ∈ vers H k := mem_versF.2 ⟨c + j, _, w, List.getElem?_eq_getElem (by simp at hj; omega), hw, rfl⟩
      rw [List.find?_eq_none] at h
      have := h _ hu
      simp only [decide_eq_true_eq] at this
      exact absurd (show c < 1 + (c + j) by omega) this
  unfold posH; rw [key]
end Go.Proofs.Ytpnghjmphbhkjaa
