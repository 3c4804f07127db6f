/- Each key stands in just one list of Spread, that of its node, and there is such a node. No condition but the form's own: no key and no list takes more than 2^47 - 4096 bytes. -/
import Derived.Test.YthgfgbligkchiaaPRouteRangesx2
import Derived.Test.YthgfgbligkchiaaHashPlain
namespace Go.Proofs.Ythgfgbligkchiaa.Pure
open Go.RowKit Go.Proofs.Ythgfgbligkchiaa.PRouteRanges Go.Proofs.Ythgfgbligkchiaa.Plain Go.Proofs.YthgfgbligkchiaaW.PrintWords Go.Proofs.YthgfgbligkchiaaW.PrintLast
set_option linter.unusedVariables false

theorem fixed20 : vouchlaw14_fixed.f 20 = some true := by kernel_rfl
theorem fixed_at (k : Nat) (hk : 20 ≤ k) : vouchlaw14_fixed.f k = some true := at_rounds (fun j => vouchlaw14_fixed.mono j) hk fixed20

/-- The number of the bytes from i on, begun with h. -/
def hashOn (s : ByteArray) (h : Int) : Nat → Int → Int
  | 0, _ => h
  | d + 1, i => hashOn s (hstep h (bt s i)) d (i + 1)
def hashOf (s : ByteArray) : Int := hashOn s 14695981039346656037 s.size 0
theorem hashOn_range (s : ByteArray) (d : Nat) : ∀ (h i : Int), 0 ≤ h → h < 18446744073709551616 → 0 ≤ hashOn s h d i ∧ hashOn s h d i < 18446744073709551616 := by
  induction d with
  | zero => intro h i h0 h1; exact ⟨h0, h1⟩
  | succ d ih =>
    intro h i _ _
    exact ih _ _ (hstep_range h (bt s i)).1 (hstep_range h (bt s i)).2
theorem hashOf_range (s : ByteArray) : 0 ≤ hashOf s ∧ hashOf s < 18446744073709551616 := by
  unfold hashOf
  exact hashOn_range s _ _ _ (by decide) (by decide)
theorem wrap_head {i : Int} {n : Nat} (h0 : 0 ≤ i) (h : i < (n : Int)) (hn : n ≤ 9223372036854775807) : wrap64 (i + 1) = i + 1 := by
  unfold wrap64
  omega
theorem hash_l0 (s : ByteArray) (hn : s.size ≤ 9223372036854775807) (d : Nat) : ∀ (k : Nat) (h i : Int), 0 ≤ i → (s.size : Int) - i = d → d < k → route_Hash.l0 k s h (s.size : Int) i = some (hashOn s h d i) := by
  induction d with
  | zero =>
    intro k h i h0 hd hk
    obtain ⟨k, rfl⟩ : ∃ m, k = m + 1 := ⟨k - 1, by omega⟩
    simp only [route_Hash.l0]
    rw [if_neg (by omega)]
    rfl
  | succ d ih =>
    intro k h i h0 hd hk
    obtain ⟨k, rfl⟩ : ∃ m, k = m + 1 := ⟨k - 1, by omega⟩
    have hlt : i < (s.size : Int) := by omega
    simp only [route_Hash.l0]
    rw [if_pos hlt, if_pos h0, if_pos hlt, wrap_head h0 hlt hn]
    exact ih k (hstep h (bt s i)) (i + 1) (by omega) (by omega) (by omega)
theorem hash_f (s : ByteArray) (hn : s.size ≤ 9223372036854775807) (k : Nat) (hk : s.size < k) : route_Hash.f k s = some (hashOf s) := by
  unfold route_Hash.f hashOf
  exact hash_l0 s hn s.size k _ 0 (by decide) (by omega) hk
theorem to_f (s : ByteArray) (hn : s.size ≤ 9223372036854775807) (k : Nat) (hk : s.size < k) (n : Int) : route_To.f k s n = some (if n < 1 then -1 else if n > 8 then -1 else wrap64 (Int.tmod (hashOf s) (IntKind.u64.wrap n))) := by
  unfold route_To.f
  by_cases c1 : n < 1
  · rw [if_pos c1, if_pos c1]
  · rw [if_neg c1, if_neg c1]
    by_cases c2 : n > 8
    · rw [if_pos c2, if_pos c2]
    · rw [if_neg c2, if_neg c2, hash_f s hn k hk]
      simp only [Option.bind_some]
      rw [if_neg (by rw [IntKind.wrap_u64]; omega)]
def toOf (s : ByteArray) (n : Int) : Int := if n < 1 then -1 else if n > 8 then -1 else wrap64 (Int.tmod (hashOf s) (IntKind.u64.wrap n))
theorem toOf_range (s : ByteArray) (n : Int) (h1 : 1 ≤ n) (h8 : n ≤ 8) : 0 ≤ toOf s n ∧ toOf s n < n := by
  unfold toOf
  rw [if_neg (by omega), if_neg (by omega)]
  exact rest_range _ n (hashOf_range s).1 h1 h8
theorem to_ev (s : ByteArray) (hs : s.size ≤ 140737488351232) (n : Int) : Ev (fun k => route_To.f k s n) (toOf s n) := ⟨s.size + 1, fun k hk => to_f s (by omega) k (by omega) n⟩
/-- The keys of node j, in their order. -/
def sel (n : Int) (keys : List ByteArray) (j : Nat) : List ByteArray := keys.filter (fun s => decide (toOf s n = (j : Int)))
def spr (n : Int) (keys : List ByteArray) : List (List ByteArray) := (List.range n.toNat).map (sel n keys)
theorem spr_length (n : Int) (keys : List ByteArray) : (spr n keys).length = n.toNat := by simp [spr]
theorem spr_get (n : Int) (keys : List ByteArray) (j : Nat) (h : j < (spr n keys).length) : (spr n keys)[j] = sel n keys j := by simp [spr]
theorem spr_rd (n : Int) (keys : List ByteArray) (t : Int) (h0 : 0 ≤ t) (h : t < n) : rd_L1 (spr n keys) t = sel n keys t.toNat := by
  have hl : t.toNat < (spr n keys).length := by rw [spr_length]; omega
  unfold rd_L1
  rw [List.getD_eq_getElem?_getD, List.getElem?_eq_getElem hl, spr_get]
  rfl
theorem sel_snoc (n : Int) (l : List ByteArray) (s : ByteArray) (j : Nat) : sel n (l ++ [s]) j = if toOf s n = (j : Int) then sel n l j ++ [s] else sel n l j := by
  unfold sel
  rw [List.filter_append]
  by_cases h : toOf s n = (j : Int) <;> simp [h]
theorem sel_length (n : Int) (l : List ByteArray) (j : Nat) : (sel n l j).length ≤ l.length := List.length_filter_le _ _
theorem spr_set (n : Int) (l : List ByteArray) (s : ByteArray) (h1 : 1 ≤ n) (h8 : n ≤ 8) : (spr n l).set (toOf s n).toNat (rd_L1 (spr n l) (toOf s n) ++ [s]) = spr n (l ++ [s]) := by
  have hr := toOf_range s n h1 h8
  apply List.ext_getElem
  · simp [spr_length]
  · intro j ha hb
    have er := spr_rd n l _ hr.1 hr.2
    rw [List.getElem_set, spr_get n (l ++ [s]), sel_snoc]
    by_cases e : (toOf s n).toNat = j
    · rw [if_pos e, if_pos (by omega), er, e]
    · rw [if_neg e, if_neg (by omega), spr_get]
theorem spr_nil (n : Int) : spr n [] = List.replicate n.toNat [] := by
  apply List.ext_getElem
  · simp [spr_length]
  · intro j ha hb
    rw [spr_get]
    simp [sel]
theorem rdOf_at (keys : List ByteArray) (i : Nat) (h : i < keys.length) : rdOf ByteArray.empty keys (i : Int) = keys[i] := by
  unfold rdOf
  rw [Int.toNat_natCast, List.getD_eq_getElem?_getD, List.getElem?_eq_getElem h]
  rfl
theorem wrap_nat (i n : Nat) (h : i < n) (hn : n ≤ 9223372036854775807) : wrap64 ((i : Int) + 1) = ((i + 1 : Nat) : Int) := by
  unfold wrap64
  omega
section
variable (keys : List ByteArray) (n : Int) (hl : keys.length * 16 ≤ 140737488351232) (hk : ∀ s ∈ keys, s.size ≤ 140737488351232)
include hl hk
theorem spread_l0 (h1 : 1 ≤ n) (h8 : n ≤ 8) (d : Nat) : ∀ i : Nat, i ≤ keys.length → keys.length - i = d → Ev (fun k => route_Spread.l0 k n (spr n (keys.take i)) keys (keys.length : Int) (i : Int)) (spr n keys) := by
  induction d with
  | zero =>
    intro i hi hd
    obtain rfl : i = keys.length := by omega
    refine Ev.step (f := fun _ => some (spr n keys)) (fun k => ?_) (Ev.now _)
    simp only [route_Spread.l0]
    rw [if_neg (by omega), List.take_length]
  | succ d ih =>
    intro i hi hd
    have hlt : i < keys.length := by omega
    have hr := toOf_range keys[i] n h1 h8
    have hs := hk keys[i] (List.getElem_mem hlt)
    obtain ⟨K1, e1⟩ := to_ev keys[i] hs n
    dsimp only at e1
    obtain ⟨K2, e2⟩ := ih (i + 1) (by omega) (by omega)
    dsimp only at e2
    refine ⟨max K1 K2 + 1, fun k hk2 => ?_⟩
    dsimp only
    obtain ⟨k, rfl⟩ : ∃ m, k = m + 1 := ⟨k - 1, by omega⟩
    simp only [route_Spread.l0]
    rw [if_pos (by omega), if_pos (by omega), if_pos (by omega), rdOf_at keys i hlt, wrap_nat i keys.length hlt (by omega), e1 k (by omega)]
    simp only [Option.bind_some]
    rw [if_pos hr.1, if_pos (by rw [spr_length]; omega), spr_rd n _ _ hr.1 hr.2, if_pos (by have := sel_length n (keys.take i) (toOf keys[i] n).toNat; have := List.length_take_le i keys; omega), ← spr_rd n _ _ hr.1 hr.2, spr_set n _ _ h1 h8, ← List.take_succ_eq_append_getElem hlt]
    exact e2 k (by omega)
theorem spread_f : Ev (fun k => route_Spread.f k keys n) (if n < 1 then [] else if n > 8 then [] else spr n keys) := by
  by_cases c1 : n < 1
  · refine ⟨1, fun k hk => ?_⟩
    dsimp only
    obtain ⟨k, rfl⟩ : ∃ m, k = m + 1 := ⟨k - 1, by omega⟩
    unfold route_Spread.f
    rw [if_pos c1, if_pos c1]
    simp only [route_Spread.j0]
    simp
  · by_cases c2 : n > 8
    · refine ⟨1, fun k hk => ?_⟩
      dsimp only
      obtain ⟨k, rfl⟩ : ∃ m, k = m + 1 := ⟨k - 1, by omega⟩
      unfold route_Spread.f
      rw [if_neg c1, if_neg c1, if_pos c2]
      simp only [route_Spread.j0]
      simp [c2]
    · obtain ⟨K, e⟩ := spread_l0 keys n hl hk (by omega) (by omega) keys.length 0 (by omega) (by omega)
      refine ⟨K + 1, fun k hk => ?_⟩
      dsimp only
      obtain ⟨k, rfl⟩ : ∃ m, k = m + 1 := ⟨k - 1, by omega⟩
      unfold route_Spread.f
      rw [if_neg c1, if_neg c1, if_neg c2]
      simp only [route_Spread.j0]
      rw [if_neg (by simp [c2]), if_pos (by omega), if_pos (by omega), ← spr_nil]
      exact e k (by omega)
end
theorem mod8 (a : Int) (h0 : 0 ≤ a) (h1 : a ≤ 255) : wrap64 (Int.tmod (wrap64 a) 8 + 1) = a % 8 + 1 := by
  have e : wrap64 a = a := by unfold wrap64; omega
  rw [e, Int.tmod_eq_emod_of_nonneg h0]
  unfold wrap64
  omega
/-- How many keys the nodes below j have. -/
def total (n : Int) (keys : List ByteArray) : Nat → Nat
  | 0 => 0
  | j + 1 => total n keys j + (sel n keys j).length
theorem total_nil (n : Int) : ∀ j, total n [] j = 0
  | 0 => rfl
  | j + 1 => by simp [total, total_nil n j, sel]
theorem total_snoc (n : Int) (l : List ByteArray) (s : ByteArray) (h0 : 0 ≤ toOf s n) : ∀ j : Nat, total n (l ++ [s]) j = total n l j + if toOf s n < (j : Int) then 1 else 0
  | 0 => by
    rw [if_neg (by omega)]
    rfl
  | j + 1 => by
    simp only [total]
    rw [total_snoc n l s h0 j, sel_snoc]
    by_cases c : toOf s n = (j : Int)
    · rw [if_pos c, if_neg (by omega), if_pos (by omega)]
      simp
      omega
    · rw [if_neg c]
      by_cases c2 : toOf s n < (j : Int)
      · rw [if_pos c2, if_pos (by omega)]
        omega
      · rw [if_neg c2, if_neg (by omega)]
        omega
theorem total_all (n : Int) (h1 : 1 ≤ n) (h8 : n ≤ 8) (keys : List ByteArray) : total n keys n.toNat = keys.length := by
  have key : ∀ m : Nat, m ≤ keys.length → total n (keys.take m) n.toNat = m := by
    intro m
    induction m with
    | zero => intro _; rw [List.take_zero, total_nil]
    | succ m ih =>
      intro hm
      have hr := toOf_range keys[m] n h1 h8
      rw [List.take_succ_eq_append_getElem (by omega), total_snoc n _ _ hr.1, ih (by omega), if_pos (by omega)]
  have := key keys.length (Nat.le_refl _)
  rwa [List.take_length] at this
theorem total_le (n : Int) (keys : List ByteArray) (j : Nat) : total n keys j ≤ j * keys.length := by
  induction j with
  | zero => simp [total]
  | succ j ih =>
    have := sel_length n keys j
    simp only [total]
    rw [Nat.add_mul]
    omega
section
variable (keys : List ByteArray) (n : Int) (hl : keys.length * 16 ≤ 140737488351232) (hk : ∀ s ∈ keys, s.size ≤ 140737488351232)
include hl hk
theorem last (h1 : 1 ≤ n) (h8 : n ≤ 8) (d : Nat) : ∀ i : Nat, i ≤ keys.length → keys.length - i = d → Ev (fun k => vouchlaw14_RouteRanges.l2 k keys n (keys.length : Int) (i : Int)) true := by
  induction d with
  | zero =>
    intro i hi hd
    refine Ev.step (f := fun _ => some true) (fun k => ?_) (Ev.now _)
    simp only [vouchlaw14_RouteRanges.l2]
    rw [if_neg (by omega)]
    simp
  | succ d ih =>
    intro i hi hd
    have hlt : i < keys.length := by omega
    have hr := toOf_range keys[i] n h1 h8
    obtain ⟨K1, e1⟩ := to_ev keys[i] (hk keys[i] (List.getElem_mem hlt)) n
    dsimp only at e1
    obtain ⟨K2, e2⟩ := ih (i + 1) (by omega) (by omega)
    dsimp only at e2
    refine ⟨max K1 K2 + 1, fun k hk2 => ?_⟩
    dsimp only
    obtain ⟨k, rfl⟩ : ∃ m, k = m + 1 := ⟨k - 1, by omega⟩
    simp only [vouchlaw14_RouteRanges.l2]
    rw [if_pos (by omega), if_pos (by omega), rdOf_at keys i hlt, wrap_nat i keys.length hlt (by omega), e1 k (by omega)]
    simp only [Option.bind_some]
    rw [if_neg (by omega), if_neg (by omega)]
    exact e2 k (by omega)
theorem mine (h1 : 1 ≤ n) (h8 : n ≤ 8) (t : Nat) (ht : (t : Int) < n) (x7 : Int) (hnext : Ev (fun k => vouchlaw14_RouteRanges.l0 k keys n (spr n keys) x7 ((t + 1 : Nat) : Int)) true) (d : Nat) : ∀ i : Nat, i ≤ (sel n keys t).length → (sel n keys t).length - i = d → Ev (fun k => vouchlaw14_RouteRanges.l1 k keys n (spr n keys) x7 (t : Int) (i : Int)) true := by
  have hsl := sel_length n keys t
  induction d with
  | zero =>
    intro i hi hd
    refine Ev.step (fun k => ?_) hnext
    simp only [vouchlaw14_RouteRanges.l1]
    rw [if_pos (by omega), if_pos (by rw [spr_length]; omega), spr_rd n keys t (by omega) ht, Int.toNat_natCast, if_neg (by omega), wrap_nat t 8 (by omega) (by omega)]
  | succ d ih =>
    intro i hi hd
    have hlt : i < (sel n keys t).length := by omega
    have hm : (sel n keys t)[i] ∈ sel n keys t := List.getElem_mem hlt
    have hmem := List.mem_filter.1 hm
    have hto : toOf (sel n keys t)[i] n = (t : Int) := of_decide_eq_true hmem.2
    obtain ⟨K1, e1⟩ := to_ev (sel n keys t)[i] (hk _ hmem.1) n
    dsimp only at e1
    obtain ⟨K2, e2⟩ := ih (i + 1) (by omega) (by omega)
    dsimp only at e2
    refine ⟨max K1 K2 + 1, fun k hk2 => ?_⟩
    dsimp only
    obtain ⟨k, rfl⟩ : ∃ m, k = m + 1 := ⟨k - 1, by omega⟩
    simp only [vouchlaw14_RouteRanges.l1]
    rw [if_pos (by omega), if_pos (by rw [spr_length]; omega), spr_rd n keys t (by omega) ht, Int.toNat_natCast, if_pos (by omega), if_pos (by omega), rdOf_at (sel n keys t) i hlt, e1 k (by omega)]
    simp only [Option.bind_some]
    rw [if_pos hto, wrap_nat i (sel n keys t).length hlt (by omega)]
    exact e2 k (by omega)
theorem ranges (h1 : 1 ≤ n) (h8 : n ≤ 8) (d : Nat) : ∀ t : Nat, (t : Int) ≤ n → n - (t : Int) = d → Ev (fun k => vouchlaw14_RouteRanges.l0 k keys n (spr n keys) (total n keys t : Int) (t : Int)) true := by
  induction d with
  | zero =>
    intro t ht hd
    obtain rfl : t = n.toNat := by omega
    rw [total_all n h1 h8]
    refine Ev.step (fun k => ?_) (last keys n hl hk h1 h8 keys.length 0 (by omega) (by omega))
    simp only [vouchlaw14_RouteRanges.l0]
    rw [if_neg (by omega)]
    rfl
  | succ d ih =>
    intro t ht hd
    have e := ih (t + 1) (by omega) (by omega)
    have hle := total_le n keys t
    have hsl := sel_length n keys t
    have ht8 : t * keys.length ≤ 8 * keys.length := Nat.mul_le_mul_right _ (by omega)
    have hw : wrap64 ((total n keys t : Int) + ((sel n keys t).length : Int)) = (total n keys (t + 1) : Int) := by
      simp only [total]
      unfold wrap64
      omega
    refine Ev.step (fun k => ?_) (mine keys n hl hk h1 h8 t (by omega) _ e (sel n keys t).length 0 (by omega) (by omega))
    simp only [vouchlaw14_RouteRanges.l0]
    rw [if_pos (by omega), if_pos (by omega), if_pos (by rw [spr_length]; omega), spr_rd n keys t (by omega) (by omega), Int.toNat_natCast, hw]
    rfl
theorem RouteRanges (a : Int) (h0 : 0 ≤ a) (h255 : a ≤ 255) : ∃ k, vouchlaw14_RouteRanges.f k keys a = some true := by
  obtain ⟨K1, e1⟩ := spread_f keys (a % 8 + 1) hl hk
  dsimp only at e1
  obtain ⟨K2, e2⟩ := ranges keys (a % 8 + 1) hl hk (by omega) (by omega) (a % 8 + 1).toNat 0 (by omega) (by omega)
  dsimp only at e2
  refine ⟨max K1 K2 + 20, ?_⟩
  unfold vouchlaw14_RouteRanges.f
  rw [fixed_at _ (by omega), mod8 a h0 h255]
  simp only [Option.bind_some, if_true]
  rw [e1 _ (by omega), if_neg (by omega), if_neg (by omega)]
  simp only [Option.bind_some]
  rw [if_pos (by rw [spr_length]; omega)]
  exact e2 (max K1 K2 + 20) (by omega)
end

end Go.Proofs.Ythgfgbligkchiaa.Pure
