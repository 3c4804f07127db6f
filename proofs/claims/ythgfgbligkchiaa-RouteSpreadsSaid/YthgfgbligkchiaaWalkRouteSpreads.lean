/- The walk of RouteSpreads: what the Go function answers is what the plain function f says. Begun as the print's text of this function, mended by hand at the second cut own[:len(keys)] and at the relation of the join behind it. No condition but the reading of the argument. -/
import Derived.Test.YthgfgbligkchiaaPRouteSpreadsx0
import Derived.Test.YthgfgbligkchiaaPRouteSpreadsx1
namespace Go.Proofs.Ythgfgbligkchiaa.PRouteSpreads
open Go.RowKit Go.Proofs.YthgfgbligkchiaaW.PrintWords Go.Proofs.YthgfgbligkchiaaW.PrintLast Go.Proofs.YthgfgbligkchiaaW.PrintMore
attribute [local go_sem] max2_int min2_int max_two min_two max_three min_three max_four min_four   -- for this text's walks alone
set_option linter.unusedVariables false
set_option linter.unusedSimpArgs false

/-! ### vouchlaw14_RouteSpreads: function 4 -/
mutual
def vouchlaw14_RouteSpreads.j0 : Nat → List ByteArray → Int → List (List ByteArray) → Bool → Option (Bool)
  | 0, _, _, _, _ => none
  | k + 1, x0, x1, x6, x37 => if x37 = true then (some false) else (if x1 < 1 then (vouchlaw14_RouteSpreads.j1 k x0 x1 x6 true) else (vouchlaw14_RouteSpreads.j1 k x0 x1 x6 (decide (x1 > 8))))
def vouchlaw14_RouteSpreads.j1 : Nat → List ByteArray → Int → List (List ByteArray) → Bool → Option (Bool)
  | 0, _, _, _, _ => none
  | k + 1, x0, x1, x6, x43 => if x43 = true then (some ((x6.length : Int) == 0)) else (if (x6.length : Int) = x1 then (vouchlaw14_RouteSpreads.l0 k x0 x1 x6 0) else (some false))
def vouchlaw14_RouteSpreads.l0 : Nat → List ByteArray → Int → List (List ByteArray) → Int → Option (Bool)
  | 0, _, _, _, _ => none
  | k + 1, x0, x1, x6, x7 => if x7 < x1 then (vouchlaw14_RouteSpreads.l1 k x0 x1 x6 x7 ([] : List ByteArray) 0) else (some true)
def vouchlaw14_RouteSpreads.l1 : Nat → List ByteArray → Int → List (List ByteArray) → Int → List ByteArray → Int → Option (Bool)
  | 0, _, _, _, _, _, _ => none
  | k + 1, x0, x1, x6, x7, x8, x9 => if x9 < (x0.length : Int) then (if 0 ≤ x9 then ((vouchref14_To.f k (rdOf ByteArray.empty x0 x9) x1).bind fun t145 => (if t145 = x7 then (if x8.length < 8796093022208 then (vouchlaw14_RouteSpreads.l1 k x0 x1 x6 x7 (x8 ++ [rdOf ByteArray.empty x0 x9]) (wrap64 (x9 + 1))) else (none)) else (vouchlaw14_RouteSpreads.l1 k x0 x1 x6 x7 x8 (wrap64 (x9 + 1))))) else (none)) else (if 0 ≤ x7 then (if x7 < (x6.length : Int) then ((vouchref05_SameTexts.f k (rd_L1 x6 x7) x8).bind fun t151 => (if t151 = true then (vouchlaw14_RouteSpreads.l0 k x0 x1 x6 (wrap64 (x7 + 1))) else (some false))) else (none)) else (none))
end
def vouchlaw14_RouteSpreads.f (k : Nat) (l0 : List ByteArray) (a1 : Int) : Option (Bool) := (vouchlaw14_fixed.f k).bind fun t121 => (if t121 = true then ((some (([] : List ByteArray) : List ByteArray)).bind fun y122 => (if y122.length + l0.length < 8796093022208 then ((some (y122 ++ l0 : List ByteArray)).bind fun y125 => (if y125.length < 8796093022208 then ((some (y125 ++ [(⟨#[115, 112, 97, 114, 101]⟩ : ByteArray)] : List ByteArray)).bind fun y128 => (if 0 ≤ (l0.length : Int) then (if (l0.length : Int) ≤ (y128.length : Int) then ((route_Spread.f k (y128.take ((l0.length : Int) : Int).toNat) a1).bind fun t135 => ((vouchref05_SameTexts.f k (y128.take ((l0.length : Int) : Int).toNat) l0).bind fun t142 => (if t142 = true then (if (l0.length : Int) < (y128.length : Int) then (vouchlaw14_RouteSpreads.j0 k l0 a1 t135 ((rdOf ByteArray.empty y128 (l0.length : Int)).toList != ([115, 112, 97, 114, 101] : List UInt8))) else (none)) else (vouchlaw14_RouteSpreads.j0 k l0 a1 t135 true)))) else (none)) else (none))) else (none))) else (none))) else (some false))
theorem vouchlaw14_RouteSpreads.mono_l : ∀ k, (∀ y0 y1 y2 y3, LeO (vouchlaw14_RouteSpreads.j0 k y0 y1 y2 y3) (vouchlaw14_RouteSpreads.j0 (k + 1) y0 y1 y2 y3)) ∧ (∀ y0 y1 y2 y3, LeO (vouchlaw14_RouteSpreads.j1 k y0 y1 y2 y3) (vouchlaw14_RouteSpreads.j1 (k + 1) y0 y1 y2 y3)) ∧ (∀ y0 y1 y2 y3, LeO (vouchlaw14_RouteSpreads.l0 k y0 y1 y2 y3) (vouchlaw14_RouteSpreads.l0 (k + 1) y0 y1 y2 y3)) ∧ (∀ y0 y1 y2 y3 y4 y5, LeO (vouchlaw14_RouteSpreads.l1 k y0 y1 y2 y3 y4 y5) (vouchlaw14_RouteSpreads.l1 (k + 1) y0 y1 y2 y3 y4 y5))
  | 0 => ⟨fun _ _ _ _ r h => by simp [vouchlaw14_RouteSpreads.j0] at h, fun _ _ _ _ r h => by simp [vouchlaw14_RouteSpreads.j1] at h, fun _ _ _ _ r h => by simp [vouchlaw14_RouteSpreads.l0] at h, fun _ _ _ _ _ _ r h => by simp [vouchlaw14_RouteSpreads.l1] at h⟩
  | k + 1 => by
    obtain ⟨ih0, ih1, ih2, ih3⟩ := vouchlaw14_RouteSpreads.mono_l k
    refine ⟨?_, ?_, ?_, ?_⟩
    · intro y0 y1 y2 y3
      unfold vouchlaw14_RouteSpreads.j0
      repeat' first
      | (with_reducible exact ih0 _ _ _ _)
      | (with_reducible exact ih1 _ _ _ _)
      | (with_reducible exact ih2 _ _ _ _)
      | (with_reducible exact ih3 _ _ _ _ _ _)
      | (with_reducible exact route_Spread.mono _ _ _)
      | (with_reducible exact vouchlaw14_fixed.mono _)
      | (with_reducible exact vouchref05_SameTexts.mono _ _ _)
      | (with_reducible exact vouchref14_To.mono _ _ _)
      | (with_reducible exact LeO.refl _)
      | (with_reducible exact LeO.none _)
      | (with_reducible refine LeO.ite ?_ ?_)
      | (with_reducible refine LeO.bind ?_ (fun _ => ?_))
      | exact ih0 _ _ _ _
      | exact ih1 _ _ _ _
      | exact ih2 _ _ _ _
      | exact ih3 _ _ _ _ _ _
      | exact route_Spread.mono _ _ _
      | exact vouchlaw14_fixed.mono _
      | exact vouchref05_SameTexts.mono _ _ _
      | exact vouchref14_To.mono _ _ _
      | exact LeO.none _
      | refine LeO.ite ?_ ?_
      | refine LeO.bind ?_ (fun _ => ?_)
    · intro y0 y1 y2 y3
      unfold vouchlaw14_RouteSpreads.j1
      repeat' first
      | (with_reducible exact ih0 _ _ _ _)
      | (with_reducible exact ih1 _ _ _ _)
      | (with_reducible exact ih2 _ _ _ _)
      | (with_reducible exact ih3 _ _ _ _ _ _)
      | (with_reducible exact route_Spread.mono _ _ _)
      | (with_reducible exact vouchlaw14_fixed.mono _)
      | (with_reducible exact vouchref05_SameTexts.mono _ _ _)
      | (with_reducible exact vouchref14_To.mono _ _ _)
      | (with_reducible exact LeO.refl _)
      | (with_reducible exact LeO.none _)
      | (with_reducible refine LeO.ite ?_ ?_)
      | (with_reducible refine LeO.bind ?_ (fun _ => ?_))
      | exact ih0 _ _ _ _
      | exact ih1 _ _ _ _
      | exact ih2 _ _ _ _
      | exact ih3 _ _ _ _ _ _
      | exact route_Spread.mono _ _ _
      | exact vouchlaw14_fixed.mono _
      | exact vouchref05_SameTexts.mono _ _ _
      | exact vouchref14_To.mono _ _ _
      | exact LeO.none _
      | refine LeO.ite ?_ ?_
      | refine LeO.bind ?_ (fun _ => ?_)
    · intro y0 y1 y2 y3
      unfold vouchlaw14_RouteSpreads.l0
      repeat' first
      | (with_reducible exact ih0 _ _ _ _)
      | (with_reducible exact ih1 _ _ _ _)
      | (with_reducible exact ih2 _ _ _ _)
      | (with_reducible exact ih3 _ _ _ _ _ _)
      | (with_reducible exact route_Spread.mono _ _ _)
      | (with_reducible exact vouchlaw14_fixed.mono _)
      | (with_reducible exact vouchref05_SameTexts.mono _ _ _)
      | (with_reducible exact vouchref14_To.mono _ _ _)
      | (with_reducible exact LeO.refl _)
      | (with_reducible exact LeO.none _)
      | (with_reducible refine LeO.ite ?_ ?_)
      | (with_reducible refine LeO.bind ?_ (fun _ => ?_))
      | exact ih0 _ _ _ _
      | exact ih1 _ _ _ _
      | exact ih2 _ _ _ _
      | exact ih3 _ _ _ _ _ _
      | exact route_Spread.mono _ _ _
      | exact vouchlaw14_fixed.mono _
      | exact vouchref05_SameTexts.mono _ _ _
      | exact vouchref14_To.mono _ _ _
      | exact LeO.none _
      | refine LeO.ite ?_ ?_
      | refine LeO.bind ?_ (fun _ => ?_)
    · intro y0 y1 y2 y3 y4 y5
      unfold vouchlaw14_RouteSpreads.l1
      repeat' first
      | (with_reducible exact ih0 _ _ _ _)
      | (with_reducible exact ih1 _ _ _ _)
      | (with_reducible exact ih2 _ _ _ _)
      | (with_reducible exact ih3 _ _ _ _ _ _)
      | (with_reducible exact route_Spread.mono _ _ _)
      | (with_reducible exact vouchlaw14_fixed.mono _)
      | (with_reducible exact vouchref05_SameTexts.mono _ _ _)
      | (with_reducible exact vouchref14_To.mono _ _ _)
      | (with_reducible exact LeO.refl _)
      | (with_reducible exact LeO.none _)
      | (with_reducible refine LeO.ite ?_ ?_)
      | (with_reducible refine LeO.bind ?_ (fun _ => ?_))
      | exact ih0 _ _ _ _
      | exact ih1 _ _ _ _
      | exact ih2 _ _ _ _
      | exact ih3 _ _ _ _ _ _
      | exact route_Spread.mono _ _ _
      | exact vouchlaw14_fixed.mono _
      | exact vouchref05_SameTexts.mono _ _ _
      | exact vouchref14_To.mono _ _ _
      | exact LeO.none _
      | refine LeO.ite ?_ ?_
      | refine LeO.bind ?_ (fun _ => ?_)
theorem vouchlaw14_RouteSpreads.mono : ∀ a0 a1 k, LeO (vouchlaw14_RouteSpreads.f k a0 a1) (vouchlaw14_RouteSpreads.f (k + 1) a0 a1) := by
  intro a0 a1 k
  obtain ⟨ih0, ih1, ih2, ih3⟩ := vouchlaw14_RouteSpreads.mono_l k
  unfold vouchlaw14_RouteSpreads.f
  repeat' first
      | (with_reducible exact ih0 _ _ _ _)
      | (with_reducible exact ih1 _ _ _ _)
      | (with_reducible exact ih2 _ _ _ _)
      | (with_reducible exact ih3 _ _ _ _ _ _)
      | (with_reducible exact route_Spread.mono _ _ _)
      | (with_reducible exact vouchlaw14_fixed.mono _)
      | (with_reducible exact vouchref05_SameTexts.mono _ _ _)
      | (with_reducible exact vouchref14_To.mono _ _ _)
      | (with_reducible exact LeO.refl _)
      | (with_reducible exact LeO.none _)
      | (with_reducible refine LeO.ite ?_ ?_)
      | (with_reducible refine LeO.bind ?_ (fun _ => ?_))
      | exact ih0 _ _ _ _
      | exact ih1 _ _ _ _
      | exact ih2 _ _ _ _
      | exact ih3 _ _ _ _ _ _
      | exact route_Spread.mono _ _ _
      | exact vouchlaw14_fixed.mono _
      | exact vouchref05_SameTexts.mono _ _ _
      | exact vouchref14_To.mono _ _ _
      | exact LeO.none _
      | refine LeO.ite ?_ ?_
      | refine LeO.bind ?_ (fun _ => ?_)
set_option maxHeartbeats 8000000 in
set_option maxRecDepth 100000 in
theorem vouchlaw14_RouteSpreads.calls (k : Nat) (A0 : Option Addr) (c0 : Nat) (l0 : List ByteArray) (a1 : Int) (r : Bool) (w : World) (hr0 : Kd.C Kd.string w A0 l0.length l0) (hc0 : l0.length ≤ c0) (h : vouchlaw14_RouteSpreads.f k l0 a1 = some r) :
    Calls Try.prog 4 #[.slice A0 l0.length c0, .int .i64 a1] w fun e w' => e = .returned (.bool r) ∧ Below w.heap.size w w' := by
  have HR0 := Aside0.mk hr0
  have HC0 := Aside0.mk hc0
  clear hr0 hc0
  have HB := Aside0.mk (Below.refl w.heap.size w)
  have H : ((vouchlaw14_fixed.f k).bind fun t121 => (if t121 = true then ((some (([] : List ByteArray) : List ByteArray)).bind fun y122 => (if y122.length + l0.length < 8796093022208 then ((some (y122 ++ l0 : List ByteArray)).bind fun y125 => (if y125.length < 8796093022208 then ((some (y125 ++ [(⟨#[115, 112, 97, 114, 101]⟩ : ByteArray)] : List ByteArray)).bind fun y128 => (if 0 ≤ (l0.length : Int) then (if (l0.length : Int) ≤ (y128.length : Int) then ((route_Spread.f k (y128.take ((l0.length : Int) : Int).toNat) a1).bind fun t135 => ((vouchref05_SameTexts.f k (y128.take ((l0.length : Int) : Int).toNat) l0).bind fun t142 => (if t142 = true then (if (l0.length : Int) < (y128.length : Int) then (vouchlaw14_RouteSpreads.j0 k l0 a1 t135 ((rdOf ByteArray.empty y128 (l0.length : Int)).toList != ([115, 112, 97, 114, 101] : List UInt8))) else (none)) else (vouchlaw14_RouteSpreads.j0 k l0 a1 t135 true)))) else (none)) else (none))) else (none))) else (none))) else (some false))) = some r := h
  clear h
  replace H := Option.bind_eq_some_iff.mp H
  obtain ⟨t121, A30, H⟩ := H
  replace H : (if t121 = true then ((some (([] : List ByteArray) : List ByteArray)).bind fun y122 => (if y122.length + l0.length < 8796093022208 then ((some (y122 ++ l0 : List ByteArray)).bind fun y125 => (if y125.length < 8796093022208 then ((some (y125 ++ [(⟨#[115, 112, 97, 114, 101]⟩ : ByteArray)] : List ByteArray)).bind fun y128 => (if 0 ≤ (l0.length : Int) then (if (l0.length : Int) ≤ (y128.length : Int) then ((route_Spread.f k (y128.take ((l0.length : Int) : Int).toNat) a1).bind fun t135 => ((vouchref05_SameTexts.f k (y128.take ((l0.length : Int) : Int).toNat) l0).bind fun t142 => (if t142 = true then (if (l0.length : Int) < (y128.length : Int) then (vouchlaw14_RouteSpreads.j0 k l0 a1 t135 ((rdOf ByteArray.empty y128 (l0.length : Int)).toList != ([115, 112, 97, 114, 101] : List UInt8))) else (none)) else (vouchlaw14_RouteSpreads.j0 k l0 a1 t135 true)))) else (none)) else (none))) else (none))) else (none))) else (some false)) = some r := H
  have A3 := Aside0.mk A30
  clear A30
  by_cases c4 : t121 = true
  · subst c4
    have H1 : ((some (([] : List ByteArray) : List ByteArray)).bind fun y122 => (if y122.length + l0.length < 8796093022208 then ((some (y122 ++ l0 : List ByteArray)).bind fun y125 => (if y125.length < 8796093022208 then ((some (y125 ++ [(⟨#[115, 112, 97, 114, 101]⟩ : ByteArray)] : List ByteArray)).bind fun y128 => (if 0 ≤ (l0.length : Int) then (if (l0.length : Int) ≤ (y128.length : Int) then ((route_Spread.f k (y128.take ((l0.length : Int) : Int).toNat) a1).bind fun t135 => ((vouchref05_SameTexts.f k (y128.take ((l0.length : Int) : Int).toNat) l0).bind fun t142 => (if t142 = true then (if (l0.length : Int) < (y128.length : Int) then (vouchlaw14_RouteSpreads.j0 k l0 a1 t135 ((rdOf ByteArray.empty y128 (l0.length : Int)).toList != ([115, 112, 97, 114, 101] : List UInt8))) else (none)) else (vouchlaw14_RouteSpreads.j0 k l0 a1 t135 true)))) else (none)) else (none))) else (none))) else (none))) = some r := by rw [if_pos rfl] at H; exact H
    clear H
    have H := H1
    clear H1
    obtain ⟨y122, hy122⟩ : ∃ y_ : List ByteArray, y_ = (([] : List ByteArray)) := ⟨_, rfl⟩
    replace H : (if y122.length + l0.length < 8796093022208 then ((some (y122 ++ l0 : List ByteArray)).bind fun y125 => (if y125.length < 8796093022208 then ((some (y125 ++ [(⟨#[115, 112, 97, 114, 101]⟩ : ByteArray)] : List ByteArray)).bind fun y128 => (if 0 ≤ (l0.length : Int) then (if (l0.length : Int) ≤ (y128.length : Int) then ((route_Spread.f k (y128.take ((l0.length : Int) : Int).toNat) a1).bind fun t135 => ((vouchref05_SameTexts.f k (y128.take ((l0.length : Int) : Int).toNat) l0).bind fun t142 => (if t142 = true then (if (l0.length : Int) < (y128.length : Int) then (vouchlaw14_RouteSpreads.j0 k l0 a1 t135 ((rdOf ByteArray.empty y128 (l0.length : Int)).toList != ([115, 112, 97, 114, 101] : List UInt8))) else (none)) else (vouchlaw14_RouteSpreads.j0 k l0 a1 t135 true)))) else (none)) else (none))) else (none))) else (none)) = some r := by first | (rw [hy122]; with_reducible exact H) | (have H2_ := (Option.bind_some _ _).symm.trans H; rw [hy122]; with_reducible exact H2_) | (have H2_ := (Option.bind_some _ _).symm.trans H; with_reducible exact H2_) | with_reducible exact H | (rw [hy122]; exact H) | exact H
    have Ny122 := Aside0.mk hy122
    clear hy122
    by_cases c5 : y122.length + l0.length < 8796093022208
    · rw [if_pos c5] at H
      have LMc5 := Aside0.mk c5
      clear c5
      obtain ⟨y125, hy125⟩ : ∃ y_ : List ByteArray, y_ = (y122 ++ l0) := ⟨_, rfl⟩
      replace H : (if y125.length < 8796093022208 then ((some (y125 ++ [(⟨#[115, 112, 97, 114, 101]⟩ : ByteArray)] : List ByteArray)).bind fun y128 => (if 0 ≤ (l0.length : Int) then (if (l0.length : Int) ≤ (y128.length : Int) then ((route_Spread.f k (y128.take ((l0.length : Int) : Int).toNat) a1).bind fun t135 => ((vouchref05_SameTexts.f k (y128.take ((l0.length : Int) : Int).toNat) l0).bind fun t142 => (if t142 = true then (if (l0.length : Int) < (y128.length : Int) then (vouchlaw14_RouteSpreads.j0 k l0 a1 t135 ((rdOf ByteArray.empty y128 (l0.length : Int)).toList != ([115, 112, 97, 114, 101] : List UInt8))) else (none)) else (vouchlaw14_RouteSpreads.j0 k l0 a1 t135 true)))) else (none)) else (none))) else (none)) = some r := by first | (rw [hy125]; with_reducible exact H) | (have H2_ := (Option.bind_some _ _).symm.trans H; rw [hy125]; with_reducible exact H2_) | (have H2_ := (Option.bind_some _ _).symm.trans H; with_reducible exact H2_) | with_reducible exact H | (rw [hy125]; exact H) | exact H
      have Ny125 := Aside0.mk hy125
      clear hy125
      by_cases c6 : y125.length < 8796093022208
      · rw [if_pos c6] at H
        have LMc6 := Aside0.mk c6
        clear c6
        obtain ⟨y128, hy128⟩ : ∃ y_ : List ByteArray, y_ = (y125 ++ [(⟨#[115, 112, 97, 114, 101]⟩ : ByteArray)]) := ⟨_, rfl⟩
        replace H : (if 0 ≤ (l0.length : Int) then (if (l0.length : Int) ≤ (y128.length : Int) then ((route_Spread.f k (y128.take ((l0.length : Int) : Int).toNat) a1).bind fun t135 => ((vouchref05_SameTexts.f k (y128.take ((l0.length : Int) : Int).toNat) l0).bind fun t142 => (if t142 = true then (if (l0.length : Int) < (y128.length : Int) then (vouchlaw14_RouteSpreads.j0 k l0 a1 t135 ((rdOf ByteArray.empty y128 (l0.length : Int)).toList != ([115, 112, 97, 114, 101] : List UInt8))) else (none)) else (vouchlaw14_RouteSpreads.j0 k l0 a1 t135 true)))) else (none)) else (none)) = some r := by first | (rw [hy128]; with_reducible exact H) | (have H2_ := (Option.bind_some _ _).symm.trans H; rw [hy128]; with_reducible exact H2_) | (have H2_ := (Option.bind_some _ _).symm.trans H; with_reducible exact H2_) | with_reducible exact H | (rw [hy128]; exact H) | exact H
        have Ny128 := Aside0.mk hy128
        clear hy128
        by_cases c7 : 0 ≤ (l0.length : Int)
        · rw [if_pos c7] at H
          have c7b0 := eq_true c7
          have c7b1 : decide (0 ≤ (l0.length : Int)) = true := decide_eq_true c7
          clear c7
          by_cases c8 : (l0.length : Int) ≤ (y128.length : Int)
          · rw [if_pos c8] at H
            have c8b0 := eq_true c8
            have c8b1 : decide ((l0.length : Int) ≤ (y128.length : Int)) = true := decide_eq_true c8
            clear c8
            obtain ⟨y131, hy131⟩ : ∃ y_ : List ByteArray, y_ = (y128.take ((l0.length : Int) : Int).toNat) := ⟨_, rfl⟩
            replace H : ((route_Spread.f k y131 a1).bind fun t135 => ((vouchref05_SameTexts.f k (y128.take ((l0.length : Int) : Int).toNat) l0).bind fun t142 => (if t142 = true then (if (l0.length : Int) < (y128.length : Int) then (vouchlaw14_RouteSpreads.j0 k l0 a1 t135 ((rdOf ByteArray.empty y128 (l0.length : Int)).toList != ([115, 112, 97, 114, 101] : List UInt8))) else (none)) else (vouchlaw14_RouteSpreads.j0 k l0 a1 t135 true)))) = some r := by first | (rw [hy131]; with_reducible exact H) | (have H2_ := (Option.bind_some _ _).symm.trans H; rw [hy131]; with_reducible exact H2_) | (have H2_ := (Option.bind_some _ _).symm.trans H; with_reducible exact H2_) | with_reducible exact H | (rw [hy131]; exact H) | exact H
            have Ny131 := Aside0.mk hy131
            clear hy131
            replace H := Option.bind_eq_some_iff.mp H
            obtain ⟨t135, A90, H⟩ := H
            replace H : ((vouchref05_SameTexts.f k (y128.take ((l0.length : Int) : Int).toNat) l0).bind fun t142 => (if t142 = true then (if (l0.length : Int) < (y128.length : Int) then (vouchlaw14_RouteSpreads.j0 k l0 a1 t135 ((rdOf ByteArray.empty y128 (l0.length : Int)).toList != ([115, 112, 97, 114, 101] : List UInt8))) else (none)) else (vouchlaw14_RouteSpreads.j0 k l0 a1 t135 true))) = some r := H
            have A9 := Aside0.mk A90
            clear A90
            have HC10 := Aside0.mk H
            clear H
            go_enter Try.func4, Try.ntmps4
            go_upto_region 5 with (first | ((with_reducible refine gate_callee (f := 13) rfl ?_); refine goesL_ (some 10) rfl rfl Try.func13 (by kernel_rfl) rfl #[] rfl (by (try simp only [List.map_toArray, List.map_cons, List.map_nil]); first | done | rfl | (simp only [List.length_drop, List.length_take]; rfl)) ?_; (with_reducible refine (vouchlaw14_fixed.calls k  true _ A3.out).mono ?_); rintro e w11 ⟨rfl, hb⟩; refine ⟨_, rfl, ?_⟩; have n0_ := Aside0.mk (below_step (by repeat (first | (with_reducible first | exact HB.out | apply below_alloc | apply pw_below_drewN | apply below_drew1) | exact HB.out)) hb); clear HB; have HB := n0_; clear n0_; (try clear hb); (try clear hb2); (try clear hk); (try clear hi)) | ((with_reducible refine gate_dst (N := 12) rfl ?_); (try (refine gate_guard (by rfl) ?_; dsimp only)); refine Kd.R_lit Kd.string _ 9 ?hg (N := 12) ?hd (xs := ([] : List ByteArray)) (inner := []) (ok := fun _ => True) (okp := fun _ => True) ?hr ?hp (fun _ hk => hk) trivial (Below.refl _ _) (Nat.le_refl _) (by simp) ?_; (case hd => rfl); (case hg => rfl); (case hr => first | (go_simp; done) | (go_simp; rfl)); (case hp => exact (Reps.none _ _)); intro v123 w12 ho13 hb hg_ hnew_; clear hg_ hnew_; (first | rw [← Ny122.out] at ho13 | (simp only [Int.reduceToNat] at ho13; rw [← Ny122.out] at ho13)); have n0_ := Aside0.mk (Kd.R_lower ho13 (below_size (by repeat (first | (with_reducible first | exact HB.out | apply below_alloc | apply pw_below_drewN | apply below_drew1) | exact HB.out)))); have n1_ := Aside0.mk (below_step (by repeat (first | (with_reducible first | exact HB.out | apply below_alloc | apply pw_below_drewN | apply below_drew1) | exact HB.out)) hb); clear HB; have HO124 := n0_; have HB := n1_; clear n0_ n1_; clear hb ho13) | ((with_reducible refine gate_builtin (b := .append) (xs := #[.tmp 12, .tmp 13]) rfl ?_); (try (refine gate_guard (by rfl) ?_; dsimp only)); at_builtin; refine Kd.R_append_rows Kd.string (w0 := w) w.heap.size rfl (.tmp 12) (.tmp 13) 27 9 (.string ⟨#[]⟩) 16 rfl Try.underlying27 info9 rfl (by decide) (by omega) v123 y122 l0 _ _ _ (fun _ => True) (fun _ => False) rfl rfl ?aO ?aR (fun _ _ h => h) (fun _ h => h.elim) ?aF ?aB ?aS ?aL ?_; (case aR => repeat (first | exact (Kd.C_below HR0.out HB.out) | (with_reducible refine Kd.C_alloc ?_ _) | (with_reducible refine Kd.C_drewN ?_ _) | (with_reducible refine Kd.C_drew ?_))); (case aB => exact (by repeat (first | (with_reducible first | exact HB.out | apply below_alloc | apply pw_below_drewN | apply below_drew1) | exact HB.out))); (case aF => exact (fun _ _ => trivial)); (case aO => exact (by (with_reducible repeat (first | apply Kd.R_alloc | apply Kd.R_drewN | apply Kd.R_drew)); exact HO124.out)); (case aS => exact (below_size (by repeat (first | (with_reducible first | exact HB.out | apply below_alloc | apply pw_below_drewN | apply below_drew1) | exact HB.out)))); (case aL => have := LMc5.out; omega); intro v126 w14 ho hb hg hat; rw [← Ny125.out] at ho; have n0_ := Aside0.mk (hb); have n1_ := Aside0.mk (ho); clear HB; clear HO124; have HB := n0_; have HO127 := n1_; clear n0_ n1_; clear ho hb hg hat) | ((with_reducible refine gate_builtin (b := .append) (xs := #[.tmp 14, .tmp 15]) rfl ?_); (try (refine gate_guard (by rfl) ?_; dsimp only)); at_builtin; refine Kd.R_append Kd.string (w0 := w) w.heap.size rfl (.tmp 14) (.tmp 15) 27 9 (.string ⟨#[]⟩) 16 rfl Try.underlying27 info9 rfl (by decide) (by omega) v126 y125 (⟨#[115, 112, 97, 114, 101]⟩ : ByteArray) [.string (⟨#[115, 112, 97, 114, 101]⟩ : ByteArray)] (fun _ => True) (fun _ => False) rfl rfl ?aP (fun _ hk => hk.elim) ?aF ?aO ?aB ?aS ?aL ?_; (case aP => exact rfl); (case aB => exact (by repeat (first | (with_reducible first | exact HB.out | apply below_alloc | apply pw_below_drewN | apply below_drew1) | exact HB.out))); (case aF => exact (fun _ _ => trivial)); (case aO => exact (by (with_reducible repeat (first | apply Kd.R_alloc | apply Kd.R_drewN | apply Kd.R_drew)); exact HO127.out)); (case aS => exact (below_size (by repeat (first | (with_reducible first | exact HB.out | apply below_alloc | apply pw_below_drewN | apply below_drew1) | exact HB.out)))); (case aL => have := LMc6.out; omega); intro v129 w15 ho hb hg hat; rw [← Ny128.out] at ho; have n0_ := Aside0.mk (hb); have n1_ := Aside0.mk (ho); clear HB; clear HO127; have HB := n0_; have HO130 := n1_; clear n0_ n1_; clear ho hb hg hat; obtain ⟨Ao17, co17, eo17⟩ := Kd.R_slice HO130.out; subst eo17; have q16 : ((l0.length : Int) : Int) ≤ ((y128.length : Int) : Int) := of_decide_eq_true (by first | (with_reducible assumption) | assumption); obtain ⟨i016, hi016, _, hsz16, _⟩ := info_parts info9; have hroom16 : y128.length ≤ co17 := (Kd.R_reads' HO130.out).2.1; have hC16 : Kd.C Kd.string _ Ao17 y128.length y128 := (Kd.R_reads' HO130.out).2.2; have hcut16 := cut_to (P := Try.prog) 27 9 .i64 Try.underlying27 hi016 Ao17 y128.length co17 (l0.length : Int) (of_decide_eq_true (by first | (with_reducible assumption) | assumption)) q16 hroom16; have hr16 := Kd.C_take (m := ((l0.length : Int) : Int).toNat) hC16 (by omega); have hy16 : y131.length = ((l0.length : Int) : Int).toNat := (by rw [Ny131.out, List.length_take]; omega); rw [← Ny131.out] at hr16; rw [← hy16] at hcut16; have HR134 := Aside0.mk hr16; have HC134 := Aside0.mk (show y131.length ≤ co17 from by omega); clear hr16 hC16 hroom16 hi016 hsz16; have KY16 := Aside0.mk hy16; clear hy16; have KL16 := Aside0.mk (show ((l0.length : Int) : Int).toNat ≤ y128.length from by omega); replace q16 := eq_true q16) | ((with_reducible refine gate_callee (f := 18) rfl ?_); refine goesL_ (some 22) rfl rfl Try.func18 (by kernel_rfl) rfl #[.slice Ao17 y131.length co17, .int .i64 a1] rfl (by (try simp only [List.map_toArray, List.map_cons, List.map_nil]); first | done | rfl | (simp only [List.length_drop, List.length_take]; rfl)) ?_; (with_reducible refine (route_Spread.calls k _ _ y131 a1 t135 _ ?side1 ?side2 A9.out).mono ?_); (case side1 => repeat (first | exact (by repeat (first | (with_reducible exact HR134.out) | (with_reducible refine Kd.C_alloc ?_ _) | (with_reducible refine Kd.C_drewN ?_ _) | (with_reducible refine Kd.C_drew ?_) | exact HR134.out)) | (with_reducible refine Kd.C_alloc ?_ _) | (with_reducible refine Kd.C_drewN ?_ _) | (with_reducible refine Kd.C_drew ?_))); (case side2 => exact HC134.out); rintro e w18 ⟨v136, rfl, ho0, hb⟩; refine ⟨_, rfl, ?_⟩; have n0_ := Aside0.mk (Kd.R_below (by (with_reducible repeat (first | apply Kd.R_alloc | apply Kd.R_drewN | apply Kd.R_drew)); exact HO130.out) hb); have n1_ := Aside0.mk (Kd.S_lower (Kd.S_new' ho0 (Kd.R_lt (by (with_reducible repeat (first | apply Kd.R_alloc | apply Kd.R_drewN | apply Kd.R_drew)); exact HO130.out))) (below_size (by repeat (first | (with_reducible first | exact HB.out | apply below_alloc | apply pw_below_drewN | apply below_drew1) | exact HB.out)))); have n2_ := Aside0.mk (Kd.C_below (by repeat (first | (with_reducible exact HR134.out) | (with_reducible refine Kd.C_alloc ?_ _) | (with_reducible refine Kd.C_drewN ?_ _) | (with_reducible refine Kd.C_drew ?_) | exact HR134.out)) hb); have n3_ := Aside0.mk (below_step (by repeat (first | (with_reducible first | exact HB.out | apply below_alloc | apply pw_below_drewN | apply below_drew1) | exact HB.out)) hb); clear HO130; clear HR134; clear HB; have HO130 := n0_; have HO137 := n1_; have HR134 := n2_; have HB := n3_; clear n0_ n1_ n2_ n3_; (try clear hb); (try clear hb2); (try clear hk); (try clear hi); (try clear ho0)))
            (try simp only [Act.put, List.setIfInBounds_toArray, List.set_cons_zero, List.set_cons_succ])
            go_cut [37] (fun v37 wc => ∃ (kq : Nat) (x37_9 : Bool), v37 = .bool x37_9 ∧ Aside0 (vouchlaw14_RouteSpreads.j0 kq l0 a1 t135 x37_9 = some r) ∧ Aside0 (kq ≤ k) ∧ Aside0 (Kd.S (Kd.slice 9 Kd.string) 27 wc w.heap.size (fun _ => True) v136 t135) ∧ Aside0 (Kd.C Kd.string wc Ao17 y131.length y131) ∧ Aside0 (Below w.heap.size w wc))
            case first =>
              have H := HC10.out
              clear HC10
              have c19b0 := eq_true (of_decide_eq_true (by first | (with_reducible assumption) | assumption) : 0 ≤ (l0.length : Int))
              have c20b0 := eq_true (of_decide_eq_true (by first | (with_reducible assumption) | assumption) : (l0.length : Int) ≤ (y128.length : Int))
              have hy131 := Ny131.out
              replace H : ((vouchref05_SameTexts.f k y131 l0).bind fun t142 => (if t142 = true then (if (l0.length : Int) < (y128.length : Int) then (vouchlaw14_RouteSpreads.j0 k l0 a1 t135 ((rdOf ByteArray.empty y128 (l0.length : Int)).toList != ([115, 112, 97, 114, 101] : List UInt8))) else (none)) else (vouchlaw14_RouteSpreads.j0 k l0 a1 t135 true))) = some r := by first | (rw [hy131]; with_reducible exact H) | (have H2_ := (Option.bind_some _ _).symm.trans H; rw [hy131]; with_reducible exact H2_) | (have H2_ := (Option.bind_some _ _).symm.trans H; with_reducible exact H2_) | with_reducible exact H | (rw [hy131]; exact H) | exact H
              have Ny131 := Aside0.mk hy131
              clear hy131
              replace H := Option.bind_eq_some_iff.mp H
              obtain ⟨t142, A210, H⟩ := H
              replace H : (if t142 = true then (if (l0.length : Int) < (y128.length : Int) then (vouchlaw14_RouteSpreads.j0 k l0 a1 t135 ((rdOf ByteArray.empty y128 (l0.length : Int)).toList != ([115, 112, 97, 114, 101] : List UInt8))) else (none)) else (vouchlaw14_RouteSpreads.j0 k l0 a1 t135 true)) = some r := H
              have A21 := Aside0.mk A210
              clear A210
              by_cases c22 : t142 = true
              · subst c22
                have H1 : (if (l0.length : Int) < (y128.length : Int) then (vouchlaw14_RouteSpreads.j0 k l0 a1 t135 ((rdOf ByteArray.empty y128 (l0.length : Int)).toList != ([115, 112, 97, 114, 101] : List UInt8))) else (none)) = some r := by rw [if_pos rfl] at H; exact H
                clear H
                have H := H1
                clear H1
                by_cases c23 : (l0.length : Int) < (y128.length : Int)
                · rw [if_pos c23] at H
                  have c23b0 : decide ((l0.length : Int) < (y128.length : Int)) = true := decide_eq_true c23
                  have c23b1 : decide (l0.length < y128.length) = true := decide_eq_true (Int.ofNat_lt.mp c23)
                  clear c23
                  (first | rw [c23b0] | (simp only [i64_w, i32_w]; rw [c23b0]) | skip)
                  have H' := Aside0.mk H
                  clear H
                  have q24 : ((l0.length : Int) : Int) ≤ ((y128.length : Int) : Int) := of_decide_eq_true (by first | (with_reducible assumption) | assumption)
                  obtain ⟨i024, hi024, _, hsz24, _⟩ := info_parts info9
                  have hroom24 : y128.length ≤ co17 := (Kd.R_reads' HO130.out).2.1
                  have hC24 : Kd.C Kd.string _ Ao17 y128.length y128 := (Kd.R_reads' HO130.out).2.2
                  have hcut24 := cut_to (P := Try.prog) 27 9 .i64 Try.underlying27 hi024 Ao17 y128.length co17 (l0.length : Int) (of_decide_eq_true (by first | (with_reducible assumption) | assumption)) q24 hroom24
                  have hr24 := Kd.C_take (m := ((l0.length : Int) : Int).toNat) hC24 (by omega)
                  have hy24 : y131.length = ((l0.length : Int) : Int).toNat := (by rw [Ny131.out, List.length_take]; omega)
                  rw [← Ny131.out] at hr24
                  rw [← hy24] at hcut24
                  have HR141 := Aside0.mk hr24
                  have HC141 := Aside0.mk (show y131.length ≤ co17 from by omega)
                  clear hr24 hC24 hroom24 hi024 hsz24
                  have KY24 := Aside0.mk hy24
                  clear hy24
                  have KL24 := Aside0.mk (show ((l0.length : Int) : Int).toNat ≤ y128.length from by omega)
                  replace q24 := eq_true q24
                  go_wp2_with (first | ((with_reducible refine gate_callee (f := 19) rfl ?_); refine goesL_ (some 28) rfl rfl Try.func19 (by kernel_rfl) rfl #[.slice Ao17 y131.length co17, .slice A0 l0.length c0] rfl (by (try simp only [List.map_toArray, List.map_cons, List.map_nil]); first | done | rfl | (simp only [List.length_drop, List.length_take]; rfl)) ?_; (with_reducible refine (vouchref05_SameTexts.calls k _ _ y131 _ _ l0 true _ ?side1 ?side2 ?side3 ?side4 A21.out).mono ?_); (case side1 => repeat (first | exact (by repeat (first | (with_reducible exact HR141.out) | (with_reducible refine Kd.C_alloc ?_ _) | (with_reducible refine Kd.C_drewN ?_ _) | (with_reducible refine Kd.C_drew ?_) | exact HR141.out)) | (with_reducible refine Kd.C_alloc ?_ _) | (with_reducible refine Kd.C_drewN ?_ _) | (with_reducible refine Kd.C_drew ?_))); (case side2 => exact HC141.out); (case side3 => repeat (first | exact (Kd.C_below HR0.out HB.out) | (with_reducible refine Kd.C_alloc ?_ _) | (with_reducible refine Kd.C_drewN ?_ _) | (with_reducible refine Kd.C_drew ?_))); (case side4 => exact HC0.out); rintro e w' ⟨rfl, ⟨nd, rfl⟩⟩; refine ⟨_, rfl, ?_⟩; have p143 : 0 ≤ ((l0.length : Int) : Int) := of_decide_eq_true (by first | (with_reducible assumption) | assumption); have q143 : (l0.length : Int) < (y128.length : Int) := of_decide_eq_true (by first | (with_reducible assumption) | assumption); obtain ⟨ad143, e143, hx143_0⟩ := Kd.at_string (Kd.R_reads' HO130.out).2.2 (l0.length : Int) p143 q143; cases e143; (try simp only [Go.IntWalk.toNatUp] at hx143_0); replace p143 := eq_true p143; replace q143 := eq_true q143))
                  go_meet
                  case rel => exact ⟨_, (((rdOf ByteArray.empty y128 (l0.length : Int)).toList != ([115, 112, 97, 114, 101] : List UInt8))), (by first | rfl | (simp; done) | (simp [*]; done)), H', ⟨by first | omega | exact Nat.le_refl _⟩, ⟨by (with_reducible repeat (first | apply Kd.S_alloc | apply Kd.S_drewN | apply Kd.S_drew)); exact Kd.S_mono HO137.out (fun _ hk => trivial)⟩, ⟨by repeat (first | (with_reducible exact HR134.out) | (with_reducible refine Kd.C_alloc ?_ _) | (with_reducible refine Kd.C_drewN ?_ _) | (with_reducible refine Kd.C_drew ?_) | exact HR134.out)⟩, ⟨by repeat (first | (with_reducible first | exact HB.out | apply below_alloc | apply pw_below_drewN | apply below_drew1) | exact HB.out)⟩⟩
                · rw [if_neg c23] at H
                  exact absurd H (by simp)
              · replace c22 := Bool.eq_false_iff.mpr c22
                subst c22
                have H1 : (vouchlaw14_RouteSpreads.j0 k l0 a1 t135 true) = some r := by rw [if_neg (show ¬ (false = true) by decide)] at H; exact H
                clear H
                have H := H1
                clear H1
                have H' := Aside0.mk H
                clear H
                have q25 : ((l0.length : Int) : Int) ≤ ((y128.length : Int) : Int) := of_decide_eq_true (by first | (with_reducible assumption) | assumption)
                obtain ⟨i025, hi025, _, hsz25, _⟩ := info_parts info9
                have hroom25 : y128.length ≤ co17 := (Kd.R_reads' HO130.out).2.1
                have hC25 : Kd.C Kd.string _ Ao17 y128.length y128 := (Kd.R_reads' HO130.out).2.2
                have hcut25 := cut_to (P := Try.prog) 27 9 .i64 Try.underlying27 hi025 Ao17 y128.length co17 (l0.length : Int) (of_decide_eq_true (by first | (with_reducible assumption) | assumption)) q25 hroom25
                have hr25 := Kd.C_take (m := ((l0.length : Int) : Int).toNat) hC25 (by omega)
                have hy25 : y131.length = ((l0.length : Int) : Int).toNat := (by rw [Ny131.out, List.length_take]; omega)
                rw [← Ny131.out] at hr25
                rw [← hy25] at hcut25
                have HR141 := Aside0.mk hr25
                have HC141 := Aside0.mk (show y131.length ≤ co17 from by omega)
                clear hr25 hC25 hroom25 hi025 hsz25
                have KY25 := Aside0.mk hy25
                clear hy25
                have KL25 := Aside0.mk (show ((l0.length : Int) : Int).toNat ≤ y128.length from by omega)
                replace q25 := eq_true q25
                go_wp2_with (first | ((with_reducible refine gate_callee (f := 19) rfl ?_); refine goesL_ (some 28) rfl rfl Try.func19 (by kernel_rfl) rfl #[.slice Ao17 y131.length co17, .slice A0 l0.length c0] rfl (by (try simp only [List.map_toArray, List.map_cons, List.map_nil]); first | done | rfl | (simp only [List.length_drop, List.length_take]; rfl)) ?_; (with_reducible refine (vouchref05_SameTexts.calls k _ _ y131 _ _ l0 false _ ?side1 ?side2 ?side3 ?side4 A21.out).mono ?_); (case side1 => repeat (first | exact (by repeat (first | (with_reducible exact HR141.out) | (with_reducible refine Kd.C_alloc ?_ _) | (with_reducible refine Kd.C_drewN ?_ _) | (with_reducible refine Kd.C_drew ?_) | exact HR141.out)) | (with_reducible refine Kd.C_alloc ?_ _) | (with_reducible refine Kd.C_drewN ?_ _) | (with_reducible refine Kd.C_drew ?_))); (case side2 => exact HC141.out); (case side3 => repeat (first | exact (Kd.C_below HR0.out HB.out) | (with_reducible refine Kd.C_alloc ?_ _) | (with_reducible refine Kd.C_drewN ?_ _) | (with_reducible refine Kd.C_drew ?_))); (case side4 => exact HC0.out); rintro e w' ⟨rfl, ⟨nd, rfl⟩⟩; refine ⟨_, rfl, ?_⟩))
                go_meet
                case rel => exact ⟨_, (true), (by first | rfl | (simp; done) | (simp [*]; done)), H', ⟨by first | omega | exact Nat.le_refl _⟩, ⟨by (with_reducible repeat (first | apply Kd.S_alloc | apply Kd.S_drewN | apply Kd.S_drew)); exact Kd.S_mono HO137.out (fun _ hk => trivial)⟩, ⟨by repeat (first | (with_reducible exact HR134.out) | (with_reducible refine Kd.C_alloc ?_ _) | (with_reducible refine Kd.C_drewN ?_ _) | (with_reducible refine Kd.C_drew ?_) | exact HR134.out)⟩, ⟨by repeat (first | (with_reducible first | exact HB.out | apply below_alloc | apply pw_below_drewN | apply below_drew1) | exact HB.out)⟩⟩
            case rest =>
              clear HC10
              try clear c1
              try clear p1
              try clear q1
              try clear hx1
              try clear c2
              try clear p2
              try clear q2
              try clear c4
              try clear c5
              try clear c6
              try clear c7
              try clear c7b0
              try clear c7b1
              try clear c8
              try clear c8b0
              try clear c8b1
              try clear c13
              try clear p14
              try clear q14
              try clear hx14
              try clear q16
              try clear c18
              try clear c19
              try clear c19b0
              try clear c20
              try clear c20b0
              try clear c22
              try clear c23
              try clear c23b0
              try clear c23b1
              try clear q24
              try clear q25
              try clear hx143_0
              try clear p143
              try clear q143
              try clear q16
              try clear q24
              try clear q25
              obtain ⟨kq, x37_9, rfl, HA, HJ9, HO_6, HR134, HB⟩ := hcut
              cases kq with
              | zero => exact absurd HA.out (by simp [vouchlaw14_RouteSpreads.j0])
              | succ kj9 =>
                have H := HA.out
                clear HA
                simp only [vouchlaw14_RouteSpreads.j0] at H
                by_cases c26 : x37_9 = true
                · subst c26
                  have H1 : (some false) = some r := by rw [if_pos rfl] at H; exact H
                  clear H
                  have H := H1
                  clear H1
                  obtain rfl := Option.some.inj H
                  go_wp2
                  go_ret
                  exact ⟨by first | rfl | (simp [errW_none, errW_some] <;> rfl) | (simp [*, errW_none, errW_some] <;> rfl), by repeat (first | (with_reducible first | exact HB.out | apply below_alloc | apply pw_below_drewN | apply below_drew1) | exact HB.out)⟩
                · replace c26 := Bool.eq_false_iff.mpr c26
                  subst c26
                  have H1 : (if a1 < 1 then (vouchlaw14_RouteSpreads.j1 kj9 l0 a1 t135 true) else (vouchlaw14_RouteSpreads.j1 kj9 l0 a1 t135 (decide (a1 > 8)))) = some r := by rw [if_neg (show ¬ (false = true) by decide)] at H; exact H
                  clear H
                  have H := H1
                  clear H1
                  have HC27 := Aside0.mk H
                  clear H
                  go_upto_region 7 with (fail)
                  go_cut [43] (fun v43 wc => ∃ (kq : Nat) (x43_26 : Bool), v43 = .bool x43_26 ∧ Aside0 (vouchlaw14_RouteSpreads.j1 kq l0 a1 t135 x43_26 = some r) ∧ Aside0 (kq ≤ kj9) ∧ Aside0 (Kd.S (Kd.slice 9 Kd.string) 27 wc w.heap.size (fun _ => True) v136 t135) ∧ Aside0 (Kd.C Kd.string wc Ao17 y131.length y131) ∧ Aside0 (Below w.heap.size w wc))
                  case first =>
                    have H := HC27.out
                    clear HC27
                    by_cases c28 : a1 < 1
                    · rw [if_pos c28] at H
                      have c28b0 : decide (a1 < 1) = true := decide_eq_true c28
                      clear c28
                      (first | rw [c28b0] | (simp only [i64_w, i32_w]; rw [c28b0]) | skip)
                      have H' := Aside0.mk H
                      clear H
                      go_wp2
                      go_meet
                      case rel => exact ⟨_, (true), (by first | rfl | (simp; done) | (simp [*]; done)), H', ⟨by have := HJ9.out; first | omega | exact Nat.le_refl _⟩, ⟨by (with_reducible repeat (first | apply Kd.S_alloc | apply Kd.S_drewN | apply Kd.S_drew)); exact HO_6.out⟩, ⟨by repeat (first | (with_reducible exact HR134.out) | (with_reducible refine Kd.C_alloc ?_ _) | (with_reducible refine Kd.C_drewN ?_ _) | (with_reducible refine Kd.C_drew ?_) | exact HR134.out)⟩, ⟨by repeat (first | (with_reducible first | exact HB.out | apply below_alloc | apply pw_below_drewN | apply below_drew1) | exact HB.out)⟩⟩
                    · rw [if_neg c28] at H
                      have c28b0 : decide (a1 < 1) = false := decide_eq_false c28
                      clear c28
                      (first | rw [c28b0] | (simp only [i64_w, i32_w]; rw [c28b0]) | skip)
                      have H' := Aside0.mk H
                      clear H
                      go_wp2
                      go_meet
                      case rel => exact ⟨_, (decide (a1 > 8)), (by first | rfl | (simp; done) | (simp [*]; done)), H', ⟨by have := HJ9.out; first | omega | exact Nat.le_refl _⟩, ⟨by (with_reducible repeat (first | apply Kd.S_alloc | apply Kd.S_drewN | apply Kd.S_drew)); exact HO_6.out⟩, ⟨by repeat (first | (with_reducible exact HR134.out) | (with_reducible refine Kd.C_alloc ?_ _) | (with_reducible refine Kd.C_drewN ?_ _) | (with_reducible refine Kd.C_drew ?_) | exact HR134.out)⟩, ⟨by repeat (first | (with_reducible first | exact HB.out | apply below_alloc | apply pw_below_drewN | apply below_drew1) | exact HB.out)⟩⟩
                  case rest =>
                    clear HC27
                    try clear c1
                    try clear p1
                    try clear q1
                    try clear hx1
                    try clear c2
                    try clear p2
                    try clear q2
                    try clear c4
                    try clear c5
                    try clear c6
                    try clear c7
                    try clear c7b0
                    try clear c7b1
                    try clear c8
                    try clear c8b0
                    try clear c8b1
                    try clear c13
                    try clear p14
                    try clear q14
                    try clear hx14
                    try clear q16
                    try clear c18
                    try clear c19
                    try clear c19b0
                    try clear c20
                    try clear c20b0
                    try clear c22
                    try clear c23
                    try clear c23b0
                    try clear c23b1
                    try clear q24
                    try clear q25
                    try clear c26
                    try clear c28
                    try clear c28b0
                    try clear hx143_0
                    try clear p1
                    try clear p14
                    try clear p143
                    try clear p2
                    try clear q1
                    try clear q14
                    try clear q143
                    try clear q16
                    try clear q2
                    try clear q24
                    try clear q25
                    obtain ⟨kq, x43_26, rfl, HA, HJ26, HO_6, HR134, HB⟩ := hcut
                    cases kq with
                    | zero => exact absurd HA.out (by simp [vouchlaw14_RouteSpreads.j1])
                    | succ kj26 =>
                      have H := HA.out
                      clear HA
                      simp only [vouchlaw14_RouteSpreads.j1] at H
                      by_cases c29 : x43_26 = true
                      · subst c29
                        have H1 : (some ((t135.length : Int) == 0)) = some r := by rw [if_pos rfl] at H; exact H
                        clear H
                        have H := H1
                        clear H1
                        obtain rfl := Option.some.inj H
                        obtain ⟨Ao30, co30, eo30⟩ := Kd.S_slice HO_6.out
                        subst eo30
                        go_wp2
                        go_ret
                        exact ⟨by first | rfl | (simp [errW_none, errW_some] <;> rfl) | (simp [*, errW_none, errW_some] <;> rfl), by repeat (first | (with_reducible first | exact HB.out | apply below_alloc | apply pw_below_drewN | apply below_drew1) | exact HB.out)⟩
                      · replace c29 := Bool.eq_false_iff.mpr c29
                        subst c29
                        have H1 : (if (t135.length : Int) = a1 then (vouchlaw14_RouteSpreads.l0 kj26 l0 a1 t135 0) else (some false)) = some r := by rw [if_neg (show ¬ (false = true) by decide)] at H; exact H
                        clear H
                        have H := H1
                        clear H1
                        by_cases c31 : (t135.length : Int) = a1
                        · rw [if_pos c31] at H
                          have c31b0 : ((t135.length : Int) == a1) = true := beq_iff_eq.mpr c31
                          have c31b1 : ((t135.length : Int) != a1) = false := bne_eq_false_iff_eq.mpr c31
                          clear c31
                          have H' := Aside0.mk H
                          clear H
                          obtain ⟨Ao32, co32, eo32⟩ := Kd.S_slice HO_6.out
                          subst eo32
                          go_wp2
                          go_loopg [7] kj26 (fun kq v7 w' => ∃ (x7_3 : Int), v7 = .int .i64 x7_3 ∧ Aside0 (vouchlaw14_RouteSpreads.l0 kq l0 a1 t135 x7_3 = some r) ∧ Aside0 (kq ≤ kj26) ∧ Aside0 (Kd.S (Kd.slice 9 Kd.string) 27 w' w.heap.size (fun _ => True) (.slice Ao32 t135.length co32) t135) ∧ Aside0 (Below w.heap.size w w'))
                          case atStart => exact ⟨(0), (by first | rfl | (simp; done) | (simp [*]; done)), H', ⟨Nat.le_refl _⟩, ⟨by (with_reducible repeat (first | apply Kd.S_alloc | apply Kd.S_drewN | apply Kd.S_drew)); exact HO_6.out⟩, ⟨by repeat (first | (with_reducible first | exact HB.out | apply below_alloc | apply pw_below_drewN | apply below_drew1) | exact HB.out)⟩⟩
                          case round =>
                            clear H'
                            try clear c1
                            try clear p1
                            try clear q1
                            try clear hx1
                            try clear c2
                            try clear p2
                            try clear q2
                            try clear c3
                            try clear c4
                            try clear c5
                            try clear c6
                            try clear c7
                            try clear c7b0
                            try clear c7b1
                            try clear c8
                            try clear c8b0
                            try clear c8b1
                            try clear c13
                            try clear p14
                            try clear q14
                            try clear hx14
                            try clear q16
                            try clear c18
                            try clear c19
                            try clear c19b0
                            try clear c20
                            try clear c20b0
                            try clear c22
                            try clear c23
                            try clear c23b0
                            try clear c23b1
                            try clear q24
                            try clear q25
                            try clear c26
                            try clear c28
                            try clear c28b0
                            try clear c29
                            try clear c31
                            try clear c31b0
                            try clear c31b1
                            try clear hx143_0
                            try clear p1
                            try clear p14
                            try clear p143
                            try clear p2
                            try clear q1
                            try clear q14
                            try clear q143
                            try clear q16
                            try clear q2
                            try clear q24
                            try clear q25
                            obtain ⟨x7_3, rfl, HA, HK3, HO_6, HB⟩ := hrel
                            cases gk with
                            | zero => exact absurd HA.out (by simp [vouchlaw14_RouteSpreads.l0])
                            | succ k3 =>
                              have H := HA.out
                              clear HA
                              simp only [vouchlaw14_RouteSpreads.l0] at H
                              by_cases c33 : x7_3 < a1
                              · rw [if_pos c33] at H
                                have c33b0 : decide (x7_3 < a1) = true := decide_eq_true c33
                                clear c33
                                have H' := Aside0.mk H
                                clear H
                                go_wp2
                                go_loopg [8, 9] k3 (fun kq v8 v9 w' => ∃ (x8_4 : List ByteArray) (x9_4 : Int), v9 = .int .i64 x9_4 ∧ Aside0 (vouchlaw14_RouteSpreads.l1 kq l0 a1 t135 x7_3 x8_4 x9_4 = some r) ∧ Aside0 (kq ≤ k3) ∧ Aside0 (Kd.S (Kd.slice 9 Kd.string) 27 w' w.heap.size (fun k_ => some k_ ≠ (v8 : Value).ownBlock) (.slice Ao32 t135.length co32) t135) ∧ Aside0 (Kd.R Kd.string 9 w' w.heap.size (fun _ => True) v8 x8_4) ∧ Aside0 (Below w.heap.size w w'))
                                case atStart => exact ⟨(([] : List ByteArray)), (0), (by first | rfl | (simp; done) | (simp [*]; done)), H', ⟨Nat.le_refl _⟩, ⟨by (with_reducible repeat (first | apply Kd.S_alloc | apply Kd.S_drewN | apply Kd.S_drew)); exact Kd.S_mono HO_6.out (fun _ hk => (by simp [Value.ownBlock]))⟩, ⟨by first | exact Kd.R_nil _ _ _ _ _ | exact Kd.N_nil _ _ _ _ _ | exact Kd.V_nil _ _ _ _ _ | exact Kd.Q_nil _ _ _ _ _ | exact Kd.S_nil _ _ _ _ _⟩, ⟨by repeat (first | (with_reducible first | exact HB.out | apply below_alloc | apply pw_below_drewN | apply below_drew1) | exact HB.out)⟩⟩
                                case round =>
                                  clear H'
                                  try clear c1
                                  try clear p1
                                  try clear q1
                                  try clear hx1
                                  try clear c2
                                  try clear p2
                                  try clear q2
                                  try clear c3
                                  try clear c4
                                  try clear c5
                                  try clear c6
                                  try clear c7
                                  try clear c7b0
                                  try clear c7b1
                                  try clear c8
                                  try clear c8b0
                                  try clear c8b1
                                  try clear c13
                                  try clear p14
                                  try clear q14
                                  try clear hx14
                                  try clear q16
                                  try clear c18
                                  try clear c19
                                  try clear c19b0
                                  try clear c20
                                  try clear c20b0
                                  try clear c22
                                  try clear c23
                                  try clear c23b0
                                  try clear c23b1
                                  try clear q24
                                  try clear q25
                                  try clear c26
                                  try clear c28
                                  try clear c28b0
                                  try clear c29
                                  try clear c31
                                  try clear c31b0
                                  try clear c31b1
                                  try clear c33
                                  try clear c33b0
                                  try clear hx143_0
                                  try clear p1
                                  try clear p14
                                  try clear p143
                                  try clear p2
                                  try clear q1
                                  try clear q14
                                  try clear q143
                                  try clear q16
                                  try clear q2
                                  try clear q24
                                  try clear q25
                                  obtain ⟨x8_4, x9_4, rfl, HA, HK4, HO_6, HO_8, HB⟩ := hrel
                                  cases gk with
                                  | zero => exact absurd HA.out (by simp [vouchlaw14_RouteSpreads.l1])
                                  | succ k4 =>
                                    have H := HA.out
                                    clear HA
                                    simp only [vouchlaw14_RouteSpreads.l1] at H
                                    by_cases c34 : x9_4 < (l0.length : Int)
                                    · rw [if_pos c34] at H
                                      have c34b0 : decide (x9_4 < (l0.length : Int)) = true := decide_eq_true c34
                                      clear c34
                                      by_cases c35 : 0 ≤ x9_4
                                      · rw [if_pos c35] at H
                                        have c35b0 : decide (0 ≤ x9_4) = true := decide_eq_true c35
                                        clear c35
                                        replace H := Option.bind_eq_some_iff.mp H
                                        obtain ⟨t145, A360, H⟩ := H
                                        replace H : (if t145 = x7_3 then (if x8_4.length < 8796093022208 then (vouchlaw14_RouteSpreads.l1 k4 l0 a1 t135 x7_3 (x8_4 ++ [rdOf ByteArray.empty l0 x9_4]) (wrap64 (x9_4 + 1))) else (none)) else (vouchlaw14_RouteSpreads.l1 k4 l0 a1 t135 x7_3 x8_4 (wrap64 (x9_4 + 1)))) = some r := H
                                        have A36 := Aside0.mk A360
                                        clear A360
                                        by_cases c37 : t145 = x7_3
                                        · rw [if_pos c37] at H
                                          have c37b0 : (t145 == x7_3) = true := beq_iff_eq.mpr c37
                                          have c37b1 : (t145 != x7_3) = false := bne_eq_false_iff_eq.mpr c37
                                          clear c37
                                          by_cases c38 : x8_4.length < 8796093022208
                                          · rw [if_pos c38] at H
                                            have LMc38 := Aside0.mk c38
                                            clear c38
                                            obtain ⟨y147, hy147⟩ : ∃ y_ : List ByteArray, y_ = (x8_4 ++ [rdOf ByteArray.empty l0 x9_4]) := ⟨_, rfl⟩
                                            replace H : (vouchlaw14_RouteSpreads.l1 k4 l0 a1 t135 x7_3 y147 (wrap64 (x9_4 + 1))) = some r := by first | (rw [hy147]; with_reducible exact H) | (have H2_ := (Option.bind_some _ _).symm.trans H; rw [hy147]; with_reducible exact H2_) | (have H2_ := (Option.bind_some _ _).symm.trans H; with_reducible exact H2_) | with_reducible exact H | (rw [hy147]; exact H) | exact H
                                            have Ny147 := Aside0.mk hy147
                                            clear hy147
                                            have H' := Aside0.mk H
                                            clear H
                                            have p144 : 0 ≤ (x9_4 : Int) := of_decide_eq_true (by first | (with_reducible assumption) | assumption)
                                            have q144 : x9_4 < (l0.length : Int) := of_decide_eq_true (by first | (with_reducible assumption) | assumption)
                                            obtain ⟨ad144, e144, hx144_0⟩ := Kd.at_string HR0.out x9_4 p144 q144
                                            cases e144
                                            replace hx144_0 := (HB.out.cell (World.block_lt_of_cell? w _ hx144_0)).trans hx144_0
                                            replace p144 := eq_true p144
                                            replace q144 := eq_true q144
                                            go_wp2_with (first | ((with_reducible refine gate_callee (f := 17) rfl ?_); refine goesL_ (some 67) rfl rfl Try.func17 (by kernel_rfl) rfl #[.string (rdOf ByteArray.empty l0 x9_4), .int .i64 a1] rfl (by (try simp only [List.map_toArray, List.map_cons, List.map_nil]); first | done | rfl | (simp only [List.length_drop, List.length_take]; rfl)) ?_; (with_reducible refine (vouchref14_To.calls k4 (rdOf ByteArray.empty l0 x9_4) a1 t145 _ A36.out).mono ?_); rintro e w' ⟨rfl, ⟨nd, rfl⟩⟩; refine ⟨_, rfl, ?_⟩; have p146 : 0 ≤ (x9_4 : Int) := of_decide_eq_true (by first | (with_reducible assumption) | assumption); have q146 : x9_4 < (l0.length : Int) := of_decide_eq_true (by first | (with_reducible assumption) | assumption); obtain ⟨ad146, e146, hx146_0⟩ := Kd.at_string HR0.out x9_4 p146 q146; obtain rfl : ad144 = ad146 := (by injection e146); replace hx146_0 := (HB.out.cell (World.block_lt_of_cell? w _ hx146_0)).trans hx146_0; replace p146 := eq_true p146; replace q146 := eq_true q146) | ((with_reducible refine gate_builtin (b := .append) (xs := #[.tmp 70, .tmp 75]) rfl ?_); (try (refine gate_guard (by rfl) ?_; dsimp only)); at_builtin; refine Kd.R_append Kd.string (w0 := w) w.heap.size rfl (.tmp 70) (.tmp 75) 27 9 (.string ⟨#[]⟩) 16 rfl Try.underlying27 info9 rfl (by decide) (by omega) u8 x8_4 (rdOf ByteArray.empty l0 x9_4) [.string (rdOf ByteArray.empty l0 x9_4)] (fun _ => True) (fun _ => False) rfl rfl ?aP (fun _ hk => hk.elim) ?aF ?aO ?aB ?aS ?aL ?_; (case aP => exact rfl); (case aB => exact (by repeat (first | (with_reducible first | exact HB.out | apply below_alloc | apply pw_below_drewN | apply below_drew1) | exact HB.out))); (case aF => exact (fun _ _ => trivial)); (case aO => exact (by (with_reducible repeat (first | apply Kd.R_alloc | apply Kd.R_drewN | apply Kd.R_drew)); exact HO_8.out)); (case aS => exact (below_size (by repeat (first | (with_reducible first | exact HB.out | apply below_alloc | apply pw_below_drewN | apply below_drew1) | exact HB.out)))); (case aL => have := LMc38.out; omega); intro v148 w39 ho hb hg hat; rw [← Ny147.out] at ho; have n0_ := Aside0.mk (Kd.S_after (ok := (fun _ => True)) (by (with_reducible repeat (first | apply Kd.S_alloc | apply Kd.S_drewN | apply Kd.S_drew)); exact Kd.S_mono HO_6.out (fun _ hk => ⟨trivial, hk⟩)) hg hat); have n1_ := Aside0.mk (hb); have n2_ := Aside0.mk (ho); clear HO_6; clear HB; clear HO_8; have HO_6 := n0_; have HB := n1_; have HO149 := n2_; clear n0_ n1_ n2_; clear ho hb hg hat))
                                            go_roundg k4
                                            case measure => have := HJ9.out; have := HJ26.out; have := HK3.out; have := HK4.out; omega
                                            case rel => exact ⟨(y147), (wrap64 (x9_4 + 1)), (by first | rfl | (simp; done) | (simp [*]; done)), H', ⟨by have := HJ9.out; have := HJ26.out; have := HK3.out; have := HK4.out; omega⟩, ⟨by (with_reducible repeat (first | apply Kd.S_alloc | apply Kd.S_drewN | apply Kd.S_drew)); exact Kd.S_mono HO_6.out (fun _ hk => hk.2)⟩, ⟨by (with_reducible repeat (first | apply Kd.R_alloc | apply Kd.R_drewN | apply Kd.R_drew)); exact HO149.out⟩, ⟨by repeat (first | (with_reducible first | exact HB.out | apply below_alloc | apply pw_below_drewN | apply below_drew1) | exact HB.out)⟩⟩
                                          · rw [if_neg c38] at H
                                            exact absurd H (by simp)
                                        · rw [if_neg c37] at H
                                          have c37b0 : (t145 == x7_3) = false := beq_eq_false_iff_ne.mpr c37
                                          have c37b1 : (t145 != x7_3) = true := bne_iff_ne.mpr c37
                                          have H' := Aside0.mk H
                                          clear H
                                          have p144 : 0 ≤ (x9_4 : Int) := of_decide_eq_true (by first | (with_reducible assumption) | assumption)
                                          have q144 : x9_4 < (l0.length : Int) := of_decide_eq_true (by first | (with_reducible assumption) | assumption)
                                          obtain ⟨ad144, e144, hx144_0⟩ := Kd.at_string HR0.out x9_4 p144 q144
                                          cases e144
                                          replace hx144_0 := (HB.out.cell (World.block_lt_of_cell? w _ hx144_0)).trans hx144_0
                                          replace p144 := eq_true p144
                                          replace q144 := eq_true q144
                                          go_wp2_with (first | ((with_reducible refine gate_callee (f := 17) rfl ?_); refine goesL_ (some 67) rfl rfl Try.func17 (by kernel_rfl) rfl #[.string (rdOf ByteArray.empty l0 x9_4), .int .i64 a1] rfl (by (try simp only [List.map_toArray, List.map_cons, List.map_nil]); first | done | rfl | (simp only [List.length_drop, List.length_take]; rfl)) ?_; (with_reducible refine (vouchref14_To.calls k4 (rdOf ByteArray.empty l0 x9_4) a1 t145 _ A36.out).mono ?_); rintro e w' ⟨rfl, ⟨nd, rfl⟩⟩; refine ⟨_, rfl, ?_⟩))
                                          go_roundg k4
                                          case measure => have := HJ9.out; have := HJ26.out; have := HK3.out; have := HK4.out; omega
                                          case rel => exact ⟨(x8_4), (wrap64 (x9_4 + 1)), (by first | rfl | (simp; done) | (simp [*]; done)), H', ⟨by have := HJ9.out; have := HJ26.out; have := HK3.out; have := HK4.out; omega⟩, ⟨by (with_reducible repeat (first | apply Kd.S_alloc | apply Kd.S_drewN | apply Kd.S_drew)); exact HO_6.out⟩, ⟨by (with_reducible repeat (first | apply Kd.R_alloc | apply Kd.R_drewN | apply Kd.R_drew)); exact HO_8.out⟩, ⟨by repeat (first | (with_reducible first | exact HB.out | apply below_alloc | apply pw_below_drewN | apply below_drew1) | exact HB.out)⟩⟩
                                      · rw [if_neg c35] at H
                                        exact absurd H (by simp)
                                    · rw [if_neg c34] at H
                                      have c34b0 : decide (x9_4 < (l0.length : Int)) = false := decide_eq_false c34
                                      clear c34
                                      by_cases c40 : 0 ≤ x7_3
                                      · rw [if_pos c40] at H
                                        have c40b0 : decide (0 ≤ x7_3) = true := decide_eq_true c40
                                        clear c40
                                        by_cases c41 : x7_3 < (t135.length : Int)
                                        · rw [if_pos c41] at H
                                          have c41b0 : decide (x7_3 < (t135.length : Int)) = true := decide_eq_true c41
                                          clear c41
                                          replace H := Option.bind_eq_some_iff.mp H
                                          obtain ⟨t151, A420, H⟩ := H
                                          replace H : (if t151 = true then (vouchlaw14_RouteSpreads.l0 k4 l0 a1 t135 (wrap64 (x7_3 + 1))) else (some false)) = some r := H
                                          have A42 := Aside0.mk A420
                                          clear A420
                                          by_cases c43 : t151 = true
                                          · subst c43
                                            have H1 : (vouchlaw14_RouteSpreads.l0 k4 l0 a1 t135 (wrap64 (x7_3 + 1))) = some r := by rw [if_pos rfl] at H; exact H
                                            clear H
                                            have H := H1
                                            clear H1
                                            have H' := Aside0.mk H
                                            clear H
                                            have p150 : 0 ≤ (x7_3 : Int) := of_decide_eq_true (by first | (with_reducible assumption) | assumption)
                                            have q150 : x7_3 < (t135.length : Int) := of_decide_eq_true (by first | (with_reducible assumption) | assumption)
                                            obtain ⟨ad150, A150_0, c150_0, e150, hx150_0, hl150_0, hi150_0⟩ := at_L1 (Kd.S_reads' HO_6.out).2.2 x7_3 p150 q150
                                            cases e150
                                            obtain ⟨ce150, hce150, hMe150, hcc150⟩ := Kd.S_get HO_6.out [] x7_3 p150 (by first | exact q150 | exact of_decide_eq_true (by first | (with_reducible assumption) | assumption) | (have e_ := (Kd.S_reads' HO_6.out).1; omega))
                                            obtain ⟨ve150_0, rfl, ge150_0⟩ := hMe150
                                            have hv150_0 := hcc150 0 _ rfl
                                            rw [Nat.add_zero, show ((Kd.slice 9 Kd.string)).sz = 1 from rfl, Nat.mul_one] at hv150_0
                                            replace hv150_0 := Option.some.inj (hv150_0.symm.trans hx150_0)
                                            rw [hv150_0] at ge150_0
                                            have HL150_0 := Aside0.mk (show Kd.R Kd.string 9 _ _ _ _ (rd_L1 t135 x7_3) from ge150_0)
                                            clear hv150_0 ge150_0
                                            clear hcc150 hce150
                                            have HR150_0 := Aside0.mk hi150_0
                                            have HC150_0 := Aside0.mk hl150_0
                                            clear hi150_0 hl150_0
                                            replace p150 := eq_true p150
                                            replace q150 := eq_true q150
                                            obtain ⟨Ao44, co44, eo44⟩ := Kd.R_slice HO_8.out
                                            subst eo44
                                            go_wp2_with (first | ((with_reducible refine gate_callee (f := 19) rfl ?_); refine goesL_ (some 82) rfl rfl Try.func19 (by kernel_rfl) rfl #[.slice A150_0 (rd_L1 t135 x7_3).length c150_0, .slice Ao44 x8_4.length co44] rfl (by (try simp only [List.map_toArray, List.map_cons, List.map_nil]); first | done | rfl | (simp only [List.length_drop, List.length_take]; rfl)) ?_; (with_reducible refine (vouchref05_SameTexts.calls k4 _ _ (rd_L1 t135 x7_3) _ _ x8_4 true _ ?side1 ?side2 ?side3 ?side4 A42.out).mono ?_); (case side1 => repeat (first | exact (by repeat (first | (with_reducible exact HR150_0.out) | (with_reducible refine Kd.C_alloc ?_ _) | (with_reducible refine Kd.C_drewN ?_ _) | (with_reducible refine Kd.C_drew ?_) | exact HR150_0.out)) | (with_reducible refine Kd.C_alloc ?_ _) | (with_reducible refine Kd.C_drewN ?_ _) | (with_reducible refine Kd.C_drew ?_))); (case side2 => exact HC150_0.out); (case side3 => repeat (first | exact (Kd.R_reads' HO_8.out).2.2 | (with_reducible refine Kd.C_alloc ?_ _) | (with_reducible refine Kd.C_drewN ?_ _) | (with_reducible refine Kd.C_drew ?_))); (case side4 => exact (Kd.R_reads' HO_8.out).2.1); rintro e w' ⟨rfl, ⟨nd, rfl⟩⟩; refine ⟨_, rfl, ?_⟩))
                                            go_roundg k4
                                            case measure => have := HJ9.out; have := HJ26.out; have := HK3.out; have := HK4.out; omega
                                            case rel => exact ⟨(wrap64 (x7_3 + 1)), (by first | rfl | (simp; done) | (simp [*]; done)), H', ⟨by have := HJ9.out; have := HJ26.out; have := HK3.out; have := HK4.out; omega⟩, ⟨by (with_reducible repeat (first | apply Kd.S_alloc | apply Kd.S_drewN | apply Kd.S_drew)); exact Kd.S_mono HO_6.out (fun _ hk => trivial)⟩, ⟨by repeat (first | (with_reducible first | exact HB.out | apply below_alloc | apply pw_below_drewN | apply below_drew1) | exact HB.out)⟩⟩
                                          · replace c43 := Bool.eq_false_iff.mpr c43
                                            subst c43
                                            have H1 : (some false) = some r := by rw [if_neg (show ¬ (false = true) by decide)] at H; exact H
                                            clear H
                                            have H := H1
                                            clear H1
                                            obtain rfl := Option.some.inj H
                                            have p150 : 0 ≤ (x7_3 : Int) := of_decide_eq_true (by first | (with_reducible assumption) | assumption)
                                            have q150 : x7_3 < (t135.length : Int) := of_decide_eq_true (by first | (with_reducible assumption) | assumption)
                                            obtain ⟨ad150, A150_0, c150_0, e150, hx150_0, hl150_0, hi150_0⟩ := at_L1 (Kd.S_reads' HO_6.out).2.2 x7_3 p150 q150
                                            cases e150
                                            obtain ⟨ce150, hce150, hMe150, hcc150⟩ := Kd.S_get HO_6.out [] x7_3 p150 (by first | exact q150 | exact of_decide_eq_true (by first | (with_reducible assumption) | assumption) | (have e_ := (Kd.S_reads' HO_6.out).1; omega))
                                            obtain ⟨ve150_0, rfl, ge150_0⟩ := hMe150
                                            have hv150_0 := hcc150 0 _ rfl
                                            rw [Nat.add_zero, show ((Kd.slice 9 Kd.string)).sz = 1 from rfl, Nat.mul_one] at hv150_0
                                            replace hv150_0 := Option.some.inj (hv150_0.symm.trans hx150_0)
                                            rw [hv150_0] at ge150_0
                                            have HL150_0 := Aside0.mk (show Kd.R Kd.string 9 _ _ _ _ (rd_L1 t135 x7_3) from ge150_0)
                                            clear hv150_0 ge150_0
                                            clear hcc150 hce150
                                            have HR150_0 := Aside0.mk hi150_0
                                            have HC150_0 := Aside0.mk hl150_0
                                            clear hi150_0 hl150_0
                                            replace p150 := eq_true p150
                                            replace q150 := eq_true q150
                                            obtain ⟨Ao45, co45, eo45⟩ := Kd.R_slice HO_8.out
                                            subst eo45
                                            go_wp2_with (first | ((with_reducible refine gate_callee (f := 19) rfl ?_); refine goesL_ (some 82) rfl rfl Try.func19 (by kernel_rfl) rfl #[.slice A150_0 (rd_L1 t135 x7_3).length c150_0, .slice Ao45 x8_4.length co45] rfl (by (try simp only [List.map_toArray, List.map_cons, List.map_nil]); first | done | rfl | (simp only [List.length_drop, List.length_take]; rfl)) ?_; (with_reducible refine (vouchref05_SameTexts.calls k4 _ _ (rd_L1 t135 x7_3) _ _ x8_4 false _ ?side1 ?side2 ?side3 ?side4 A42.out).mono ?_); (case side1 => repeat (first | exact (by repeat (first | (with_reducible exact HR150_0.out) | (with_reducible refine Kd.C_alloc ?_ _) | (with_reducible refine Kd.C_drewN ?_ _) | (with_reducible refine Kd.C_drew ?_) | exact HR150_0.out)) | (with_reducible refine Kd.C_alloc ?_ _) | (with_reducible refine Kd.C_drewN ?_ _) | (with_reducible refine Kd.C_drew ?_))); (case side2 => exact HC150_0.out); (case side3 => repeat (first | exact (Kd.R_reads' HO_8.out).2.2 | (with_reducible refine Kd.C_alloc ?_ _) | (with_reducible refine Kd.C_drewN ?_ _) | (with_reducible refine Kd.C_drew ?_))); (case side4 => exact (Kd.R_reads' HO_8.out).2.1); rintro e w' ⟨rfl, ⟨nd, rfl⟩⟩; refine ⟨_, rfl, ?_⟩))
                                            go_ret
                                            exact ⟨by first | rfl | (simp [errW_none, errW_some] <;> rfl) | (simp [*, errW_none, errW_some] <;> rfl), by repeat (first | (with_reducible first | exact HB.out | apply below_alloc | apply pw_below_drewN | apply below_drew1) | exact HB.out)⟩
                                        · rw [if_neg c41] at H
                                          exact absurd H (by simp)
                                      · rw [if_neg c40] at H
                                        exact absurd H (by simp)
                              · rw [if_neg c33] at H
                                have c33b0 : decide (x7_3 < a1) = false := decide_eq_false c33
                                clear c33
                                obtain rfl := Option.some.inj H
                                go_wp2
                                go_ret
                                exact ⟨by first | rfl | (simp [errW_none, errW_some] <;> rfl) | (simp [*, errW_none, errW_some] <;> rfl), by repeat (first | (with_reducible first | exact HB.out | apply below_alloc | apply pw_below_drewN | apply below_drew1) | exact HB.out)⟩
                        · rw [if_neg c31] at H
                          have c31b0 : ((t135.length : Int) == a1) = false := beq_eq_false_iff_ne.mpr c31
                          have c31b1 : ((t135.length : Int) != a1) = true := bne_iff_ne.mpr c31
                          obtain rfl := Option.some.inj H
                          obtain ⟨Ao46, co46, eo46⟩ := Kd.S_slice HO_6.out
                          subst eo46
                          go_wp2
                          go_ret
                          exact ⟨by first | rfl | (simp [errW_none, errW_some] <;> rfl) | (simp [*, errW_none, errW_some] <;> rfl), by repeat (first | (with_reducible first | exact HB.out | apply below_alloc | apply pw_below_drewN | apply below_drew1) | exact HB.out)⟩
          · rw [if_neg c8] at H
            exact absurd H (by simp)
        · rw [if_neg c7] at H
          exact absurd H (by simp)
      · rw [if_neg c6] at H
        exact absurd H (by simp)
    · rw [if_neg c5] at H
      exact absurd H (by simp)
  · replace c4 := Bool.eq_false_iff.mpr c4
    subst c4
    have H1 : (some false) = some r := by rw [if_neg (show ¬ (false = true) by decide)] at H; exact H
    clear H
    have H := H1
    clear H1
    obtain rfl := Option.some.inj H
    go_enter Try.func4, Try.ntmps4
    go_wp2_with (first | ((with_reducible refine gate_callee (f := 13) rfl ?_); refine goesL_ (some 10) rfl rfl Try.func13 (by kernel_rfl) rfl #[] rfl (by (try simp only [List.map_toArray, List.map_cons, List.map_nil]); first | done | rfl | (simp only [List.length_drop, List.length_take]; rfl)) ?_; (with_reducible refine (vouchlaw14_fixed.calls k  false _ A3.out).mono ?_); rintro e w47 ⟨rfl, hb⟩; refine ⟨_, rfl, ?_⟩; have n0_ := Aside0.mk (below_step (by repeat (first | (with_reducible first | exact HB.out | apply below_alloc | apply pw_below_drewN | apply below_drew1) | exact HB.out)) hb); clear HB; have HB := n0_; clear n0_; (try clear hb); (try clear hb2); (try clear hk); (try clear hi)))
    go_ret
    exact ⟨by first | rfl | (simp [errW_none, errW_some] <;> rfl) | (simp [*, errW_none, errW_some] <;> rfl), by repeat (first | (with_reducible first | exact HB.out | apply below_alloc | apply pw_below_drewN | apply below_drew1) | exact HB.out)⟩

end Go.Proofs.Ythgfgbligkchiaa.PRouteSpreads
