-- PRINTED BY print.sh 35421559b90ae4d0a3588c463048766b98c2df88dd9212a6774a882060cdf62d: not written by this session
import Derived.Test.YthgfgbligkchiaaPRouteRangesx0
import Derived.Test.YthgfgbligkchiaaPRouteRangesx1
namespace Go.Proofs.Ythgfgbligkchiaa.PRouteRanges
open Go.RowKit Go.Proofs.YthgfgbligkchiaaW.PrintWords Go.Proofs.YthgfgbligkchiaaW.PrintLast Go.Proofs.YthgfgbligkchiaaW.PrintMore
attribute [local go_sem] max2_int min2_int max_two min_two max_three min_three max_four min_four   -- for this text's walks alone
set_option linter.unusedVariables false
set_option linter.unusedSimpArgs false

/-! ### vouchlaw14_RouteRanges: function 6 -/
mutual
def vouchlaw14_RouteRanges.l0 : Nat → List ByteArray → Int → List (List ByteArray) → Int → Int → Option (Bool)
  | 0, _, _, _, _, _ => none
  | k + 1, x0, x5, x6, x7, x8 => if x8 < x5 then (if 0 ≤ x8 then (if x8 < (x6.length : Int) then (vouchlaw14_RouteRanges.l1 k x0 x5 x6 (wrap64 (x7 + ((rd_L1 x6 x8).length : Int))) x8 0) else (none)) else (none)) else (vouchlaw14_RouteRanges.l2 k x0 x5 x7 0)
def vouchlaw14_RouteRanges.l1 : Nat → List ByteArray → Int → List (List ByteArray) → Int → Int → Int → Option (Bool)
  | 0, _, _, _, _, _, _ => none
  | k + 1, x0, x5, x6, x7, x8, x9 => if 0 ≤ x8 then (if x8 < (x6.length : Int) then (if x9 < ((rd_L1 x6 x8).length : Int) then (if 0 ≤ x9 then ((route_To.f k (rdOf ByteArray.empty (rd_L1 x6 x8) x9) x5).bind fun t126 => (if t126 = x8 then (vouchlaw14_RouteRanges.l1 k x0 x5 x6 x7 x8 (wrap64 (x9 + 1))) else (some false))) else (none)) else (vouchlaw14_RouteRanges.l0 k x0 x5 x6 x7 (wrap64 (x8 + 1)))) else (none)) else (none)
def vouchlaw14_RouteRanges.l2 : Nat → List ByteArray → Int → Int → Int → Option (Bool)
  | 0, _, _, _, _ => none
  | k + 1, x0, x5, x7, x10 => if x10 < (x0.length : Int) then (if 0 ≤ x10 then ((route_To.f k (rdOf ByteArray.empty x0 x10) x5).bind fun t128 => (if t128 < 0 then (some false) else (if t128 ≥ x5 then (some false) else (vouchlaw14_RouteRanges.l2 k x0 x5 x7 (wrap64 (x10 + 1)))))) else (none)) else (some (x7 == (x0.length : Int)))
end
def vouchlaw14_RouteRanges.f (k : Nat) (l0 : List ByteArray) (a1 : Int) : Option (Bool) := (vouchlaw14_fixed.f k).bind fun t118 => (if t118 = true then ((route_Spread.f k l0 (wrap64 ((Int.tmod (wrap64 (a1)) 8) + 1))).bind fun t119 => (if (t119.length : Int) = (wrap64 ((Int.tmod (wrap64 (a1)) 8) + 1)) then (vouchlaw14_RouteRanges.l0 k l0 (wrap64 ((Int.tmod (wrap64 (a1)) 8) + 1)) t119 0 0) else (some false))) else (some false))
theorem vouchlaw14_RouteRanges.mono_l : ∀ k, (∀ y0 y1 y2 y3 y4, LeO (vouchlaw14_RouteRanges.l0 k y0 y1 y2 y3 y4) (vouchlaw14_RouteRanges.l0 (k + 1) y0 y1 y2 y3 y4)) ∧ (∀ y0 y1 y2 y3 y4 y5, LeO (vouchlaw14_RouteRanges.l1 k y0 y1 y2 y3 y4 y5) (vouchlaw14_RouteRanges.l1 (k + 1) y0 y1 y2 y3 y4 y5)) ∧ (∀ y0 y1 y2 y3, LeO (vouchlaw14_RouteRanges.l2 k y0 y1 y2 y3) (vouchlaw14_RouteRanges.l2 (k + 1) y0 y1 y2 y3))
  | 0 => ⟨fun _ _ _ _ _ r h => by simp [vouchlaw14_RouteRanges.l0] at h, fun _ _ _ _ _ _ r h => by simp [vouchlaw14_RouteRanges.l1] at h, fun _ _ _ _ r h => by simp [vouchlaw14_RouteRanges.l2] at h⟩
  | k + 1 => by
    obtain ⟨ih0, ih1, ih2⟩ := vouchlaw14_RouteRanges.mono_l k
    refine ⟨?_, ?_, ?_⟩
    · intro y0 y1 y2 y3 y4
      unfold vouchlaw14_RouteRanges.l0
      repeat' first
      | (with_reducible exact ih0 _ _ _ _ _)
      | (with_reducible exact ih1 _ _ _ _ _ _)
      | (with_reducible exact ih2 _ _ _ _)
      | (with_reducible exact route_Spread.mono _ _ _)
      | (with_reducible exact route_To.mono _ _ _)
      | (with_reducible exact vouchlaw14_fixed.mono _)
      | (with_reducible exact LeO.refl _)
      | (with_reducible exact LeO.none _)
      | (with_reducible refine LeO.ite ?_ ?_)
      | (with_reducible refine LeO.bind ?_ (fun _ => ?_))
      | exact ih0 _ _ _ _ _
      | exact ih1 _ _ _ _ _ _
      | exact ih2 _ _ _ _
      | exact route_Spread.mono _ _ _
      | exact route_To.mono _ _ _
      | exact vouchlaw14_fixed.mono _
      | exact LeO.none _
      | refine LeO.ite ?_ ?_
      | refine LeO.bind ?_ (fun _ => ?_)
    · intro y0 y1 y2 y3 y4 y5
      unfold vouchlaw14_RouteRanges.l1
      repeat' first
      | (with_reducible exact ih0 _ _ _ _ _)
      | (with_reducible exact ih1 _ _ _ _ _ _)
      | (with_reducible exact ih2 _ _ _ _)
      | (with_reducible exact route_Spread.mono _ _ _)
      | (with_reducible exact route_To.mono _ _ _)
      | (with_reducible exact vouchlaw14_fixed.mono _)
      | (with_reducible exact LeO.refl _)
      | (with_reducible exact LeO.none _)
      | (with_reducible refine LeO.ite ?_ ?_)
      | (with_reducible refine LeO.bind ?_ (fun _ => ?_))
      | exact ih0 _ _ _ _ _
      | exact ih1 _ _ _ _ _ _
      | exact ih2 _ _ _ _
      | exact route_Spread.mono _ _ _
      | exact route_To.mono _ _ _
      | exact vouchlaw14_fixed.mono _
      | exact LeO.none _
      | refine LeO.ite ?_ ?_
      | refine LeO.bind ?_ (fun _ => ?_)
    · intro y0 y1 y2 y3
      unfold vouchlaw14_RouteRanges.l2
      repeat' first
      | (with_reducible exact ih0 _ _ _ _ _)
      | (with_reducible exact ih1 _ _ _ _ _ _)
      | (with_reducible exact ih2 _ _ _ _)
      | (with_reducible exact route_Spread.mono _ _ _)
      | (with_reducible exact route_To.mono _ _ _)
      | (with_reducible exact vouchlaw14_fixed.mono _)
      | (with_reducible exact LeO.refl _)
      | (with_reducible exact LeO.none _)
      | (with_reducible refine LeO.ite ?_ ?_)
      | (with_reducible refine LeO.bind ?_ (fun _ => ?_))
      | exact ih0 _ _ _ _ _
      | exact ih1 _ _ _ _ _ _
      | exact ih2 _ _ _ _
      | exact route_Spread.mono _ _ _
      | exact route_To.mono _ _ _
      | exact vouchlaw14_fixed.mono _
      | exact LeO.none _
      | refine LeO.ite ?_ ?_
      | refine LeO.bind ?_ (fun _ => ?_)
theorem vouchlaw14_RouteRanges.mono : ∀ a0 a1 k, LeO (vouchlaw14_RouteRanges.f k a0 a1) (vouchlaw14_RouteRanges.f (k + 1) a0 a1) := by
  intro a0 a1 k
  obtain ⟨ih0, ih1, ih2⟩ := vouchlaw14_RouteRanges.mono_l k
  unfold vouchlaw14_RouteRanges.f
  repeat' first
      | (with_reducible exact ih0 _ _ _ _ _)
      | (with_reducible exact ih1 _ _ _ _ _ _)
      | (with_reducible exact ih2 _ _ _ _)
      | (with_reducible exact route_Spread.mono _ _ _)
      | (with_reducible exact route_To.mono _ _ _)
      | (with_reducible exact vouchlaw14_fixed.mono _)
      | (with_reducible exact LeO.refl _)
      | (with_reducible exact LeO.none _)
      | (with_reducible refine LeO.ite ?_ ?_)
      | (with_reducible refine LeO.bind ?_ (fun _ => ?_))
      | exact ih0 _ _ _ _ _
      | exact ih1 _ _ _ _ _ _
      | exact ih2 _ _ _ _
      | exact route_Spread.mono _ _ _
      | exact route_To.mono _ _ _
      | exact vouchlaw14_fixed.mono _
      | exact LeO.none _
      | refine LeO.ite ?_ ?_
      | refine LeO.bind ?_ (fun _ => ?_)
set_option maxHeartbeats 8000000 in
set_option maxRecDepth 100000 in
theorem vouchlaw14_RouteRanges.calls (k : Nat) (A0 : Option Addr) (c0 : Nat) (l0 : List ByteArray) (a1 : Int) (r : Bool) (w : World) (hr0 : Kd.C Kd.string w A0 l0.length l0) (hc0 : l0.length ≤ c0) (h : vouchlaw14_RouteRanges.f k l0 a1 = some r) :
    Calls Try.prog 6 #[.slice A0 l0.length c0, .int .u8 a1] w fun e w' => e = .returned (.bool r) ∧ Below w.heap.size w w' := by
  have HR0 := Aside0.mk hr0
  have HC0 := Aside0.mk hc0
  clear hr0 hc0
  have HB := Aside0.mk (Below.refl w.heap.size w)
  have H : ((vouchlaw14_fixed.f k).bind fun t118 => (if t118 = true then ((route_Spread.f k l0 (wrap64 ((Int.tmod (wrap64 (a1)) 8) + 1))).bind fun t119 => (if (t119.length : Int) = (wrap64 ((Int.tmod (wrap64 (a1)) 8) + 1)) then (vouchlaw14_RouteRanges.l0 k l0 (wrap64 ((Int.tmod (wrap64 (a1)) 8) + 1)) t119 0 0) else (some false))) else (some false))) = some r := h
  clear h
  replace H := Option.bind_eq_some_iff.mp H
  obtain ⟨t118, A30, H⟩ := H
  replace H : (if t118 = true then ((route_Spread.f k l0 (wrap64 ((Int.tmod (wrap64 (a1)) 8) + 1))).bind fun t119 => (if (t119.length : Int) = (wrap64 ((Int.tmod (wrap64 (a1)) 8) + 1)) then (vouchlaw14_RouteRanges.l0 k l0 (wrap64 ((Int.tmod (wrap64 (a1)) 8) + 1)) t119 0 0) else (some false))) else (some false)) = some r := H
  have A3 := Aside0.mk A30
  clear A30
  by_cases c4 : t118 = true
  · subst c4
    have H1 : ((route_Spread.f k l0 (wrap64 ((Int.tmod (wrap64 (a1)) 8) + 1))).bind fun t119 => (if (t119.length : Int) = (wrap64 ((Int.tmod (wrap64 (a1)) 8) + 1)) then (vouchlaw14_RouteRanges.l0 k l0 (wrap64 ((Int.tmod (wrap64 (a1)) 8) + 1)) t119 0 0) else (some false))) = some r := by rw [if_pos rfl] at H; exact H
    clear H
    have H := H1
    clear H1
    replace H := Option.bind_eq_some_iff.mp H
    obtain ⟨t119, A50, H⟩ := H
    replace H : (if (t119.length : Int) = (wrap64 ((Int.tmod (wrap64 (a1)) 8) + 1)) then (vouchlaw14_RouteRanges.l0 k l0 (wrap64 ((Int.tmod (wrap64 (a1)) 8) + 1)) t119 0 0) else (some false)) = some r := H
    have A5 := Aside0.mk A50
    clear A50
    by_cases c6 : (t119.length : Int) = (wrap64 ((Int.tmod (wrap64 (a1)) 8) + 1))
    · rw [if_pos c6] at H
      have c6b0 : ((t119.length : Int) == (wrap64 ((Int.tmod (wrap64 (a1)) 8) + 1))) = true := beq_iff_eq.mpr c6
      have c6b1 : ((t119.length : Int) != (wrap64 ((Int.tmod (wrap64 (a1)) 8) + 1))) = false := bne_eq_false_iff_eq.mpr c6
      clear c6
      have H' := Aside0.mk H
      clear H
      go_enter Try.func6, Try.ntmps6
      go_wp2_with (first | ((with_reducible refine gate_callee (f := 13) rfl ?_); refine goesL_ (some 12) rfl rfl Try.func13 (by kernel_rfl) rfl #[] rfl (by (try simp only [List.map_toArray, List.map_cons, List.map_nil]); first | done | rfl | (simp only [List.length_drop, List.length_take]; rfl)) ?_; (with_reducible refine (vouchlaw14_fixed.calls k  true _ A3.out).mono ?_); rintro e w7 ⟨rfl, hb⟩; refine ⟨_, rfl, ?_⟩; have n0_ := Aside0.mk (below_step (by repeat (first | (with_reducible first | exact HB.out | apply below_alloc | apply pw_below_drewN | apply below_drew1) | exact HB.out)) hb); clear HB; have HB := n0_; clear n0_; (try clear hb); (try clear hb2); (try clear hk); (try clear hi)) | ((with_reducible refine gate_callee (f := 18) rfl ?_); refine goesL_ (some 20) rfl rfl Try.func18 (by kernel_rfl) rfl #[.slice A0 l0.length c0, .int .i64 (wrap64 ((Int.tmod (wrap64 (a1)) 8) + 1))] rfl (by (try simp only [List.map_toArray, List.map_cons, List.map_nil]); first | done | rfl | (simp only [List.length_drop, List.length_take]; rfl)) ?_; (with_reducible refine (route_Spread.calls k _ _ l0 (wrap64 ((Int.tmod (wrap64 (a1)) 8) + 1)) t119 _ ?side1 ?side2 A5.out).mono ?_); (case side1 => repeat (first | exact (Kd.C_below HR0.out HB.out) | (with_reducible refine Kd.C_alloc ?_ _) | (with_reducible refine Kd.C_drewN ?_ _) | (with_reducible refine Kd.C_drew ?_))); (case side2 => exact HC0.out); rintro e w8 ⟨v120, rfl, ho0, hb⟩; refine ⟨_, rfl, ?_⟩; have n0_ := Aside0.mk (Kd.S_lower ho0 (below_size (by repeat (first | (with_reducible first | exact HB.out | apply below_alloc | apply pw_below_drewN | apply below_drew1) | exact HB.out)))); have n1_ := Aside0.mk (below_step (by repeat (first | (with_reducible first | exact HB.out | apply below_alloc | apply pw_below_drewN | apply below_drew1) | exact HB.out)) hb); clear HB; have HO121 := n0_; have HB := n1_; clear n0_ n1_; (try clear hb); (try clear hb2); (try clear hk); (try clear hi); (try clear ho0); obtain ⟨Ao9, co9, eo9⟩ := Kd.S_slice HO121.out; subst eo9))
      go_loopg [7, 8] k (fun kq v7 v8 w' => ∃ (x7_1 : Int) (x8_1 : Int), v7 = .int .i64 x7_1 ∧ v8 = .int .i64 x8_1 ∧ Aside0 (vouchlaw14_RouteRanges.l0 kq l0 (wrap64 ((Int.tmod (wrap64 (a1)) 8) + 1)) t119 x7_1 x8_1 = some r) ∧ Aside0 (kq ≤ k) ∧ Aside0 (Kd.S (Kd.slice 9 Kd.string) 27 w' w.heap.size (fun _ => True) (.slice Ao9 t119.length co9) t119) ∧ Aside0 (Below w.heap.size w w'))
      case atStart => exact ⟨(0), (0), (by first | rfl | (simp; done) | (simp [*]; done)), (by first | rfl | (simp; done) | (simp [*]; done)), H', ⟨Nat.le_refl _⟩, ⟨by (with_reducible repeat (first | apply Kd.S_alloc | apply Kd.S_drewN | apply Kd.S_drew)); exact HO121.out⟩, ⟨by repeat (first | (with_reducible first | exact HB.out | apply below_alloc | apply pw_below_drewN | apply below_drew1) | exact HB.out)⟩⟩
      case round =>
        clear H'
        try clear c1
        try clear p2
        try clear c4
        try clear c6
        try clear c6b0
        try clear c6b1
        try clear p6
        obtain ⟨x7_1, x8_1, rfl, rfl, HA, HK1, HO_6, HB⟩ := hrel
        cases gk with
        | zero => exact absurd HA.out (by simp [vouchlaw14_RouteRanges.l0])
        | succ k1 =>
          have H := HA.out
          clear HA
          simp only [vouchlaw14_RouteRanges.l0] at H
          by_cases c10 : x8_1 < (wrap64 ((Int.tmod (wrap64 (a1)) 8) + 1))
          · rw [if_pos c10] at H
            have c10b0 : decide (x8_1 < (wrap64 ((Int.tmod (wrap64 (a1)) 8) + 1))) = true := decide_eq_true c10
            clear c10
            by_cases c11 : 0 ≤ x8_1
            · rw [if_pos c11] at H
              have c11b0 : decide (0 ≤ x8_1) = true := decide_eq_true c11
              clear c11
              by_cases c12 : x8_1 < (t119.length : Int)
              · rw [if_pos c12] at H
                have c12b0 : decide (x8_1 < (t119.length : Int)) = true := decide_eq_true c12
                clear c12
                have H' := Aside0.mk H
                clear H
                have p122 : 0 ≤ (x8_1 : Int) := of_decide_eq_true (by first | (with_reducible assumption) | assumption)
                have q122 : x8_1 < (t119.length : Int) := of_decide_eq_true (by first | (with_reducible assumption) | assumption)
                obtain ⟨ad122, A122_0, c122_0, e122, hx122_0, hl122_0, hi122_0⟩ := at_L1 (Kd.S_reads' HO_6.out).2.2 x8_1 p122 q122
                cases e122
                obtain ⟨ce122, hce122, hMe122, hcc122⟩ := Kd.S_get HO_6.out [] x8_1 p122 (by first | exact q122 | exact of_decide_eq_true (by first | (with_reducible assumption) | assumption) | (have e_ := (Kd.S_reads' HO_6.out).1; omega))
                obtain ⟨ve122_0, rfl, ge122_0⟩ := hMe122
                have hv122_0 := hcc122 0 _ rfl
                rw [Nat.add_zero, show ((Kd.slice 9 Kd.string)).sz = 1 from rfl, Nat.mul_one] at hv122_0
                replace hv122_0 := Option.some.inj (hv122_0.symm.trans hx122_0)
                rw [hv122_0] at ge122_0
                have HL122_0 := Aside0.mk (show Kd.R Kd.string 9 _ _ _ _ (rd_L1 t119 x8_1) from ge122_0)
                clear hv122_0 ge122_0
                clear hcc122 hce122
                have HR122_0 := Aside0.mk hi122_0
                have HC122_0 := Aside0.mk hl122_0
                clear hi122_0 hl122_0
                replace p122 := eq_true p122
                replace q122 := eq_true q122
                go_wp2
                go_loopg [9] k1 (fun kq v9 w' => ∃ (x9_2 : Int), v9 = .int .i64 x9_2 ∧ Aside0 (vouchlaw14_RouteRanges.l1 kq l0 (wrap64 ((Int.tmod (wrap64 (a1)) 8) + 1)) t119 (wrap64 (x7_1 + ((rd_L1 t119 x8_1).length : Int))) x8_1 x9_2 = some r) ∧ Aside0 (kq ≤ k1) ∧ Aside0 (Kd.S (Kd.slice 9 Kd.string) 27 w' w.heap.size (fun _ => True) (.slice (some ad122) t119.length co9) t119) ∧ Aside0 (Kd.C Kd.string w' A122_0 (rd_L1 t119 x8_1).length (rd_L1 t119 x8_1)) ∧ Aside0 (Below w.heap.size w w'))
                case atStart => exact ⟨(0), (by first | rfl | (simp; done) | (simp [*]; done)), H', ⟨Nat.le_refl _⟩, ⟨by (with_reducible repeat (first | apply Kd.S_alloc | apply Kd.S_drewN | apply Kd.S_drew)); exact HO_6.out⟩, ⟨by repeat (first | (with_reducible exact HR122_0.out) | (with_reducible refine Kd.C_alloc ?_ _) | (with_reducible refine Kd.C_drewN ?_ _) | (with_reducible refine Kd.C_drew ?_) | exact HR122_0.out)⟩, ⟨by repeat (first | (with_reducible first | exact HB.out | apply below_alloc | apply pw_below_drewN | apply below_drew1) | exact HB.out)⟩⟩
                case round =>
                  clear H'
                  try clear c1
                  try clear p1
                  try clear q1
                  try clear hx1
                  try clear p2
                  try clear c4
                  try clear c6
                  try clear c6b0
                  try clear c6b1
                  try clear p6
                  try clear c10
                  try clear c10b0
                  try clear c11
                  try clear c11b0
                  try clear c12
                  try clear c12b0
                  try clear p12
                  try clear q12
                  try clear hx12
                  try clear hx122_0
                  try clear p122
                  try clear p2
                  try clear p6
                  try clear q122
                  obtain ⟨x9_2, rfl, HA, HK2, HO_6, HR122_0, HB⟩ := hrel
                  cases gk with
                  | zero => exact absurd HA.out (by simp [vouchlaw14_RouteRanges.l1])
                  | succ k2 =>
                    have H := HA.out
                    clear HA
                    simp only [vouchlaw14_RouteRanges.l1] at H
                    by_cases c13 : 0 ≤ x8_1
                    · rw [if_pos c13] at H
                      have c13b0 : decide (0 ≤ x8_1) = true := decide_eq_true c13
                      clear c13
                      by_cases c14 : x8_1 < (t119.length : Int)
                      · rw [if_pos c14] at H
                        have c14b0 : decide (x8_1 < (t119.length : Int)) = true := decide_eq_true c14
                        clear c14
                        by_cases c15 : x9_2 < ((rd_L1 t119 x8_1).length : Int)
                        · rw [if_pos c15] at H
                          have c15b0 : decide (x9_2 < ((rd_L1 t119 x8_1).length : Int)) = true := decide_eq_true c15
                          clear c15
                          by_cases c16 : 0 ≤ x9_2
                          · rw [if_pos c16] at H
                            have c16b0 : decide (0 ≤ x9_2) = true := decide_eq_true c16
                            clear c16
                            replace H := Option.bind_eq_some_iff.mp H
                            obtain ⟨t126, A170, H⟩ := H
                            replace H : (if t126 = x8_1 then (vouchlaw14_RouteRanges.l1 k2 l0 (wrap64 ((Int.tmod (wrap64 (a1)) 8) + 1)) t119 (wrap64 (x7_1 + ((rd_L1 t119 x8_1).length : Int))) x8_1 (wrap64 (x9_2 + 1))) else (some false)) = some r := H
                            have A17 := Aside0.mk A170
                            clear A170
                            by_cases c18 : t126 = x8_1
                            · rw [if_pos c18] at H
                              have c18b0 : (t126 == x8_1) = true := beq_iff_eq.mpr c18
                              have c18b1 : (t126 != x8_1) = false := bne_eq_false_iff_eq.mpr c18
                              clear c18
                              have H' := Aside0.mk H
                              clear H
                              have p123 : 0 ≤ (x8_1 : Int) := of_decide_eq_true (by first | (with_reducible assumption) | assumption)
                              have q123 : x8_1 < (t119.length : Int) := of_decide_eq_true (by first | (with_reducible assumption) | assumption)
                              obtain ⟨ad123, A123_0, c123_0, e123, hx123_0, hl123_0, hi123_0⟩ := at_L1 (Kd.S_reads' HO_6.out).2.2 x8_1 p123 q123
                              obtain rfl : ad122 = ad123 := (by injection e123)
                              obtain ⟨ce123, hce123, hMe123, hcc123⟩ := Kd.S_get HO_6.out [] x8_1 p123 (by first | exact q123 | exact of_decide_eq_true (by first | (with_reducible assumption) | assumption) | (have e_ := (Kd.S_reads' HO_6.out).1; omega))
                              obtain ⟨ve123_0, rfl, ge123_0⟩ := hMe123
                              have hv123_0 := hcc123 0 _ rfl
                              rw [Nat.add_zero, show ((Kd.slice 9 Kd.string)).sz = 1 from rfl, Nat.mul_one] at hv123_0
                              replace hv123_0 := Option.some.inj (hv123_0.symm.trans hx123_0)
                              rw [hv123_0] at ge123_0
                              have HL123_0 := Aside0.mk (show Kd.R Kd.string 9 _ _ _ _ (rd_L1 t119 x8_1) from ge123_0)
                              clear hv123_0 ge123_0
                              clear hcc123 hce123
                              have HR123_0 := Aside0.mk hi123_0
                              have HC123_0 := Aside0.mk hl123_0
                              clear hi123_0 hl123_0
                              replace p123 := eq_true p123
                              replace q123 := eq_true q123
                              have p124 : 0 ≤ (x8_1 : Int) := of_decide_eq_true (by first | (with_reducible assumption) | assumption)
                              have q124 : x8_1 < (t119.length : Int) := of_decide_eq_true (by first | (with_reducible assumption) | assumption)
                              obtain ⟨ad124, A124_0, c124_0, e124, hx124_0, hl124_0, hi124_0⟩ := at_L1 (Kd.S_reads' HO_6.out).2.2 x8_1 p124 q124
                              obtain rfl : ad122 = ad124 := (by injection e124)
                              obtain ⟨ce124, hce124, hMe124, hcc124⟩ := Kd.S_get HO_6.out [] x8_1 p124 (by first | exact q124 | exact of_decide_eq_true (by first | (with_reducible assumption) | assumption) | (have e_ := (Kd.S_reads' HO_6.out).1; omega))
                              obtain ⟨ve124_0, rfl, ge124_0⟩ := hMe124
                              have hv124_0 := hcc124 0 _ rfl
                              rw [Nat.add_zero, show ((Kd.slice 9 Kd.string)).sz = 1 from rfl, Nat.mul_one] at hv124_0
                              replace hv124_0 := Option.some.inj (hv124_0.symm.trans hx124_0)
                              rw [hv124_0] at ge124_0
                              have HL124_0 := Aside0.mk (show Kd.R Kd.string 9 _ _ _ _ (rd_L1 t119 x8_1) from ge124_0)
                              clear hv124_0 ge124_0
                              clear hcc124 hce124
                              have HR124_0 := Aside0.mk hi124_0
                              have HC124_0 := Aside0.mk hl124_0
                              clear hi124_0 hl124_0
                              replace p124 := eq_true p124
                              replace q124 := eq_true q124
                              have ea_ := Option.some.inj (hx123_0.symm.trans hx124_0)
                              injection ea_ with ea_ en_ ec_
                              subst ea_
                              subst ec_
                              clear en_
                              have p125 : 0 ≤ (x9_2 : Int) := of_decide_eq_true (by first | (with_reducible assumption) | assumption)
                              have q125 : x9_2 < ((rd_L1 t119 x8_1).length : Int) := of_decide_eq_true (by first | (with_reducible assumption) | assumption)
                              obtain ⟨ad125, e125, hx125_0⟩ := Kd.at_string (by repeat (first | (with_reducible exact HR124_0.out) | (with_reducible refine Kd.C_alloc ?_ _) | (with_reducible refine Kd.C_drewN ?_ _) | (with_reducible refine Kd.C_drew ?_) | exact HR124_0.out)) x9_2 p125 q125
                              cases e125
                              replace p125 := eq_true p125
                              replace q125 := eq_true q125
                              go_wp2_with (first | ((with_reducible refine gate_callee (f := 16) rfl ?_); refine goesL_ (some 54) rfl rfl Try.func16 (by kernel_rfl) rfl #[.string (rdOf ByteArray.empty (rd_L1 t119 x8_1) x9_2), .int .i64 (wrap64 ((Int.tmod (wrap64 (a1)) 8) + 1))] rfl (by (try simp only [List.map_toArray, List.map_cons, List.map_nil]); first | done | rfl | (simp only [List.length_drop, List.length_take]; rfl)) ?_; (with_reducible refine (route_To.calls k2 (rdOf ByteArray.empty (rd_L1 t119 x8_1) x9_2) (wrap64 ((Int.tmod (wrap64 (a1)) 8) + 1)) t126 _ A17.out).mono ?_); rintro e w' ⟨rfl, ⟨nd, rfl⟩⟩; refine ⟨_, rfl, ?_⟩))
                              go_roundg k2
                              case measure => have := HK1.out; have := HK2.out; omega
                              case rel => exact ⟨(wrap64 (x9_2 + 1)), (by first | rfl | (simp; done) | (simp [*]; done)), H', ⟨by have := HK1.out; have := HK2.out; omega⟩, ⟨by (with_reducible repeat (first | apply Kd.S_alloc | apply Kd.S_drewN | apply Kd.S_drew)); exact HO_6.out⟩, ⟨by repeat (first | (with_reducible exact HR122_0.out) | (with_reducible refine Kd.C_alloc ?_ _) | (with_reducible refine Kd.C_drewN ?_ _) | (with_reducible refine Kd.C_drew ?_) | exact HR122_0.out)⟩, ⟨by repeat (first | (with_reducible first | exact HB.out | apply below_alloc | apply pw_below_drewN | apply below_drew1) | exact HB.out)⟩⟩
                            · rw [if_neg c18] at H
                              have c18b0 : (t126 == x8_1) = false := beq_eq_false_iff_ne.mpr c18
                              have c18b1 : (t126 != x8_1) = true := bne_iff_ne.mpr c18
                              obtain rfl := Option.some.inj H
                              have p123 : 0 ≤ (x8_1 : Int) := of_decide_eq_true (by first | (with_reducible assumption) | assumption)
                              have q123 : x8_1 < (t119.length : Int) := of_decide_eq_true (by first | (with_reducible assumption) | assumption)
                              obtain ⟨ad123, A123_0, c123_0, e123, hx123_0, hl123_0, hi123_0⟩ := at_L1 (Kd.S_reads' HO_6.out).2.2 x8_1 p123 q123
                              obtain rfl : ad122 = ad123 := (by injection e123)
                              obtain ⟨ce123, hce123, hMe123, hcc123⟩ := Kd.S_get HO_6.out [] x8_1 p123 (by first | exact q123 | exact of_decide_eq_true (by first | (with_reducible assumption) | assumption) | (have e_ := (Kd.S_reads' HO_6.out).1; omega))
                              obtain ⟨ve123_0, rfl, ge123_0⟩ := hMe123
                              have hv123_0 := hcc123 0 _ rfl
                              rw [Nat.add_zero, show ((Kd.slice 9 Kd.string)).sz = 1 from rfl, Nat.mul_one] at hv123_0
                              replace hv123_0 := Option.some.inj (hv123_0.symm.trans hx123_0)
                              rw [hv123_0] at ge123_0
                              have HL123_0 := Aside0.mk (show Kd.R Kd.string 9 _ _ _ _ (rd_L1 t119 x8_1) from ge123_0)
                              clear hv123_0 ge123_0
                              clear hcc123 hce123
                              have HR123_0 := Aside0.mk hi123_0
                              have HC123_0 := Aside0.mk hl123_0
                              clear hi123_0 hl123_0
                              replace p123 := eq_true p123
                              replace q123 := eq_true q123
                              have p124 : 0 ≤ (x8_1 : Int) := of_decide_eq_true (by first | (with_reducible assumption) | assumption)
                              have q124 : x8_1 < (t119.length : Int) := of_decide_eq_true (by first | (with_reducible assumption) | assumption)
                              obtain ⟨ad124, A124_0, c124_0, e124, hx124_0, hl124_0, hi124_0⟩ := at_L1 (Kd.S_reads' HO_6.out).2.2 x8_1 p124 q124
                              obtain rfl : ad122 = ad124 := (by injection e124)
                              obtain ⟨ce124, hce124, hMe124, hcc124⟩ := Kd.S_get HO_6.out [] x8_1 p124 (by first | exact q124 | exact of_decide_eq_true (by first | (with_reducible assumption) | assumption) | (have e_ := (Kd.S_reads' HO_6.out).1; omega))
                              obtain ⟨ve124_0, rfl, ge124_0⟩ := hMe124
                              have hv124_0 := hcc124 0 _ rfl
                              rw [Nat.add_zero, show ((Kd.slice 9 Kd.string)).sz = 1 from rfl, Nat.mul_one] at hv124_0
                              replace hv124_0 := Option.some.inj (hv124_0.symm.trans hx124_0)
                              rw [hv124_0] at ge124_0
                              have HL124_0 := Aside0.mk (show Kd.R Kd.string 9 _ _ _ _ (rd_L1 t119 x8_1) from ge124_0)
                              clear hv124_0 ge124_0
                              clear hcc124 hce124
                              have HR124_0 := Aside0.mk hi124_0
                              have HC124_0 := Aside0.mk hl124_0
                              clear hi124_0 hl124_0
                              replace p124 := eq_true p124
                              replace q124 := eq_true q124
                              have ea_ := Option.some.inj (hx123_0.symm.trans hx124_0)
                              injection ea_ with ea_ en_ ec_
                              subst ea_
                              subst ec_
                              clear en_
                              have p125 : 0 ≤ (x9_2 : Int) := of_decide_eq_true (by first | (with_reducible assumption) | assumption)
                              have q125 : x9_2 < ((rd_L1 t119 x8_1).length : Int) := of_decide_eq_true (by first | (with_reducible assumption) | assumption)
                              obtain ⟨ad125, e125, hx125_0⟩ := Kd.at_string (by repeat (first | (with_reducible exact HR124_0.out) | (with_reducible refine Kd.C_alloc ?_ _) | (with_reducible refine Kd.C_drewN ?_ _) | (with_reducible refine Kd.C_drew ?_) | exact HR124_0.out)) x9_2 p125 q125
                              cases e125
                              replace p125 := eq_true p125
                              replace q125 := eq_true q125
                              go_wp2_with (first | ((with_reducible refine gate_callee (f := 16) rfl ?_); refine goesL_ (some 54) rfl rfl Try.func16 (by kernel_rfl) rfl #[.string (rdOf ByteArray.empty (rd_L1 t119 x8_1) x9_2), .int .i64 (wrap64 ((Int.tmod (wrap64 (a1)) 8) + 1))] rfl (by (try simp only [List.map_toArray, List.map_cons, List.map_nil]); first | done | rfl | (simp only [List.length_drop, List.length_take]; rfl)) ?_; (with_reducible refine (route_To.calls k2 (rdOf ByteArray.empty (rd_L1 t119 x8_1) x9_2) (wrap64 ((Int.tmod (wrap64 (a1)) 8) + 1)) t126 _ A17.out).mono ?_); rintro e w' ⟨rfl, ⟨nd, rfl⟩⟩; refine ⟨_, rfl, ?_⟩))
                              go_ret
                              exact ⟨by first | rfl | (simp [errW_none, errW_some] <;> rfl) | (simp [*, errW_none, errW_some] <;> rfl), by repeat (first | (with_reducible first | exact HB.out | apply below_alloc | apply pw_below_drewN | apply below_drew1) | exact HB.out)⟩
                          · rw [if_neg c16] at H
                            exact absurd H (by simp)
                        · rw [if_neg c15] at H
                          have c15b0 : decide (x9_2 < ((rd_L1 t119 x8_1).length : Int)) = false := decide_eq_false c15
                          clear c15
                          have H' := Aside0.mk H
                          clear H
                          have p123 : 0 ≤ (x8_1 : Int) := of_decide_eq_true (by first | (with_reducible assumption) | assumption)
                          have q123 : x8_1 < (t119.length : Int) := of_decide_eq_true (by first | (with_reducible assumption) | assumption)
                          obtain ⟨ad123, A123_0, c123_0, e123, hx123_0, hl123_0, hi123_0⟩ := at_L1 (Kd.S_reads' HO_6.out).2.2 x8_1 p123 q123
                          obtain rfl : ad122 = ad123 := (by injection e123)
                          obtain ⟨ce123, hce123, hMe123, hcc123⟩ := Kd.S_get HO_6.out [] x8_1 p123 (by first | exact q123 | exact of_decide_eq_true (by first | (with_reducible assumption) | assumption) | (have e_ := (Kd.S_reads' HO_6.out).1; omega))
                          obtain ⟨ve123_0, rfl, ge123_0⟩ := hMe123
                          have hv123_0 := hcc123 0 _ rfl
                          rw [Nat.add_zero, show ((Kd.slice 9 Kd.string)).sz = 1 from rfl, Nat.mul_one] at hv123_0
                          replace hv123_0 := Option.some.inj (hv123_0.symm.trans hx123_0)
                          rw [hv123_0] at ge123_0
                          have HL123_0 := Aside0.mk (show Kd.R Kd.string 9 _ _ _ _ (rd_L1 t119 x8_1) from ge123_0)
                          clear hv123_0 ge123_0
                          clear hcc123 hce123
                          have HR123_0 := Aside0.mk hi123_0
                          have HC123_0 := Aside0.mk hl123_0
                          clear hi123_0 hl123_0
                          replace p123 := eq_true p123
                          replace q123 := eq_true q123
                          go_wp2
                          go_roundg k2
                          case measure => have := HK1.out; have := HK2.out; omega
                          case rel => exact ⟨((wrap64 (x7_1 + ((rd_L1 t119 x8_1).length : Int)))), (wrap64 (x8_1 + 1)), (by first | rfl | (simp; done) | (simp [*]; done)), (by first | rfl | (simp; done) | (simp [*]; done)), H', ⟨by have := HK1.out; have := HK2.out; omega⟩, ⟨by (with_reducible repeat (first | apply Kd.S_alloc | apply Kd.S_drewN | apply Kd.S_drew)); exact HO_6.out⟩, ⟨by repeat (first | (with_reducible first | exact HB.out | apply below_alloc | apply pw_below_drewN | apply below_drew1) | exact HB.out)⟩⟩
                      · rw [if_neg c14] at H
                        exact absurd H (by simp)
                    · rw [if_neg c13] at H
                      exact absurd H (by simp)
              · rw [if_neg c12] at H
                exact absurd H (by simp)
            · rw [if_neg c11] at H
              exact absurd H (by simp)
          · rw [if_neg c10] at H
            have c10b0 : decide (x8_1 < (wrap64 ((Int.tmod (wrap64 (a1)) 8) + 1))) = false := decide_eq_false c10
            clear c10
            have H' := Aside0.mk H
            clear H
            go_wp2
            go_loopg [10] k1 (fun kq v10 w' => ∃ (x10_2 : Int), v10 = .int .i64 x10_2 ∧ Aside0 (vouchlaw14_RouteRanges.l2 kq l0 (wrap64 ((Int.tmod (wrap64 (a1)) 8) + 1)) x7_1 x10_2 = some r) ∧ Aside0 (kq ≤ k1) ∧ Aside0 (Below w.heap.size w w'))
            case atStart => exact ⟨(0), (by first | rfl | (simp; done) | (simp [*]; done)), H', ⟨Nat.le_refl _⟩, ⟨by repeat (first | (with_reducible first | exact HB.out | apply below_alloc | apply pw_below_drewN | apply below_drew1) | exact HB.out)⟩⟩
            case round =>
              clear H'
              try clear c1
              try clear p1
              try clear q1
              try clear hx1
              try clear p2
              try clear c4
              try clear c6
              try clear c6b0
              try clear c6b1
              try clear p6
              try clear c10
              try clear c10b0
              try clear c11
              try clear c11b0
              try clear c12
              try clear c12b0
              try clear p12
              try clear q12
              try clear hx12
              try clear c13
              try clear c13b0
              try clear c14
              try clear c14b0
              try clear c15
              try clear c15b0
              try clear c16
              try clear c16b0
              try clear c18
              try clear c18b0
              try clear c18b1
              try clear hx122_0
              try clear hx123_0
              try clear hx124_0
              try clear hx125_0
              try clear p1
              try clear p12
              try clear p122
              try clear p123
              try clear p124
              try clear p125
              try clear p2
              try clear p6
              try clear q1
              try clear q12
              try clear q122
              try clear q123
              try clear q124
              try clear q125
              obtain ⟨x10_2, rfl, HA, HK2, HB⟩ := hrel
              cases gk with
              | zero => exact absurd HA.out (by simp [vouchlaw14_RouteRanges.l2])
              | succ k2 =>
                have H := HA.out
                clear HA
                simp only [vouchlaw14_RouteRanges.l2] at H
                by_cases c19 : x10_2 < (l0.length : Int)
                · rw [if_pos c19] at H
                  have c19b0 : decide (x10_2 < (l0.length : Int)) = true := decide_eq_true c19
                  clear c19
                  by_cases c20 : 0 ≤ x10_2
                  · rw [if_pos c20] at H
                    have c20b0 : decide (0 ≤ x10_2) = true := decide_eq_true c20
                    clear c20
                    replace H := Option.bind_eq_some_iff.mp H
                    obtain ⟨t128, A210, H⟩ := H
                    replace H : (if t128 < 0 then (some false) else (if t128 ≥ (wrap64 ((Int.tmod (wrap64 (a1)) 8) + 1)) then (some false) else (vouchlaw14_RouteRanges.l2 k2 l0 (wrap64 ((Int.tmod (wrap64 (a1)) 8) + 1)) x7_1 (wrap64 (x10_2 + 1))))) = some r := H
                    have A21 := Aside0.mk A210
                    clear A210
                    by_cases c22 : t128 < 0
                    · rw [if_pos c22] at H
                      have c22b0 : decide (t128 < 0) = true := decide_eq_true c22
                      clear c22
                      obtain rfl := Option.some.inj H
                      have p127 : 0 ≤ (x10_2 : Int) := of_decide_eq_true (by first | (with_reducible assumption) | assumption)
                      have q127 : x10_2 < (l0.length : Int) := of_decide_eq_true (by first | (with_reducible assumption) | assumption)
                      obtain ⟨ad127, e127, hx127_0⟩ := Kd.at_string HR0.out x10_2 p127 q127
                      cases e127
                      replace hx127_0 := (HB.out.cell (World.block_lt_of_cell? w _ hx127_0)).trans hx127_0
                      replace p127 := eq_true p127
                      replace q127 := eq_true q127
                      go_wp2_with (first | ((with_reducible refine gate_callee (f := 16) rfl ?_); refine goesL_ (some 68) rfl rfl Try.func16 (by kernel_rfl) rfl #[.string (rdOf ByteArray.empty l0 x10_2), .int .i64 (wrap64 ((Int.tmod (wrap64 (a1)) 8) + 1))] rfl (by (try simp only [List.map_toArray, List.map_cons, List.map_nil]); first | done | rfl | (simp only [List.length_drop, List.length_take]; rfl)) ?_; (with_reducible refine (route_To.calls k2 (rdOf ByteArray.empty l0 x10_2) (wrap64 ((Int.tmod (wrap64 (a1)) 8) + 1)) t128 _ A21.out).mono ?_); rintro e w' ⟨rfl, ⟨nd, rfl⟩⟩; refine ⟨_, rfl, ?_⟩))
                      go_ret
                      exact ⟨by first | rfl | (simp [errW_none, errW_some] <;> rfl) | (simp [*, errW_none, errW_some] <;> rfl), by repeat (first | (with_reducible first | exact HB.out | apply below_alloc | apply pw_below_drewN | apply below_drew1) | exact HB.out)⟩
                    · rw [if_neg c22] at H
                      have c22b0 : decide (t128 < 0) = false := decide_eq_false c22
                      clear c22
                      by_cases c23 : t128 ≥ (wrap64 ((Int.tmod (wrap64 (a1)) 8) + 1))
                      · rw [if_pos c23] at H
                        have c23b0 : decide ((wrap64 ((Int.tmod (wrap64 (a1)) 8) + 1)) ≤ t128) = true := decide_eq_true c23
                        clear c23
                        obtain rfl := Option.some.inj H
                        have p127 : 0 ≤ (x10_2 : Int) := of_decide_eq_true (by first | (with_reducible assumption) | assumption)
                        have q127 : x10_2 < (l0.length : Int) := of_decide_eq_true (by first | (with_reducible assumption) | assumption)
                        obtain ⟨ad127, e127, hx127_0⟩ := Kd.at_string HR0.out x10_2 p127 q127
                        cases e127
                        replace hx127_0 := (HB.out.cell (World.block_lt_of_cell? w _ hx127_0)).trans hx127_0
                        replace p127 := eq_true p127
                        replace q127 := eq_true q127
                        go_wp2_with (first | ((with_reducible refine gate_callee (f := 16) rfl ?_); refine goesL_ (some 68) rfl rfl Try.func16 (by kernel_rfl) rfl #[.string (rdOf ByteArray.empty l0 x10_2), .int .i64 (wrap64 ((Int.tmod (wrap64 (a1)) 8) + 1))] rfl (by (try simp only [List.map_toArray, List.map_cons, List.map_nil]); first | done | rfl | (simp only [List.length_drop, List.length_take]; rfl)) ?_; (with_reducible refine (route_To.calls k2 (rdOf ByteArray.empty l0 x10_2) (wrap64 ((Int.tmod (wrap64 (a1)) 8) + 1)) t128 _ A21.out).mono ?_); rintro e w' ⟨rfl, ⟨nd, rfl⟩⟩; refine ⟨_, rfl, ?_⟩))
                        go_ret
                        exact ⟨by first | rfl | (simp [errW_none, errW_some] <;> rfl) | (simp [*, errW_none, errW_some] <;> rfl), by repeat (first | (with_reducible first | exact HB.out | apply below_alloc | apply pw_below_drewN | apply below_drew1) | exact HB.out)⟩
                      · rw [if_neg c23] at H
                        have c23b0 : decide ((wrap64 ((Int.tmod (wrap64 (a1)) 8) + 1)) ≤ t128) = false := decide_eq_false c23
                        clear c23
                        have H' := Aside0.mk H
                        clear H
                        have p127 : 0 ≤ (x10_2 : Int) := of_decide_eq_true (by first | (with_reducible assumption) | assumption)
                        have q127 : x10_2 < (l0.length : Int) := of_decide_eq_true (by first | (with_reducible assumption) | assumption)
                        obtain ⟨ad127, e127, hx127_0⟩ := Kd.at_string HR0.out x10_2 p127 q127
                        cases e127
                        replace hx127_0 := (HB.out.cell (World.block_lt_of_cell? w _ hx127_0)).trans hx127_0
                        replace p127 := eq_true p127
                        replace q127 := eq_true q127
                        go_wp2_with (first | ((with_reducible refine gate_callee (f := 16) rfl ?_); refine goesL_ (some 68) rfl rfl Try.func16 (by kernel_rfl) rfl #[.string (rdOf ByteArray.empty l0 x10_2), .int .i64 (wrap64 ((Int.tmod (wrap64 (a1)) 8) + 1))] rfl (by (try simp only [List.map_toArray, List.map_cons, List.map_nil]); first | done | rfl | (simp only [List.length_drop, List.length_take]; rfl)) ?_; (with_reducible refine (route_To.calls k2 (rdOf ByteArray.empty l0 x10_2) (wrap64 ((Int.tmod (wrap64 (a1)) 8) + 1)) t128 _ A21.out).mono ?_); rintro e w' ⟨rfl, ⟨nd, rfl⟩⟩; refine ⟨_, rfl, ?_⟩))
                        go_roundg k2
                        case measure => have := HK1.out; have := HK2.out; omega
                        case rel => exact ⟨(wrap64 (x10_2 + 1)), (by first | rfl | (simp; done) | (simp [*]; done)), H', ⟨by have := HK1.out; have := HK2.out; omega⟩, ⟨by repeat (first | (with_reducible first | exact HB.out | apply below_alloc | apply pw_below_drewN | apply below_drew1) | exact HB.out)⟩⟩
                  · rw [if_neg c20] at H
                    exact absurd H (by simp)
                · rw [if_neg c19] at H
                  have c19b0 : decide (x10_2 < (l0.length : Int)) = false := decide_eq_false c19
                  clear c19
                  obtain rfl := Option.some.inj H
                  go_wp2
                  go_ret
                  exact ⟨by first | rfl | (simp [errW_none, errW_some] <;> rfl) | (simp [*, errW_none, errW_some] <;> rfl), by repeat (first | (with_reducible first | exact HB.out | apply below_alloc | apply pw_below_drewN | apply below_drew1) | exact HB.out)⟩
    · rw [if_neg c6] at H
      have c6b0 : ((t119.length : Int) == (wrap64 ((Int.tmod (wrap64 (a1)) 8) + 1))) = false := beq_eq_false_iff_ne.mpr c6
      have c6b1 : ((t119.length : Int) != (wrap64 ((Int.tmod (wrap64 (a1)) 8) + 1))) = true := bne_iff_ne.mpr c6
      obtain rfl := Option.some.inj H
      go_enter Try.func6, Try.ntmps6
      go_wp2_with (first | ((with_reducible refine gate_callee (f := 13) rfl ?_); refine goesL_ (some 12) rfl rfl Try.func13 (by kernel_rfl) rfl #[] rfl (by (try simp only [List.map_toArray, List.map_cons, List.map_nil]); first | done | rfl | (simp only [List.length_drop, List.length_take]; rfl)) ?_; (with_reducible refine (vouchlaw14_fixed.calls k  true _ A3.out).mono ?_); rintro e w24 ⟨rfl, hb⟩; refine ⟨_, rfl, ?_⟩; have n0_ := Aside0.mk (below_step (by repeat (first | (with_reducible first | exact HB.out | apply below_alloc | apply pw_below_drewN | apply below_drew1) | exact HB.out)) hb); clear HB; have HB := n0_; clear n0_; (try clear hb); (try clear hb2); (try clear hk); (try clear hi)) | ((with_reducible refine gate_callee (f := 18) rfl ?_); refine goesL_ (some 20) rfl rfl Try.func18 (by kernel_rfl) rfl #[.slice A0 l0.length c0, .int .i64 (wrap64 ((Int.tmod (wrap64 (a1)) 8) + 1))] rfl (by (try simp only [List.map_toArray, List.map_cons, List.map_nil]); first | done | rfl | (simp only [List.length_drop, List.length_take]; rfl)) ?_; (with_reducible refine (route_Spread.calls k _ _ l0 (wrap64 ((Int.tmod (wrap64 (a1)) 8) + 1)) t119 _ ?side1 ?side2 A5.out).mono ?_); (case side1 => repeat (first | exact (Kd.C_below HR0.out HB.out) | (with_reducible refine Kd.C_alloc ?_ _) | (with_reducible refine Kd.C_drewN ?_ _) | (with_reducible refine Kd.C_drew ?_))); (case side2 => exact HC0.out); rintro e w25 ⟨v120, rfl, ho0, hb⟩; refine ⟨_, rfl, ?_⟩; have n0_ := Aside0.mk (Kd.S_lower ho0 (below_size (by repeat (first | (with_reducible first | exact HB.out | apply below_alloc | apply pw_below_drewN | apply below_drew1) | exact HB.out)))); have n1_ := Aside0.mk (below_step (by repeat (first | (with_reducible first | exact HB.out | apply below_alloc | apply pw_below_drewN | apply below_drew1) | exact HB.out)) hb); clear HB; have HO121 := n0_; have HB := n1_; clear n0_ n1_; (try clear hb); (try clear hb2); (try clear hk); (try clear hi); (try clear ho0); obtain ⟨Ao26, co26, eo26⟩ := Kd.S_slice HO121.out; subst eo26))
      go_ret
      exact ⟨by first | rfl | (simp [errW_none, errW_some] <;> rfl) | (simp [*, errW_none, errW_some] <;> rfl), by repeat (first | (with_reducible first | exact HB.out | apply below_alloc | apply pw_below_drewN | apply below_drew1) | exact HB.out)⟩
  · replace c4 := Bool.eq_false_iff.mpr c4
    subst c4
    have H1 : (some false) = some r := by rw [if_neg (show ¬ (false = true) by decide)] at H; exact H
    clear H
    have H := H1
    clear H1
    obtain rfl := Option.some.inj H
    go_enter Try.func6, Try.ntmps6
    go_wp2_with (first | ((with_reducible refine gate_callee (f := 13) rfl ?_); refine goesL_ (some 12) rfl rfl Try.func13 (by kernel_rfl) rfl #[] rfl (by (try simp only [List.map_toArray, List.map_cons, List.map_nil]); first | done | rfl | (simp only [List.length_drop, List.length_take]; rfl)) ?_; (with_reducible refine (vouchlaw14_fixed.calls k  false _ A3.out).mono ?_); rintro e w27 ⟨rfl, hb⟩; refine ⟨_, rfl, ?_⟩; have n0_ := Aside0.mk (below_step (by repeat (first | (with_reducible first | exact HB.out | apply below_alloc | apply pw_below_drewN | apply below_drew1) | exact HB.out)) hb); clear HB; have HB := n0_; clear n0_; (try clear hb); (try clear hb2); (try clear hk); (try clear hi)))
    go_ret
    exact ⟨by first | rfl | (simp [errW_none, errW_some] <;> rfl) | (simp [*, errW_none, errW_some] <;> rfl), by repeat (first | (with_reducible first | exact HB.out | apply below_alloc | apply pw_below_drewN | apply below_drew1) | exact HB.out)⟩

end Go.Proofs.Ythgfgbligkchiaa.PRouteRanges
