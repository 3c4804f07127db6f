/- The row of FactNarrows, out of its walk and its plain law. No condition but the form's own. -/
import Derived.Test.YthgfgbligkchiaaRows
import Derived.Test.YthgfgbligkchiaaOpen
import Derived.Test.YthgfgbligkchiaaKinds
import Derived.Test.YthgfgbligkchiaaPureFactNarrows
import Derived.WalkKit
import Derived.ProofKit
import Derived.OpenShut
import Derived.ShutString
import Derived.ChangeOld
import Derived.Below
import Derived.SizedLaws
namespace Go.Proofs.Ythgfgbligkchiaa.factNarrows
open Go.ChangeShapes Go.WideShapes Go.ChangeAt Go.RowKit
open Go.ChangeMaps (open_string shut_string)
open Go.Proofs.YthgfgbligkchiaaW.PrintWords
set_option linter.unusedVariables false
theorem own : ownKnob Try.prog.godebug = none := by kernel_rfl
theorem laidOut : laidOutB Try.prog = true := by kernel_rfl
set_option maxRecDepth 100000 in
theorem lifted (os : Os) (started : os.Started) (H : Type) (enc : TypeId × Value → H) :
    ReturnsInHanded {} Try.checked os 12 .any (Rows.factNarrowsSpec.pre6 enc Try.prog Try.f12 Rows.factNarrowsRow.domain false) (Rows.factNarrowsSpec.post enc Try.prog Try.f12 false true false false) := by
  refine returnsInHanded_of_change_sized (C := Try.checked) own started (by kernel_rfl) Try.func12
    (ChangeSpec.witness6 (enc := enc) (C := Try.checked) false ⟨#[], #[.agg #[.int .i64 0, .int .i64 0], .agg #[.int .i64 0, .int .i64 0], .agg #[.int .i64 0, .int .i64 0, .int .i64 0, .int .i64 0, .int .i64 0, .int .i64 0, .int .i64 0, .int .i64 0]], []⟩ 8 (by kernel_rfl) (by kernel_rfl) (by kernel_rfl) (by kernel_rfl)) ?_
  intro W base args ds gs before hval0 hW hcnd hsz0 _
  have hsz : (DataW.weightsEach Try.prog (Try.f12.params.toList ++ Rows.factNarrowsSpec.plain.varTypes Try.prog) (ds ++ gs)).all (· ≤ reachBytes) = true := hsz0
  have hval : ∀ (j : Nat) t v, Try.f12.params[j]? = some t → args[j]? = some v → Value.okWide Try.prog W .any base t v := hval0
  have hW' := hW
  obtain ⟨p, q, hA0, hV, rfl, hfz, hnd⟩ := hW
  have hA : DataW.TrodAll enc Try.prog W 0 (fun _ => true) true Try.f12.params.toList args.toList ds p := hA0
  rw [Try.params12] at hA hval hsz
  obtain ⟨v0, vs0, d0, ds0, p0, q0, hargs, rfl, rfl, h0, r0⟩ := trodAll_cons hA
  obtain ⟨v1, vs1, d1, ds1, p1, q1, rfl, rfl, rfl, h1, r1⟩ := trodAll_cons r0
  obtain ⟨v2, vs2, d2, ds2, p2, q2, rfl, rfl, rfl, h2, r2⟩ := trodAll_cons r1
  obtain ⟨rfl, rfl, rfl⟩ := trodAll_nil r2
  obtain rfl : args = #[v0, v1, v2] := by cases args; simp_all
  obtain ⟨rfl, rfl⟩ := trodVars_none hV
  have k0 := h0
  have lt0 : ∀ x ∈ p0, x.block < W.heap.size := by obtain ⟨m, hm⟩ := k0; exact DataW.trod_lt m _ _ _ hm
  have s0 := Open.small_arg hsz (j := 0) (t := 40) rfl rfl
  obtain ⟨cs0, a0, rfl, hK0, hg0⟩ := Open.arg_struct Structs.opens_Pin Try.underlying40 (hval 0 40 v0 rfl rfl) h0 s0
  have he0 := Structs.kPin_open hK0
  obtain ⟨cs0⟩ := cs0
  obtain rfl : cs0 = _ := he0
  have k1 := h1
  have lt1 : ∀ x ∈ p1, x.block < W.heap.size := by obtain ⟨m, hm⟩ := k1; exact DataW.trod_lt m _ _ _ hm
  have s1 := Open.small_arg hsz (j := 1) (t := 40) rfl rfl
  obtain ⟨cs1, a1, rfl, hK1, hg1⟩ := Open.arg_struct Structs.opens_Pin Try.underlying40 (hval 1 40 v1 rfl rfl) h1 s1
  have he1 := Structs.kPin_open hK1
  obtain ⟨cs1⟩ := cs1
  obtain rfl : cs1 = _ := he1
  have k2 := h2
  have lt2 : ∀ x ∈ p2, x.block < W.heap.size := by obtain ⟨m, hm⟩ := k2; exact DataW.trod_lt m _ _ _ hm
  have s2 := Open.small_arg hsz (j := 2) (t := 58) rfl rfl
  obtain ⟨cs2, a2, rfl, hK2, hg2⟩ := Open.arg_struct Structs.opens_Config Try.underlying58 (hval 2 58 v2 rfl rfl) h2 s2
  have he2 := Structs.kConfig_open hK2
  obtain ⟨cs2⟩ := cs2
  obtain rfl : cs2 = _ := he2
  clear hA0 hval0 hsz0 hsz
  refine (PFactNarrows.FactNarrows _ _ _ _ _ _ _ _ _ _ _ _ W).mono fun e W' ⟨he, bel⟩ => ?_
  subst he
  exact ⟨_, rfl, _, _, _, [], _, [], hW', trodAll_mk1 (shut_bool Try.underlying4 _), (trodAll_cons_mk (Below.trod laidOut (by kernel_rfl) (of_decide_eq_true (by kernel_rfl)) k0 bel lt0) (trodAll_cons_mk (Below.trod laidOut (by kernel_rfl) (of_decide_eq_true (by kernel_rfl)) k1 bel lt1) (trodAll_cons_mk (Below.trod laidOut (by kernel_rfl) (of_decide_eq_true (by kernel_rfl)) k2 bel lt2) trodAll_mk0))), rfl, bel.frame _, fun h => by cases h⟩
theorem over : Rows.factNarrowsRow.holds Try.pinned (OpenSpec.ofChange Rows.factNarrowsSpec) :=
  OpenClaim.holds_of_wide 12 Try.f12 rfl rfl rfl rfl rfl rfl rfl ⟨rfl, rfl, rfl, rfl, rfl⟩ rfl rfl rfl rfl rfl (by kernel_rfl) Try.func12 (by kernel_rfl)
    (of_decide_eq_true (by kernel_rfl)) (by unfold Func.isWrapper; first | (rw [if_pos (by decide +kernel)]; kernel_rfl) | (rw [if_neg (by decide +kernel)]; exact ⟨rfl, rfl⟩))
    (fun os started H enc _ => lifted os started H enc)
theorem proved : Rows.FactNarrowsSaid := over
#print axioms proved
end Go.Proofs.Ythgfgbligkchiaa.factNarrows
namespace Go.Proofs.Ythgfgbligkchiaa
/-- The row, under a short name, for the claim. -/
theorem factNarrows_holds : Rows.FactNarrowsSaid := factNarrows.proved
end Go.Proofs.Ythgfgbligkchiaa
