/- The row of WholeRecords: whatever the input, true; the input reads as it did. No condition but the form's own. -/
import Derived.Test.YtpnghjmphbhkjaaRows
import Derived.Test.YtpnghjmphbhkjaaSpO
import Derived.Test.YtpnghjmphbhkjaaKnX
import Derived.Test.YtpnghjmphbhkjaaX32
import Derived.WalkKit
import Derived.ProofKit
import Derived.OpenShut
import Derived.ShutString
import Derived.ChangeOld
import Derived.Below
import Derived.SizedLaws
namespace Go.Proofs.Ytpnghjmphbhkjaa.wholeRecords
open Go.ChangeShapes Go.WideShapes Go.ChangeAt Go.RowKit
open Go.ChangeMaps (open_string shut_string)
open Go.Sp.Open
set_option linter.unusedVariables false
theorem own : ownKnob Try.prog.godebug = none := by kernel_rfl
theorem laidOut : laidOutB Try.prog = true := by kernel_rfl
set_option maxRecDepth 100000 in
theorem lifted (os : Os) (started : os.Started) (H : Type) (enc : TypeId × Value → H) :
    ReturnsInHanded {} Try.checked os 4 .any (Rows.wholeRecordsSpec.pre6 enc Try.prog Try.f4 Rows.wholeRecordsRow.domain false) (Rows.wholeRecordsSpec.post enc Try.prog Try.f4 false true false false) := by
  refine returnsInHanded_of_change_sized (C := Try.checked) own started (by kernel_rfl) Try.func4
    (ChangeSpec.witness6 (enc := enc) (C := Try.checked) false ⟨#[], #[.slice none 0 0, .slice none 0 0, .int .u8 0, .string ByteArray.empty, .int .u8 0], []⟩ 8 (by kernel_rfl) (by kernel_rfl) (by kernel_rfl) (by kernel_rfl)) ?_
  intro W base args ds gs before hval0 hW hcnd hsz0 _
  have hsz : (DataW.weightsEach Try.prog (Try.f4.params.toList ++ Rows.wholeRecordsSpec.plain.varTypes Try.prog) (ds ++ gs)).all (· ≤ reachBytes) = true := hsz0
  have hval : ∀ (j : Nat) t v, Try.f4.params[j]? = some t → args[j]? = some v → Value.okWide Try.prog W .any base t v := hval0
  have hW' := hW
  obtain ⟨p, q, hA0, hV, rfl, hfz, hnd⟩ := hW
  have hA : DataW.TrodAll enc Try.prog W 0 (fun _ => true) true Try.f4.params.toList args.toList ds p := hA0
  rw [Try.params4] at hA hval hsz
  obtain ⟨v0, vs0, d0, ds0, p0, q0, hargs, rfl, rfl, h0, r0⟩ := trodAll_cons hA
  obtain ⟨v1, vs1, d1, ds1, p1, q1, rfl, rfl, rfl, h1, r1⟩ := trodAll_cons r0
  obtain ⟨v2, vs2, d2, ds2, p2, q2, rfl, rfl, rfl, h2, r2⟩ := trodAll_cons r1
  obtain ⟨v3, vs3, d3, ds3, p3, q3, rfl, rfl, rfl, h3, r3⟩ := trodAll_cons r2
  obtain ⟨v4, vs4, d4, ds4, p4, q4, rfl, rfl, rfl, h4, r4⟩ := trodAll_cons r3
  obtain ⟨rfl, rfl, rfl⟩ := trodAll_nil r4
  obtain rfl : args = #[v0, v1, v2, v3, v4] := by cases args; simp_all
  obtain ⟨rfl, rfl⟩ := trodVars_none hV
  have k0 := h0
  have lt0 : ∀ x ∈ p0, x.block < W.heap.size := by obtain ⟨m, hm⟩ := k0; exact DataW.trod_lt m _ _ _ hm
  have s0 := small_arg hsz (j := 0) (t := 46) rfl rfl
  obtain ⟨A0, c0, l0, rfl, hl0, hC0, hg0⟩ := arg_slice (opens_slice 24 Try.underlying46 (by kernel_rfl) (by kernel_rfl) (opens_slice 16 Try.underlying36 (by kernel_rfl) (by kernel_rfl) (opens_string Try.underlying9))) Try.underlying46 (hval 0 46 v0 rfl rfl) h0 s0
  have k1 := h1
  have lt1 : ∀ x ∈ p1, x.block < W.heap.size := by obtain ⟨m, hm⟩ := k1; exact DataW.trod_lt m _ _ _ hm
  have s1 := small_arg hsz (j := 1) (t := 47) rfl rfl
  obtain ⟨A1, c1, l1, rfl, hl1, hC1, hg1⟩ := arg_slice (opens_slice 1 Try.underlying47 (by kernel_rfl) (by kernel_rfl) (opens_int Try.underlying5)) Try.underlying47 (hval 1 47 v1 rfl rfl) h1 s1
  obtain ⟨a2, rfl, rfl, rfl, w2⟩ := open_int Try.underlying5 (hval 2 5 v2 rfl rfl) h2
  obtain ⟨a3, rfl, rfl, rfl, y3⟩ := open_string Try.underlying9 (hval 3 9 v3 rfl rfl) h3
  have w3 : a3.size ≤ 140737488351232 := by
    have z := sized_string hsz (j := 3) (t := 9) rfl rfl
    rw [Array.length_toList] at z
    exact z
  obtain ⟨a4, rfl, rfl, rfl, w4⟩ := open_int Try.underlying5 (hval 4 5 v4 rfl rfl) h4
  clear hA0 hval0 hsz0 hsz
  obtain ⟨c2, rfl⟩ : ∃ c : Nat, a2 = c := ⟨a2.toNat, by have := u8_range w2; omega⟩
  obtain ⟨c4, rfl⟩ : ∃ c : Nat, a4 = c := ⟨a4.toNat, by have := u8_range w4; omega⟩
  refine (calls_row (records4 (full_ro _) (ro_keys hC0 (fun ws hws => (hg0.2 ws hws).1)) (by have := hg0.1; omega) (ro_rows (f := bC) (n := 1) (by decide) hC1) (by have := hg1.1; omega) (fun x hx => u8_range (hg1.2 x hx)) c2 (by have := u8_range w2; omega) a3 c4 (by have := u8_range w4; omega))).mono fun e W' ⟨he, bel⟩ => ?_
  subst he
  exact ⟨_, rfl, _, _, _, [], _, [], hW', trodAll_mk1 (shut_bool Try.underlying4 _), (trodAll_cons_mk (Below.trod laidOut (by kernel_rfl) (of_decide_eq_true (by kernel_rfl)) k0 bel lt0) (trodAll_cons_mk (Below.trod laidOut (by kernel_rfl) (of_decide_eq_true (by kernel_rfl)) k1 bel lt1) (trodAll_cons_mk (shut_int Try.underlying5 w2) (trodAll_cons_mk (shut_string Try.underlying9 y3) (trodAll_cons_mk (shut_int Try.underlying5 w4) trodAll_mk0))))), rfl, bel.frame _, fun h => by cases h⟩
theorem over : Rows.wholeRecordsRow.holds Try.pinned (OpenSpec.ofChange Rows.wholeRecordsSpec) :=
  OpenClaim.holds_of_wide 4 Try.f4 rfl rfl rfl rfl rfl rfl rfl ⟨rfl, rfl, rfl, rfl, rfl⟩ rfl rfl rfl rfl rfl (by kernel_rfl) Try.func4 (by kernel_rfl)
    (of_decide_eq_true (by kernel_rfl)) (by unfold Func.isWrapper; first | (rw [if_pos (by decide +kernel)]; kernel_rfl) | (rw [if_neg (by decide +kernel)]; exact ⟨rfl, rfl⟩))
    (fun os started H enc _ => lifted os started H enc)
theorem proved : Rows.WholeRecordsSaid := over
#print axioms proved
end Go.Proofs.Ytpnghjmphbhkjaa.wholeRecords
namespace Go.Proofs.Ytpnghjmphbhkjaa
/-- The row, under a short name, for the claim. -/
theorem wholeRecords_holds : Rows.WholeRecordsSaid := wholeRecords.proved
end Go.Proofs.Ytpnghjmphbhkjaa
