/- Texts of mine, part 6 of 6, laid together: Values of struct types, opened as structures of mine. No condition. A client's clone: its sessions. The texts of functions, compiled. A client's clone: one session more. A client's clone: its transactions. A client's clone: one transaction more. A client's clone. The reference's copy. A clone and its original, whatever calls are made on the clone. What the row's list of variables gives. What the s No condition. -/
import Derived.Test.YtaoafjlocjjbbaaGreatDoorMEC5
import Derived.Test.YtaoafjlocjjbbaaGreatDoorProg
import Derived.KernelRfl
import Derived.Test.YtaoafjlocjjbbaaGreatDoorRows
import Derived.Lib.LaidTab
import Derived.Stop.LaidErr
-- KnZ
namespace Go.Proofs.YtaoafjlocjjbbaaGreatDoor
open Go.RowKit Go.Sp Go.Sp.Open
set_option linter.unusedVariables false
def kdOpC : Kd OpC := ⟨21, fun w o cs => cs = o.cells ∧ OpCOk (full w) o ∧ 0 ≤ o.kind⟩
theorem kdOpC_rows {w : World} {A : Option Addr} {xs : List OpC} (c : Nat) (h : kdOpC.C w A xs) : RoRows 21 OpC.cells (full w) (.slice A xs.length c) xs ∧ ∀ o ∈ xs, OpCOk (full w) o ∧ 0 ≤ o.kind := by
  refine ⟨ro_rows (by decide) (fun j x hx => ?_), fun o ho => ?_⟩
  · obtain ⟨a, e, cs, hl, hk, hc⟩ := h j x hx
    exact ⟨a, e, cs, hl, hk.1, hc⟩
  · obtain ⟨j, hj, rfl⟩ := List.getElem_of_mem ho
    obtain ⟨_, _, _, _, hk, _⟩ := h j _ (List.getElem?_eq_getElem hj)
    exact hk.2
theorem opensT35 : Opens Tryz.prog 35 (Kd.pair Kd.bool Kd.string) (fun (x : Bool × ByteArray) => (True ∧ ByteArray.size x.2 ≤ 140737488351232)) := by
  refine opens_struct Tryz.underlying35 (by kernel_rfl) ?_
  show OpensF Tryz.prog (_ :: _) 0 (Kd.pair Kd.bool Kd.string) _
  refine opensF_cons (G := fun (z : Bool) => True) (G' := (fun (z : ByteArray) => ByteArray.size z ≤ 140737488351232)) rfl (by kernel_rfl) (opens_bool Tryz.underlying4) ?_
  exact opensF_one rfl (by kernel_rfl) (opens_string Tryz.underlying9)
theorem opensT52 : Opens Tryz.prog 52 (Kd.pair Kd.string (Kd.pair Kd.bool Kd.string)) (fun (x : ByteArray × (Bool × ByteArray)) => (ByteArray.size x.1 ≤ 140737488351232 ∧ (True ∧ ByteArray.size x.2.2 ≤ 140737488351232))) := by
  refine opens_struct Tryz.underlying52 (by kernel_rfl) ?_
  show OpensF Tryz.prog (_ :: _) 0 (Kd.pair Kd.string (Kd.pair Kd.bool Kd.string)) _
  refine opensF_cons (G := fun (z : ByteArray) => ByteArray.size z ≤ 140737488351232) (G' := (fun (z : (Bool × ByteArray)) => (True ∧ ByteArray.size z.2 ≤ 140737488351232))) rfl (by kernel_rfl) (opens_string Tryz.underlying9) ?_
  exact opensF_one rfl (by kernel_rfl) opensT35
theorem opens_Wr : Opens Tryz.prog 52 (Kd.of 3 Wr.cells) (fun _ => True) := by
  refine opens_iso (fun (x : ByteArray × (Bool × ByteArray)) => (⟨x.1, x.2.1, x.2.2⟩ : Wr)) (fun w x cs h => ?_) (fun x h => ?_) opensT52
  · obtain ⟨_, _, rfl, rfl, ⟨_, _, rfl, rfl, rfl⟩⟩ := h; rfl
  · trivial
theorem opensT23 : Opens Tryz.prog 23 (Kd.pair (Kd.int .i64) (Kd.pair (Kd.int .i64) (Kd.pair (Kd.int .i64) (Kd.pair (Kd.int .i64) (Kd.pair (Kd.int .i64) (Kd.pair (Kd.int .i64) (Kd.pair (Kd.int .i64) (Kd.int .i64)))))))) (fun (x : Int × Int × Int × Int × Int × Int × Int × Int) => ((Lit.int .i64 x.1).wf = true ∧ (Lit.int .i64 x.2.1).wf = true ∧ (Lit.int .i64 x.2.2.1).wf = true ∧ (Lit.int .i64 x.2.2.2.1).wf = true ∧ (Lit.int .i64 x.2.2.2.2.1).wf = true ∧ (Lit.int .i64 x.2.2.2.2.2.1).wf = true ∧ (Lit.int .i64 x.2.2.2.2.2.2.1).wf = true ∧ (Lit.int .i64 x.2.2.2.2.2.2.2).wf = true)) := by
  refine opens_struct Tryz.underlying23 (by kernel_rfl) ?_
  show OpensF Tryz.prog (_ :: _) 0 (Kd.pair (Kd.int .i64) (Kd.pair (Kd.int .i64) (Kd.pair (Kd.int .i64) (Kd.pair (Kd.int .i64) (Kd.pair (Kd.int .i64) (Kd.pair (Kd.int .i64) (Kd.pair (Kd.int .i64) (Kd.int .i64)))))))) _
  refine opensF_cons (G := fun (z : Int) => (Lit.int .i64 z).wf = true) (G' := (fun (z : Int × Int × Int × Int × Int × Int × Int) => (Lit.int .i64 z.1).wf = true ∧ (Lit.int .i64 z.2.1).wf = true ∧ (Lit.int .i64 z.2.2.1).wf = true ∧ (Lit.int .i64 z.2.2.2.1).wf = true ∧ (Lit.int .i64 z.2.2.2.2.1).wf = true ∧ (Lit.int .i64 z.2.2.2.2.2.1).wf = true ∧ (Lit.int .i64 z.2.2.2.2.2.2).wf = true)) rfl (by kernel_rfl) (opens_int Tryz.underlying3) ?_
  refine opensF_cons (G := fun (z : Int) => (Lit.int .i64 z).wf = true) (G' := (fun (z : Int × Int × Int × Int × Int × Int) => (Lit.int .i64 z.1).wf = true ∧ (Lit.int .i64 z.2.1).wf = true ∧ (Lit.int .i64 z.2.2.1).wf = true ∧ (Lit.int .i64 z.2.2.2.1).wf = true ∧ (Lit.int .i64 z.2.2.2.2.1).wf = true ∧ (Lit.int .i64 z.2.2.2.2.2).wf = true)) rfl (by kernel_rfl) (opens_int Tryz.underlying3) ?_
  refine opensF_cons (G := fun (z : Int) => (Lit.int .i64 z).wf = true) (G' := (fun (z : Int × Int × Int × Int × Int) => (Lit.int .i64 z.1).wf = true ∧ (Lit.int .i64 z.2.1).wf = true ∧ (Lit.int .i64 z.2.2.1).wf = true ∧ (Lit.int .i64 z.2.2.2.1).wf = true ∧ (Lit.int .i64 z.2.2.2.2).wf = true)) rfl (by kernel_rfl) (opens_int Tryz.underlying3) ?_
  refine opensF_cons (G := fun (z : Int) => (Lit.int .i64 z).wf = true) (G' := (fun (z : Int × Int × Int × Int) => (Lit.int .i64 z.1).wf = true ∧ (Lit.int .i64 z.2.1).wf = true ∧ (Lit.int .i64 z.2.2.1).wf = true ∧ (Lit.int .i64 z.2.2.2).wf = true)) rfl (by kernel_rfl) (opens_int Tryz.underlying3) ?_
  refine opensF_cons (G := fun (z : Int) => (Lit.int .i64 z).wf = true) (G' := (fun (z : Int × Int × Int) => (Lit.int .i64 z.1).wf = true ∧ (Lit.int .i64 z.2.1).wf = true ∧ (Lit.int .i64 z.2.2).wf = true)) rfl (by kernel_rfl) (opens_int Tryz.underlying3) ?_
  refine opensF_cons (G := fun (z : Int) => (Lit.int .i64 z).wf = true) (G' := (fun (z : Int × Int) => (Lit.int .i64 z.1).wf = true ∧ (Lit.int .i64 z.2).wf = true)) rfl (by kernel_rfl) (opens_int Tryz.underlying3) ?_
  refine opensF_cons (G := fun (z : Int) => (Lit.int .i64 z).wf = true) (G' := (fun (z : Int) => (Lit.int .i64 z).wf = true)) rfl (by kernel_rfl) (opens_int Tryz.underlying3) ?_
  exact opensF_one rfl (by kernel_rfl) (opens_int Tryz.underlying3)
theorem opens_Cfg : Opens Tryz.prog 23 (Kd.of 8 Cfg.cells) (fun _ => True) := by
  refine opens_iso (fun (x : Int × Int × Int × Int × Int × Int × Int × Int) => (⟨x.1, x.2.1, x.2.2.1, x.2.2.2.1, x.2.2.2.2.1, x.2.2.2.2.2.1, x.2.2.2.2.2.2.1, x.2.2.2.2.2.2.2⟩ : Cfg)) (fun w x cs h => ?_) (fun x h => ?_) opensT23
  · obtain ⟨_, _, rfl, rfl, ⟨_, _, rfl, rfl, ⟨_, _, rfl, rfl, ⟨_, _, rfl, rfl, ⟨_, _, rfl, rfl, ⟨_, _, rfl, rfl, ⟨_, _, rfl, rfl, rfl⟩⟩⟩⟩⟩⟩⟩ := h; rfl
  · trivial
theorem opensT33 : Opens Tryz.prog 33 (Kd.pair (Kd.int .i64) (Kd.int .i64)) (fun (x : Int × Int) => ((Lit.int .i64 x.1).wf = true ∧ (Lit.int .i64 x.2).wf = true)) := by
  refine opens_struct Tryz.underlying33 (by kernel_rfl) ?_
  show OpensF Tryz.prog (_ :: _) 0 (Kd.pair (Kd.int .i64) (Kd.int .i64)) _
  refine opensF_cons (G := fun (z : Int) => (Lit.int .i64 z).wf = true) (G' := (fun (z : Int) => (Lit.int .i64 z).wf = true)) rfl (by kernel_rfl) (opens_int Tryz.underlying2) ?_
  exact opensF_one rfl (by kernel_rfl) (opens_int Tryz.underlying2)
theorem opensT39 : Opens Tryz.prog 39 (Kd.pair (Kd.int .i64) (Kd.pair (Kd.int .i64) (Kd.pair (Kd.int .i64) (Kd.pair (Kd.int .i64) (Kd.pair (Kd.int .i64) (Kd.pair (Kd.int .i64) (Kd.pair Kd.string (Kd.pair (Kd.pair (Kd.int .i64) (Kd.int .i64)) (Kd.pair (Kd.pair Kd.bool Kd.string) (Kd.pair Kd.bool (Kd.pair (Kd.int .i64) (Kd.pair (Kd.int .i64) (Kd.pair (Kd.slice (Kd.of 3 Wr.cells)) Kd.shut))))))))))))) (fun (x : Int × Int × Int × Int × Int × Int × ByteArray × (Int × Int) × (Bool × ByteArray) × Bool × Int × Int × (List Wr) × Value) => ((Lit.int .i64 x.1).wf = true ∧ (Lit.int .i64 x.2.1).wf = true ∧ (Lit.int .i64 x.2.2.1).wf = true ∧ (Lit.int .i64 x.2.2.2.1).wf = true ∧ (Lit.int .i64 x.2.2.2.2.1).wf = true ∧ (Lit.int .i64 x.2.2.2.2.2.1).wf = true ∧ ByteArray.size x.2.2.2.2.2.2.1 ≤ 140737488351232 ∧ ((Lit.int .i64 x.2.2.2.2.2.2.2.1.1).wf = true ∧ (Lit.int .i64 x.2.2.2.2.2.2.2.1.2).wf = true) ∧ (True ∧ ByteArray.size x.2.2.2.2.2.2.2.2.1.2 ≤ 140737488351232) ∧ True ∧ (Lit.int .i64 x.2.2.2.2.2.2.2.2.2.2.1).wf = true ∧ (Lit.int .i64 x.2.2.2.2.2.2.2.2.2.2.2.1).wf = true ∧ (List.length x.2.2.2.2.2.2.2.2.2.2.2.2.1 * 40 ≤ 140737488351232 ∧ ∀ y ∈ x.2.2.2.2.2.2.2.2.2.2.2.2.1, True) ∧ one x.2.2.2.2.2.2.2.2.2.2.2.2.2 = true)) := by
  refine opens_struct Tryz.underlying39 (by kernel_rfl) ?_
  show OpensF Tryz.prog (_ :: _) 0 (Kd.pair (Kd.int .i64) (Kd.pair (Kd.int .i64) (Kd.pair (Kd.int .i64) (Kd.pair (Kd.int .i64) (Kd.pair (Kd.int .i64) (Kd.pair (Kd.int .i64) (Kd.pair Kd.string (Kd.pair (Kd.pair (Kd.int .i64) (Kd.int .i64)) (Kd.pair (Kd.pair Kd.bool Kd.string) (Kd.pair Kd.bool (Kd.pair (Kd.int .i64) (Kd.pair (Kd.int .i64) (Kd.pair (Kd.slice (Kd.of 3 Wr.cells)) Kd.shut))))))))))))) _
  refine opensF_cons (G := fun (z : Int) => (Lit.int .i64 z).wf = true) (G' := (fun (z : Int × Int × Int × Int × Int × ByteArray × (Int × Int) × (Bool × ByteArray) × Bool × Int × Int × (List Wr) × Value) => (Lit.int .i64 z.1).wf = true ∧ (Lit.int .i64 z.2.1).wf = true ∧ (Lit.int .i64 z.2.2.1).wf = true ∧ (Lit.int .i64 z.2.2.2.1).wf = true ∧ (Lit.int .i64 z.2.2.2.2.1).wf = true ∧ ByteArray.size z.2.2.2.2.2.1 ≤ 140737488351232 ∧ ((Lit.int .i64 z.2.2.2.2.2.2.1.1).wf = true ∧ (Lit.int .i64 z.2.2.2.2.2.2.1.2).wf = true) ∧ (True ∧ ByteArray.size z.2.2.2.2.2.2.2.1.2 ≤ 140737488351232) ∧ True ∧ (Lit.int .i64 z.2.2.2.2.2.2.2.2.2.1).wf = true ∧ (Lit.int .i64 z.2.2.2.2.2.2.2.2.2.2.1).wf = true ∧ (List.length z.2.2.2.2.2.2.2.2.2.2.2.1 * 40 ≤ 140737488351232 ∧ ∀ y ∈ z.2.2.2.2.2.2.2.2.2.2.2.1, True) ∧ one z.2.2.2.2.2.2.2.2.2.2.2.2 = true)) rfl (by kernel_rfl) (opens_int Tryz.underlying3) ?_
  refine opensF_cons (G := fun (z : Int) => (Lit.int .i64 z).wf = true) (G' := (fun (z : Int × Int × Int × Int × ByteArray × (Int × Int) × (Bool × ByteArray) × Bool × Int × Int × (List Wr) × Value) => (Lit.int .i64 z.1).wf = true ∧ (Lit.int .i64 z.2.1).wf = true ∧ (Lit.int .i64 z.2.2.1).wf = true ∧ (Lit.int .i64 z.2.2.2.1).wf = true ∧ ByteArray.size z.2.2.2.2.1 ≤ 140737488351232 ∧ ((Lit.int .i64 z.2.2.2.2.2.1.1).wf = true ∧ (Lit.int .i64 z.2.2.2.2.2.1.2).wf = true) ∧ (True ∧ ByteArray.size z.2.2.2.2.2.2.1.2 ≤ 140737488351232) ∧ True ∧ (Lit.int .i64 z.2.2.2.2.2.2.2.2.1).wf = true ∧ (Lit.int .i64 z.2.2.2.2.2.2.2.2.2.1).wf = true ∧ (List.length z.2.2.2.2.2.2.2.2.2.2.1 * 40 ≤ 140737488351232 ∧ ∀ y ∈ z.2.2.2.2.2.2.2.2.2.2.1, True) ∧ one z.2.2.2.2.2.2.2.2.2.2.2 = true)) rfl (by kernel_rfl) (opens_int Tryz.underlying3) ?_
  refine opensF_cons (G := fun (z : Int) => (Lit.int .i64 z).wf = true) (G' := (fun (z : Int × Int × Int × ByteArray × (Int × Int) × (Bool × ByteArray) × Bool × Int × Int × (List Wr) × Value) => (Lit.int .i64 z.1).wf = true ∧ (Lit.int .i64 z.2.1).wf = true ∧ (Lit.int .i64 z.2.2.1).wf = true ∧ ByteArray.size z.2.2.2.1 ≤ 140737488351232 ∧ ((Lit.int .i64 z.2.2.2.2.1.1).wf = true ∧ (Lit.int .i64 z.2.2.2.2.1.2).wf = true) ∧ (True ∧ ByteArray.size z.2.2.2.2.2.1.2 ≤ 140737488351232) ∧ True ∧ (Lit.int .i64 z.2.2.2.2.2.2.2.1).wf = true ∧ (Lit.int .i64 z.2.2.2.2.2.2.2.2.1).wf = true ∧ (List.length z.2.2.2.2.2.2.2.2.2.1 * 40 ≤ 140737488351232 ∧ ∀ y ∈ z.2.2.2.2.2.2.2.2.2.1, True) ∧ one z.2.2.2.2.2.2.2.2.2.2 = true)) rfl (by kernel_rfl) (opens_int Tryz.underlying3) ?_
  refine opensF_cons (G := fun (z : Int) => (Lit.int .i64 z).wf = true) (G' := (fun (z : Int × Int × ByteArray × (Int × Int) × (Bool × ByteArray) × Bool × Int × Int × (List Wr) × Value) => (Lit.int .i64 z.1).wf = true ∧ (Lit.int .i64 z.2.1).wf = true ∧ ByteArray.size z.2.2.1 ≤ 140737488351232 ∧ ((Lit.int .i64 z.2.2.2.1.1).wf = true ∧ (Lit.int .i64 z.2.2.2.1.2).wf = true) ∧ (True ∧ ByteArray.size z.2.2.2.2.1.2 ≤ 140737488351232) ∧ True ∧ (Lit.int .i64 z.2.2.2.2.2.2.1).wf = true ∧ (Lit.int .i64 z.2.2.2.2.2.2.2.1).wf = true ∧ (List.length z.2.2.2.2.2.2.2.2.1 * 40 ≤ 140737488351232 ∧ ∀ y ∈ z.2.2.2.2.2.2.2.2.1, True) ∧ one z.2.2.2.2.2.2.2.2.2 = true)) rfl (by kernel_rfl) (opens_int Tryz.underlying3) ?_
  refine opensF_cons (G := fun (z : Int) => (Lit.int .i64 z).wf = true) (G' := (fun (z : Int × ByteArray × (Int × Int) × (Bool × ByteArray) × Bool × Int × Int × (List Wr) × Value) => (Lit.int .i64 z.1).wf = true ∧ ByteArray.size z.2.1 ≤ 140737488351232 ∧ ((Lit.int .i64 z.2.2.1.1).wf = true ∧ (Lit.int .i64 z.2.2.1.2).wf = true) ∧ (True ∧ ByteArray.size z.2.2.2.1.2 ≤ 140737488351232) ∧ True ∧ (Lit.int .i64 z.2.2.2.2.2.1).wf = true ∧ (Lit.int .i64 z.2.2.2.2.2.2.1).wf = true ∧ (List.length z.2.2.2.2.2.2.2.1 * 40 ≤ 140737488351232 ∧ ∀ y ∈ z.2.2.2.2.2.2.2.1, True) ∧ one z.2.2.2.2.2.2.2.2 = true)) rfl (by kernel_rfl) (opens_int Tryz.underlying3) ?_
  refine opensF_cons (G := fun (z : Int) => (Lit.int .i64 z).wf = true) (G' := (fun (z : ByteArray × (Int × Int) × (Bool × ByteArray) × Bool × Int × Int × (List Wr) × Value) => ByteArray.size z.1 ≤ 140737488351232 ∧ ((Lit.int .i64 z.2.1.1).wf = true ∧ (Lit.int .i64 z.2.1.2).wf = true) ∧ (True ∧ ByteArray.size z.2.2.1.2 ≤ 140737488351232) ∧ True ∧ (Lit.int .i64 z.2.2.2.2.1).wf = true ∧ (Lit.int .i64 z.2.2.2.2.2.1).wf = true ∧ (List.length z.2.2.2.2.2.2.1 * 40 ≤ 140737488351232 ∧ ∀ y ∈ z.2.2.2.2.2.2.1, True) ∧ one z.2.2.2.2.2.2.2 = true)) rfl (by kernel_rfl) (opens_int Tryz.underlying3) ?_
  refine opensF_cons (G := fun (z : ByteArray) => ByteArray.size z ≤ 140737488351232) (G' := (fun (z : (Int × Int) × (Bool × ByteArray) × Bool × Int × Int × (List Wr) × Value) => ((Lit.int .i64 z.1.1).wf = true ∧ (Lit.int .i64 z.1.2).wf = true) ∧ (True ∧ ByteArray.size z.2.1.2 ≤ 140737488351232) ∧ True ∧ (Lit.int .i64 z.2.2.2.1).wf = true ∧ (Lit.int .i64 z.2.2.2.2.1).wf = true ∧ (List.length z.2.2.2.2.2.1 * 40 ≤ 140737488351232 ∧ ∀ y ∈ z.2.2.2.2.2.1, True) ∧ one z.2.2.2.2.2.2 = true)) rfl (by kernel_rfl) (opens_string Tryz.underlying9) ?_
  refine opensF_cons (G := fun (z : Int × Int) => ((Lit.int .i64 z.1).wf = true ∧ (Lit.int .i64 z.2).wf = true)) (G' := (fun (z : (Bool × ByteArray) × Bool × Int × Int × (List Wr) × Value) => (True ∧ ByteArray.size z.1.2 ≤ 140737488351232) ∧ True ∧ (Lit.int .i64 z.2.2.1).wf = true ∧ (Lit.int .i64 z.2.2.2.1).wf = true ∧ (List.length z.2.2.2.2.1 * 40 ≤ 140737488351232 ∧ ∀ y ∈ z.2.2.2.2.1, True) ∧ one z.2.2.2.2.2 = true)) rfl (by kernel_rfl) opensT33 ?_
  refine opensF_cons (G := fun (z : Bool × ByteArray) => (True ∧ ByteArray.size z.2 ≤ 140737488351232)) (G' := (fun (z : Bool × Int × Int × (List Wr) × Value) => True ∧ (Lit.int .i64 z.2.1).wf = true ∧ (Lit.int .i64 z.2.2.1).wf = true ∧ (List.length z.2.2.2.1 * 40 ≤ 140737488351232 ∧ ∀ y ∈ z.2.2.2.1, True) ∧ one z.2.2.2.2 = true)) rfl (by kernel_rfl) opensT35 ?_
  refine opensF_cons (G := fun (z : Bool) => True) (G' := (fun (z : Int × Int × (List Wr) × Value) => (Lit.int .i64 z.1).wf = true ∧ (Lit.int .i64 z.2.1).wf = true ∧ (List.length z.2.2.1 * 40 ≤ 140737488351232 ∧ ∀ y ∈ z.2.2.1, True) ∧ one z.2.2.2 = true)) rfl (by kernel_rfl) (opens_bool Tryz.underlying4) ?_
  refine opensF_cons (G := fun (z : Int) => (Lit.int .i64 z).wf = true) (G' := (fun (z : Int × (List Wr) × Value) => (Lit.int .i64 z.1).wf = true ∧ (List.length z.2.1 * 40 ≤ 140737488351232 ∧ ∀ y ∈ z.2.1, True) ∧ one z.2.2 = true)) rfl (by kernel_rfl) (opens_int Tryz.underlying36) ?_
  refine opensF_cons (G := fun (z : Int) => (Lit.int .i64 z).wf = true) (G' := (fun (z : (List Wr) × Value) => (List.length z.1 * 40 ≤ 140737488351232 ∧ ∀ y ∈ z.1, True) ∧ one z.2 = true)) rfl (by kernel_rfl) (opens_int Tryz.underlying2) ?_
  refine opensF_cons (G := fun (z : (List Wr)) => (List.length z * 40 ≤ 140737488351232 ∧ ∀ y ∈ z, True)) (G' := (fun (z : Value) => one z = true)) rfl (by kernel_rfl) (opens_slice 40 Tryz.underlying31 (by kernel_rfl) (by kernel_rfl) opens_Wr) ?_
  exact opensF_one rfl (by kernel_rfl) (opens_shut Tryz.underlying37)
theorem opensT41 : Opens Tryz.prog 41 (Kd.pair (Kd.int .u8) (Kd.pair (Kd.int .i64) (Kd.pair (Kd.int .i64) (Kd.pair Kd.string (Kd.pair (Kd.slice (Kd.of 3 Wr.cells)) (Kd.pair (Kd.int .i64) (Kd.pair (Kd.int .i64) (Kd.pair (Kd.int .i64) (Kd.pair (Kd.int .i64) (Kd.pair (Kd.int .i64) (Kd.pair (Kd.int .i64) (Kd.pair Kd.string (Kd.pair (Kd.pair (Kd.int .i64) (Kd.int .i64)) (Kd.pair (Kd.pair Kd.bool Kd.string) (Kd.pair Kd.bool (Kd.pair (Kd.int .i64) (Kd.pair (Kd.int .i64) (Kd.pair (Kd.slice (Kd.of 3 Wr.cells)) Kd.shut)))))))))))))))))) (fun (x : Int × Int × Int × ByteArray × (List Wr) × (Int × Int × Int × Int × Int × Int × ByteArray × (Int × Int) × (Bool × ByteArray) × Bool × Int × Int × (List Wr) × Value)) => ((Lit.int .u8 x.1).wf = true ∧ (Lit.int .i64 x.2.1).wf = true ∧ (Lit.int .i64 x.2.2.1).wf = true ∧ ByteArray.size x.2.2.2.1 ≤ 140737488351232 ∧ (List.length x.2.2.2.2.1 * 40 ≤ 140737488351232 ∧ ∀ y ∈ x.2.2.2.2.1, True) ∧ ((Lit.int .i64 x.2.2.2.2.2.1).wf = true ∧ (Lit.int .i64 x.2.2.2.2.2.2.1).wf = true ∧ (Lit.int .i64 x.2.2.2.2.2.2.2.1).wf = true ∧ (Lit.int .i64 x.2.2.2.2.2.2.2.2.1).wf = true ∧ (Lit.int .i64 x.2.2.2.2.2.2.2.2.2.1).wf = true ∧ (Lit.int .i64 x.2.2.2.2.2.2.2.2.2.2.1).wf = true ∧ ByteArray.size x.2.2.2.2.2.2.2.2.2.2.2.1 ≤ 140737488351232 ∧ ((Lit.int .i64 x.2.2.2.2.2.2.2.2.2.2.2.2.1.1).wf = true ∧ (Lit.int .i64 x.2.2.2.2.2.2.2.2.2.2.2.2.1.2).wf = true) ∧ (True ∧ ByteArray.size x.2.2.2.2.2.2.2.2.2.2.2.2.2.1.2 ≤ 140737488351232) ∧ True ∧ (Lit.int .i64 x.2.2.2.2.2.2.2.2.2.2.2.2.2.2.2.1).wf = true ∧ (Lit.int .i64 x.2.2.2.2.2.2.2.2.2.2.2.2.2.2.2.2.1).wf = true ∧ (List.length x.2.2.2.2.2.2.2.2.2.2.2.2.2.2.2.2.2.1 * 40 ≤ 140737488351232 ∧ ∀ y ∈ x.2.2.2.2.2.2.2.2.2.2.2.2.2.2.2.2.2.1, True) ∧ one x.2.2.2.2.2.2.2.2.2.2.2.2.2.2.2.2.2.2 = true))) := by
  refine opens_struct Tryz.underlying41 (by kernel_rfl) ?_
  show OpensF Tryz.prog (_ :: _) 0 (Kd.pair (Kd.int .u8) (Kd.pair (Kd.int .i64) (Kd.pair (Kd.int .i64) (Kd.pair Kd.string (Kd.pair (Kd.slice (Kd.of 3 Wr.cells)) (Kd.pair (Kd.int .i64) (Kd.pair (Kd.int .i64) (Kd.pair (Kd.int .i64) (Kd.pair (Kd.int .i64) (Kd.pair (Kd.int .i64) (Kd.pair (Kd.int .i64) (Kd.pair Kd.string (Kd.pair (Kd.pair (Kd.int .i64) (Kd.int .i64)) (Kd.pair (Kd.pair Kd.bool Kd.string) (Kd.pair Kd.bool (Kd.pair (Kd.int .i64) (Kd.pair (Kd.int .i64) (Kd.pair (Kd.slice (Kd.of 3 Wr.cells)) Kd.shut)))))))))))))))))) _
  refine opensF_cons (G := fun (z : Int) => (Lit.int .u8 z).wf = true) (G' := (fun (z : Int × Int × ByteArray × (List Wr) × (Int × Int × Int × Int × Int × Int × ByteArray × (Int × Int) × (Bool × ByteArray) × Bool × Int × Int × (List Wr) × Value)) => (Lit.int .i64 z.1).wf = true ∧ (Lit.int .i64 z.2.1).wf = true ∧ ByteArray.size z.2.2.1 ≤ 140737488351232 ∧ (List.length z.2.2.2.1 * 40 ≤ 140737488351232 ∧ ∀ y ∈ z.2.2.2.1, True) ∧ ((Lit.int .i64 z.2.2.2.2.1).wf = true ∧ (Lit.int .i64 z.2.2.2.2.2.1).wf = true ∧ (Lit.int .i64 z.2.2.2.2.2.2.1).wf = true ∧ (Lit.int .i64 z.2.2.2.2.2.2.2.1).wf = true ∧ (Lit.int .i64 z.2.2.2.2.2.2.2.2.1).wf = true ∧ (Lit.int .i64 z.2.2.2.2.2.2.2.2.2.1).wf = true ∧ ByteArray.size z.2.2.2.2.2.2.2.2.2.2.1 ≤ 140737488351232 ∧ ((Lit.int .i64 z.2.2.2.2.2.2.2.2.2.2.2.1.1).wf = true ∧ (Lit.int .i64 z.2.2.2.2.2.2.2.2.2.2.2.1.2).wf = true) ∧ (True ∧ ByteArray.size z.2.2.2.2.2.2.2.2.2.2.2.2.1.2 ≤ 140737488351232) ∧ True ∧ (Lit.int .i64 z.2.2.2.2.2.2.2.2.2.2.2.2.2.2.1).wf = true ∧ (Lit.int .i64 z.2.2.2.2.2.2.2.2.2.2.2.2.2.2.2.1).wf = true ∧ (List.length z.2.2.2.2.2.2.2.2.2.2.2.2.2.2.2.2.1 * 40 ≤ 140737488351232 ∧ ∀ y ∈ z.2.2.2.2.2.2.2.2.2.2.2.2.2.2.2.2.1, True) ∧ one z.2.2.2.2.2.2.2.2.2.2.2.2.2.2.2.2.2 = true))) rfl (by kernel_rfl) (opens_int Tryz.underlying5) ?_
  refine opensF_cons (G := fun (z : Int) => (Lit.int .i64 z).wf = true) (G' := (fun (z : Int × ByteArray × (List Wr) × (Int × Int × Int × Int × Int × Int × ByteArray × (Int × Int) × (Bool × ByteArray) × Bool × Int × Int × (List Wr) × Value)) => (Lit.int .i64 z.1).wf = true ∧ ByteArray.size z.2.1 ≤ 140737488351232 ∧ (List.length z.2.2.1 * 40 ≤ 140737488351232 ∧ ∀ y ∈ z.2.2.1, True) ∧ ((Lit.int .i64 z.2.2.2.1).wf = true ∧ (Lit.int .i64 z.2.2.2.2.1).wf = true ∧ (Lit.int .i64 z.2.2.2.2.2.1).wf = true ∧ (Lit.int .i64 z.2.2.2.2.2.2.1).wf = true ∧ (Lit.int .i64 z.2.2.2.2.2.2.2.1).wf = true ∧ (Lit.int .i64 z.2.2.2.2.2.2.2.2.1).wf = true ∧ ByteArray.size z.2.2.2.2.2.2.2.2.2.1 ≤ 140737488351232 ∧ ((Lit.int .i64 z.2.2.2.2.2.2.2.2.2.2.1.1).wf = true ∧ (Lit.int .i64 z.2.2.2.2.2.2.2.2.2.2.1.2).wf = true) ∧ (True ∧ ByteArray.size z.2.2.2.2.2.2.2.2.2.2.2.1.2 ≤ 140737488351232) ∧ True ∧ (Lit.int .i64 z.2.2.2.2.2.2.2.2.2.2.2.2.2.1).wf = true ∧ (Lit.int .i64 z.2.2.2.2.2.2.2.2.2.2.2.2.2.2.1).wf = true ∧ (List.length z.2.2.2.2.2.2.2.2.2.2.2.2.2.2.2.1 * 40 ≤ 140737488351232 ∧ ∀ y ∈ z.2.2.2.2.2.2.2.2.2.2.2.2.2.2.2.1, True) ∧ one z.2.2.2.2.2.2.2.2.2.2.2.2.2.2.2.2 = true))) rfl (by kernel_rfl) (opens_int Tryz.underlying3) ?_
  refine opensF_cons (G := fun (z : Int) => (Lit.int .i64 z).wf = true) (G' := (fun (z : ByteArray × (List Wr) × (Int × Int × Int × Int × Int × Int × ByteArray × (Int × Int) × (Bool × ByteArray) × Bool × Int × Int × (List Wr) × Value)) => ByteArray.size z.1 ≤ 140737488351232 ∧ (List.length z.2.1 * 40 ≤ 140737488351232 ∧ ∀ y ∈ z.2.1, True) ∧ ((Lit.int .i64 z.2.2.1).wf = true ∧ (Lit.int .i64 z.2.2.2.1).wf = true ∧ (Lit.int .i64 z.2.2.2.2.1).wf = true ∧ (Lit.int .i64 z.2.2.2.2.2.1).wf = true ∧ (Lit.int .i64 z.2.2.2.2.2.2.1).wf = true ∧ (Lit.int .i64 z.2.2.2.2.2.2.2.1).wf = true ∧ ByteArray.size z.2.2.2.2.2.2.2.2.1 ≤ 140737488351232 ∧ ((Lit.int .i64 z.2.2.2.2.2.2.2.2.2.1.1).wf = true ∧ (Lit.int .i64 z.2.2.2.2.2.2.2.2.2.1.2).wf = true) ∧ (True ∧ ByteArray.size z.2.2.2.2.2.2.2.2.2.2.1.2 ≤ 140737488351232) ∧ True ∧ (Lit.int .i64 z.2.2.2.2.2.2.2.2.2.2.2.2.1).wf = true ∧ (Lit.int .i64 z.2.2.2.2.2.2.2.2.2.2.2.2.2.1).wf = true ∧ (List.length z.2.2.2.2.2.2.2.2.2.2.2.2.2.2.1 * 40 ≤ 140737488351232 ∧ ∀ y ∈ z.2.2.2.2.2.2.2.2.2.2.2.2.2.2.1, True) ∧ one z.2.2.2.2.2.2.2.2.2.2.2.2.2.2.2 = true))) rfl (by kernel_rfl) (opens_int Tryz.underlying3) ?_
  refine opensF_cons (G := fun (z : ByteArray) => ByteArray.size z ≤ 140737488351232) (G' := (fun (z : (List Wr) × (Int × Int × Int × Int × Int × Int × ByteArray × (Int × Int) × (Bool × ByteArray) × Bool × Int × Int × (List Wr) × Value)) => (List.length z.1 * 40 ≤ 140737488351232 ∧ ∀ y ∈ z.1, True) ∧ ((Lit.int .i64 z.2.1).wf = true ∧ (Lit.int .i64 z.2.2.1).wf = true ∧ (Lit.int .i64 z.2.2.2.1).wf = true ∧ (Lit.int .i64 z.2.2.2.2.1).wf = true ∧ (Lit.int .i64 z.2.2.2.2.2.1).wf = true ∧ (Lit.int .i64 z.2.2.2.2.2.2.1).wf = true ∧ ByteArray.size z.2.2.2.2.2.2.2.1 ≤ 140737488351232 ∧ ((Lit.int .i64 z.2.2.2.2.2.2.2.2.1.1).wf = true ∧ (Lit.int .i64 z.2.2.2.2.2.2.2.2.1.2).wf = true) ∧ (True ∧ ByteArray.size z.2.2.2.2.2.2.2.2.2.1.2 ≤ 140737488351232) ∧ True ∧ (Lit.int .i64 z.2.2.2.2.2.2.2.2.2.2.2.1).wf = true ∧ (Lit.int .i64 z.2.2.2.2.2.2.2.2.2.2.2.2.1).wf = true ∧ (List.length z.2.2.2.2.2.2.2.2.2.2.2.2.2.1 * 40 ≤ 140737488351232 ∧ ∀ y ∈ z.2.2.2.2.2.2.2.2.2.2.2.2.2.1, True) ∧ one z.2.2.2.2.2.2.2.2.2.2.2.2.2.2 = true))) rfl (by kernel_rfl) (opens_string Tryz.underlying9) ?_
  refine opensF_cons (G := fun (z : (List Wr)) => (List.length z * 40 ≤ 140737488351232 ∧ ∀ y ∈ z, True)) (G' := (fun (z : (Int × Int × Int × Int × Int × Int × ByteArray × (Int × Int) × (Bool × ByteArray) × Bool × Int × Int × (List Wr) × Value)) => ((Lit.int .i64 z.1).wf = true ∧ (Lit.int .i64 z.2.1).wf = true ∧ (Lit.int .i64 z.2.2.1).wf = true ∧ (Lit.int .i64 z.2.2.2.1).wf = true ∧ (Lit.int .i64 z.2.2.2.2.1).wf = true ∧ (Lit.int .i64 z.2.2.2.2.2.1).wf = true ∧ ByteArray.size z.2.2.2.2.2.2.1 ≤ 140737488351232 ∧ ((Lit.int .i64 z.2.2.2.2.2.2.2.1.1).wf = true ∧ (Lit.int .i64 z.2.2.2.2.2.2.2.1.2).wf = true) ∧ (True ∧ ByteArray.size z.2.2.2.2.2.2.2.2.1.2 ≤ 140737488351232) ∧ True ∧ (Lit.int .i64 z.2.2.2.2.2.2.2.2.2.2.1).wf = true ∧ (Lit.int .i64 z.2.2.2.2.2.2.2.2.2.2.2.1).wf = true ∧ (List.length z.2.2.2.2.2.2.2.2.2.2.2.2.1 * 40 ≤ 140737488351232 ∧ ∀ y ∈ z.2.2.2.2.2.2.2.2.2.2.2.2.1, True) ∧ one z.2.2.2.2.2.2.2.2.2.2.2.2.2 = true))) rfl (by kernel_rfl) (opens_slice 40 Tryz.underlying31 (by kernel_rfl) (by kernel_rfl) opens_Wr) ?_
  exact opensF_one rfl (by kernel_rfl) opensT39
theorem opens_OpZ : Opens Tryz.prog 41 kdOpC (fun _ => True) := by
  refine opens_rel opensT41 (fun w x cs hK hG => ?_)
  obtain ⟨_, _, rfl, rfl, ⟨_, _, rfl, rfl, ⟨_, _, rfl, rfl, ⟨_, _, rfl, rfl, ⟨_, _, rfl, ⟨A1, c1, rfl, _, hC1⟩, ⟨_, _, rfl, rfl, ⟨_, _, rfl, rfl, ⟨_, _, rfl, rfl, ⟨_, _, rfl, rfl, ⟨_, _, rfl, rfl, ⟨_, _, rfl, rfl, ⟨_, _, rfl, rfl, ⟨_, _, rfl, ⟨_, _, rfl, rfl, rfl⟩, ⟨_, _, rfl, ⟨_, _, rfl, rfl, rfl⟩, ⟨_, _, rfl, rfl, ⟨_, _, rfl, rfl, ⟨_, _, rfl, rfl, ⟨_, _, rfl, ⟨A2, c2, rfl, _, hC2⟩, ⟨rfl, _, _, _, e3⟩⟩⟩⟩⟩⟩⟩⟩⟩⟩⟩⟩⟩⟩⟩⟩⟩⟩⟩ := hK
  refine ⟨⟨x.1, x.2.1, x.2.2.1, x.2.2.2.1, .slice A1 (List.length x.2.2.2.2.1) c1, ⟨x.2.2.2.2.2.1, x.2.2.2.2.2.2.1, x.2.2.2.2.2.2.2.1, x.2.2.2.2.2.2.2.2.1, x.2.2.2.2.2.2.2.2.2.1, x.2.2.2.2.2.2.2.2.2.2.1, x.2.2.2.2.2.2.2.2.2.2.2.1, x.2.2.2.2.2.2.2.2.2.2.2.2.1.1, x.2.2.2.2.2.2.2.2.2.2.2.2.1.2, x.2.2.2.2.2.2.2.2.2.2.2.2.2.1.1, x.2.2.2.2.2.2.2.2.2.2.2.2.2.1.2, x.2.2.2.2.2.2.2.2.2.2.2.2.2.2.1, x.2.2.2.2.2.2.2.2.2.2.2.2.2.2.2.1, x.2.2.2.2.2.2.2.2.2.2.2.2.2.2.2.2.1, .slice A2 (List.length x.2.2.2.2.2.2.2.2.2.2.2.2.2.2.2.2.2.1) c2, x.2.2.2.2.2.2.2.2.2.2.2.2.2.2.2.2.2.2⟩⟩, ⟨rfl, ?_⟩, trivial⟩
  have hb := hG.2.2.2.2.1.1
  exact ⟨⟨hG.2.2.2.1, rfl, hG.2.2.2.2.2.2.2.2.2.2.2.2.2.2.2.2.2.2, _, ro_rows (by decide) hC1, by omega⟩, (u8_range hG.1).1⟩
open Go.Sp
set_option linter.unusedSimpArgs false
/-- One session more, whatever it is. -/
def CL.adds (D : CL) (k : Nat) (vs' : Value) (S : SesS) (v : Value) (ws : List Wr) : CL := { D with vs := vs', ss := D.ss ++ [⟨k, S, v, ws⟩] }
theorem adds_moved {τ σ' : Hp} {D : CL} {k : Nat} {vs' v : Value} {S : SesS} {ws : List Wr} (h : CliAt τ D) (hk : τ k = none) (hg : σ' D.g = some (.cells (CliC D.c vs' D.vt D.vh) 67)) (hr : RowsAt 92 1 gC σ' vs' (D.ss.map (·.g) ++ [k]))
    (hkk : σ' k = some (.cells (S.cells v) 130)) (hw : RowsAt 52 3 Wr.cells σ' v ws) (hnv : New τ v) (hs : Same (fun i => i = D.g ∨ blk D.vs = some i) τ σ') (hv : ∀ i, blk vs' = some i → blk D.vs = some i ∨ τ i = none) : Moved τ D σ' (D.adds k vs' S v ws) := by
  refine ⟨⟨hg, ?_, ?_, ?_, ?_, ?_, ?_, ?_, h.dT, h.dR⟩, ?_, ?_⟩
  · show RowsAt _ _ _ _ _ ((D.ss ++ [_]).map _)
    rw [List.map_append]; exact hr
  · exact h.vt.sameF hs fun i hi e => e.elim (fun e => h.vt.notCells h.cli (by rw [hi, e])) (h.vt.apart h.vs (by decide) hi)
  · exact h.vh.sameF hs fun i hi e => e.elim (fun e => h.vh.notCells h.cli (by rw [hi, e])) (h.vh.apart h.vs (by decide) hi)
  · intro j x hx
    rcases snoc_get hx with ⟨rfl, rfl⟩ | ⟨_, hx⟩
    · exact ⟨hkk, hw⟩
    · obtain ⟨a, b⟩ := h.ses j x hx
      exact ⟨by rw [hs _ (by rw [a]; simp) (fun e => e.elim (cells_ne a h.cli (by decide)) (h.vs.notCells a))]; exact a,
        b.sameF hs fun i hi e => e.elim (fun e => b.notCells h.cli (by rw [hi, e])) (b.apart h.vs (by decide) hi)⟩
  · intro j t ht
    have a := h.tx j t ht
    exact a.keepF hs (fun e => e.elim (cells_ne a.1 h.cli (by decide)) (h.vs.notCells a.1)) fun i hi e => e.elim (fun e => a.2.notCells h.cli (by rw [hi, e])) (a.2.apart h.vs (by decide) hi)
  · intro j t ht
    obtain ⟨s, h1, h2⟩ := h.home j t ht
    exact ⟨s, get_snoc h1, h2⟩
  · intro a b x y hx hy e
    rcases snoc_get hx with ⟨ea, rfl⟩ | ⟨_, hx'⟩ <;> rcases snoc_get hy with ⟨eb, rfl⟩ | ⟨_, hy'⟩
    · rw [ea, eb]
    · exfalso; have := (h.ses b y hy').1; rw [← e] at this; rw [show (⟨k, S, v, ws⟩ : SR).g = k from rfl, hk] at this; cases this
    · exfalso; have := (h.ses a x hx').1; rw [e] at this; rw [show (⟨k, S, v, ws⟩ : SR).g = k from rfl, hk] at this; cases this
    · exact h.dS a b x y hx' hy' e
  · exact fun i hi hf => hs i hi fun e => hf (e.imp id .inl)
  · rintro i (e | e | e | e | ⟨x, hx, e⟩ | e)
    · exact .inl (.inl e)
    · exact (hv i e).imp (fun e => .inr (.inl e)) id
    · exact .inl (.inr (.inr (.inl e)))
    · exact .inl (.inr (.inr (.inr (.inl e))))
    · rcases List.mem_append.1 hx with hx | hx
      · exact .inl (.inr (.inr (.inr (.inr (.inl ⟨x, hx, e⟩)))))
      · obtain rfl := List.mem_singleton.1 hx
        rcases e with e | e
        · exact .inr (by rw [e]; exact hk)
        · exact .inr (hnv i e)
    · exact .inl (.inr (.inr (.inr (.inr (.inr e)))))
/-- One round: a session cloned, and laid behind the others. -/
def Round1 (τ : Hp) (D : CL) (s : SR) (σ' : Hp) : Prop := ∃ k vs' v, Moved τ D σ' (D.adds k vs' s.S v s.ws)
theorem last1 {τ σ1 σ' : Hp} {D : CL} {s : SR} {k : Nat} {vs' v : Value} (h : CliAt τ D) (hk : τ k = none) (h1 : σ1 k = some (.cells (s.S.cells v) 130)) (h2 : RowsAt 52 3 Wr.cells σ1 v s.ws) (h3 : Same (fun _ => False) τ σ1) (h4 : New τ v)
    (hg : σ' D.g = some (.cells (CliC D.c vs' D.vt D.vh) 67)) (hr : RowsAt 92 1 gC σ' vs' (D.ss.map (·.g) ++ [k])) (hs : Same (fun i => i = D.g ∨ blk D.vs = some i) σ1 σ') (hv : ∀ i, blk vs' = some i → blk D.vs = some i ∨ σ1 i = none) : Round1 τ D s σ' := by
  have g1 : σ1 D.g = some (.cells (CliC D.c D.vs D.vt D.vh) 67) := h3.at h.cli (fun x => x)
  have hF : ¬ (k = D.g ∨ blk D.vs = some k) := fun e => by
    rcases e with e | e
    · rw [e, h.cli] at hk; cases hk
    · exact h.vs.known e hk
  have hs0 : Same (fun i => i = D.g ∨ blk D.vs = some i) τ σ' := fun i hi hf => by rw [hs i (by rw [h3 i hi (fun x => x)]; exact hi) hf, h3 i hi (fun x => x)]
  have r1 := h.vs.sameF h3 fun _ _ x => x
  exact ⟨k, vs', v, adds_moved h hk hg hr (by rw [hs k (by rw [h1]; simp) hF]; exact h1) (h2.sameF hs fun i hi e => e.elim (fun e => h2.notCells g1 (by rw [hi, e])) (h2.apart r1 (by decide) hi)) h4 hs0 fun i hi => (hv i hi).imp id fun e => (Same.sub h3).noneAt e⟩
set_option maxRecDepth 100000
/-- vouch/vouchlaw18.ClientClones -/
def c4 : C := (.seq (.reg [(rO 3 (.box 23 (.tmp 0))),
 (rO 6 (.mv (.const (.bool false))))])
 (.seq (.seq (.reg [(rO 14 (.call 5 [])),
 (rO 15 (.nt (.tmp 14)))])
 (.cond (.tmp 15) (.seq (.reg [(rO 6 (.mv (.const (.bool false))))])
 .ret)
 .skip))
 (.seq (.draw [⟨(rO 16 (.ld (some 8) (.tmp 3))), .l⟩,
 ⟨(rO 17 (.call 6 [(.tmp 16)])), .g⟩,
 ⟨(rO 18 (.ld (some 8) (.tmp 3))), .l⟩,
 ⟨(rO 19 (.call 7 [(.tmp 18)])), .m⟩,
 ⟨(rO 7 (.mv (.tmp 17))), .p⟩,
 ⟨(rO 8 (.mv (.tmp 19))), .p⟩])
 (.seq (.seq (.reg [(rO 9 (.mv (.const (.int .i64 0))))])
 (.block 0 (.loop (.seq (.seq (.reg [(rO 20 (.mv (.tmp 9))),
 (rO 21 (.mv (.tmp 1))),
 (rO 22 (.len true (.tmp 21))),
 (rO 23 (.bin .lss (.tmp 20) (.tmp 22)))])
 (.cond (.tmp 23) .skip
 (.exit 0)))
 (.seq (.block 1 (.seq (.reg [(rO 26 (.mv (.tmp 7))),
 (rO 27 (.mv (.tmp 8))),
 (rO 28 (.mv (.tmp 1))),
 (rO 29 (.mv (.tmp 9))),
 (rO 30 (.ia 21 (.tmp 28) (.tmp 29))),
 (rO 31 (.ld (some 21) (.tmp 30))),
 (rO 32 (.call 8 [(.tmp 26), (.tmp 27), (.tmp 31)])),
 (rO 33 (.nt (.tmp 32)))])
 (.cond (.tmp 33) (.seq (.reg [(rO 6 (.mv (.const (.bool false))))])
 .ret)
 .skip)))
 (.reg [(rO 24 (.mv (.tmp 9))),
 (rO 25 (.bin .add (.tmp 24) (.const (.int .i64 1)))),
 (rO 9 (.mv (.tmp 25)))]))))))
 (.seq (.reg [(rO 34 (.mv (.tmp 7))),
 (rO 35 (.call 10 [(.tmp 34)])),
 (rO 36 (.mv (.tmp 8))),
 (rO 37 (.call 11 [(.tmp 36)])),
 (rO 10 (.mv (.tmp 35))),
 (rO 11 (.mv (.tmp 37)))])
 (.seq (.seq (.reg [(rO 38 (.mv (.tmp 10))),
 (rO 39 (.eqs false .ptr (.tmp 38) (.const (.pointer none))))])
 (.cond (.tmp 39) (.seq (.reg [(rO 6 (.mv (.const (.bool false))))])
 .ret)
 .skip))
 (.seq (.seq (.reg [(rO 12 (.mv (.const (.int .i64 0))))])
 (.block 2 (.loop (.seq (.seq (.reg [(rO 40 (.mv (.tmp 12))),
 (rO 41 (.mv (.tmp 2))),
 (rO 42 (.len true (.tmp 41))),
 (rO 43 (.bin .lss (.tmp 40) (.tmp 42)))])
 (.cond (.tmp 43) .skip
 (.exit 2)))
 (.seq (.block 3 (.seq (.reg [(rO 46 (.mv (.tmp 10))),
 (rO 47 (.mv (.tmp 11))),
 (rO 48 (.mv (.tmp 2))),
 (rO 49 (.mv (.tmp 12))),
 (rO 50 (.ia 21 (.tmp 48) (.tmp 49))),
 (rO 51 (.ld (some 21) (.tmp 50))),
 (rO 52 (.call 8 [(.tmp 46), (.tmp 47), (.tmp 51)])),
 (rO 53 (.nt (.tmp 52)))])
 (.cond (.tmp 53) (.seq (.reg [(rO 6 (.mv (.const (.bool false))))])
 .ret)
 .skip)))
 (.reg [(rO 44 (.mv (.tmp 12))),
 (rO 45 (.bin .add (.tmp 44) (.const (.int .i64 1)))),
 (rO 12 (.mv (.tmp 45)))]))))))
 (.seq (.seq (.reg [(rO 13 (.mv (.const (.int .i64 0))))])
 (.block 4 (.loop (.seq (.seq (.reg [(rO 54 (.mv (.tmp 13))),
 (rO 55 (.bin .lss (.tmp 54) (.const (.int .i64 64))))])
 (.cond (.tmp 55) .skip
 (.exit 4)))
 (.seq (.block 5 (.seq (.reg [(rO 58 (.mv (.tmp 7))),
 (rO 59 (.mv (.tmp 8))),
 (rO 60 (.mv (.tmp 13))),
 (rO 61 (.mv (.tmp 13))),
 (rO 62 (.call 9 [(.tmp 58), (.tmp 59), (.tmp 60), (.tmp 61)])),
 (rO 63 (.nt (.tmp 62))),
 (rO 64 (.mv (.tmp 63))),
 ⟨(some 65), (.mv (.tmp 10)), (some (64, false))⟩,
 ⟨(some 66), (.mv (.tmp 11)), (some (64, false))⟩,
 ⟨(some 67), (.mv (.tmp 13)), (some (64, false))⟩,
 ⟨(some 68), (.mv (.tmp 13)), (some (64, false))⟩,
 ⟨(some 69), (.call 9 [(.tmp 65), (.tmp 66), (.tmp 67), (.tmp 68)]), (some (64, false))⟩,
 ⟨(some 70), (.nt (.tmp 69)), (some (64, false))⟩,
 (rO 71 (.pick (.tmp 64) (.const (.bool true)) (.tmp 70)))])
 (.cond (.tmp 71) (.seq (.reg [(rO 6 (.mv (.const (.bool false))))])
 .ret)
 .skip)))
 (.reg [(rO 56 (.mv (.tmp 13))),
 (rO 57 (.bin .add (.tmp 56) (.const (.int .i64 1)))),
 (rO 13 (.mv (.tmp 57)))]))))))
 (.seq (.reg [(rO 6 (.mv (.const (.bool true))))])
 .ret)))))))))
def r4 : List RV := [.tmp 6]
theorem ok4 : FnOk Tryz.prog 4 72 c4 r4 := ⟨[40, 45, 17, 68], _, _, Tryz.func4, rfl, rfl, by kernel_rfl, by kernel_rfl, by kernel_rfl⟩
def c10_b1 : C := (.block 1 (.seq (.reg [(rO 23 (.ia 1 (.tmp 19) (.tmp 21))),
 (rO 24 (.ld none (.tmp 23))),
 (rO 5 (.mv (.tmp 24)))])
 (.draw [⟨(rO 25 (.mv (.tmp 3))), .p⟩,
 ⟨(rO 26 (.mv (.tmp 3))), .p⟩,
 ⟨(rO 27 (.nilc (.tmp 26))), .p⟩,
 ⟨(rO 28 (.fa 8 (.tmp 27))), .p⟩,
 ⟨(rO 29 (.ld none (.tmp 28))), .l⟩,
 ⟨(rO 30 (.mv (.tmp 5))), .p⟩,
 ⟨(rO 31 (.call 35 [(.tmp 30)])), .g⟩,
 ⟨(rO 32 (.lit 92 1 1 [.pointer none] [(0, 1, (.tmp 31))])), .f⟩,
 ⟨(rO 33 (.app 92 1 8 (.tmp 29) (.tmp 32))), .m⟩,
 ⟨(rO 34 (.nilc (.tmp 25))), .p⟩,
 ⟨(rO 35 (.fa 8 (.tmp 34))), .p⟩,
 ⟨⟨none, (.st 1 (.tmp 35) (.tmp 33)), none⟩, .m⟩])))
def c10_t1 : C := (.reg [(rO 36 (.bin .add (.tmp 21) (.const (.int .i64 1)))),
 (rO 21 (.mv (.tmp 36)))])
def c10_s1 : C := .seq c10_b1 c10_t1
def c10_b3 : C := (.block 3 (.seq (.reg [(rO 44 (.mv (.tmp 42))),
 (rO 45 (.ia 2 (.tmp 40) (.tmp 42))),
 (rO 46 (.ld (some 2) (.tmp 45))),
 (rO 7 (.new 96 [.pointer none, .pointer none])),
 (rO 6 (.mv (.tmp 44))),
 ⟨none, (.st 2 (.tmp 7) (.tmp 46)), none⟩])
 (.draw [⟨(rO 47 (.mv (.tmp 3))), .p⟩,
 ⟨(rO 48 (.mv (.tmp 3))), .p⟩,
 ⟨(rO 49 (.nilc (.tmp 48))), .p⟩,
 ⟨(rO 50 (.fa 9 (.tmp 49))), .p⟩,
 ⟨(rO 51 (.ld none (.tmp 50))), .l⟩,
 ⟨(rO 52 (.fa 0 (.tmp 7))), .p⟩,
 ⟨(rO 53 (.ld none (.tmp 52))), .l⟩,
 ⟨(rO 54 (.call 36 [(.tmp 53)])), .g⟩,
 ⟨(rO 55 (.mv (.tmp 3))), .p⟩,
 ⟨(rO 56 (.nilc (.tmp 55))), .p⟩,
 ⟨(rO 57 (.fa 8 (.tmp 56))), .p⟩,
 ⟨(rO 58 (.ld none (.tmp 57))), .l⟩,
 ⟨(rO 59 (.mv (.tmp 0))), .p⟩,
 ⟨(rO 60 (.nilc (.tmp 59))), .p⟩,
 ⟨(rO 61 (.fa 10 (.tmp 60))), .p⟩,
 ⟨(rO 62 (.ld none (.tmp 61))), .l⟩,
 ⟨(rO 63 (.mv (.tmp 6))), .p⟩,
 ⟨(rO 64 (.ia 1 (.tmp 62) (.tmp 63))), .p⟩,
 ⟨(rO 65 (.ld none (.tmp 64))), .l⟩,
 ⟨(rO 66 (.ia 1 (.tmp 58) (.tmp 65))), .p⟩,
 ⟨(rO 67 (.ld none (.tmp 66))), .l⟩,
 ⟨(rO 68 (.bld [.pointer none, .pointer none] [(0, 1, (.tmp 54)), (1, 1, (.tmp 67))])), .p⟩,
 ⟨(rO 69 (.lit 96 1 2 [.pointer none, .pointer none] [(0, 2, (.tmp 68))])), .f⟩,
 ⟨(rO 70 (.app 96 2 16 (.tmp 51) (.tmp 69))), .m⟩,
 ⟨(rO 71 (.nilc (.tmp 47))), .p⟩,
 ⟨(rO 72 (.fa 9 (.tmp 71))), .p⟩,
 ⟨⟨none, (.st 1 (.tmp 72) (.tmp 70)), none⟩, .m⟩])))
def c10_t3 : C := (.reg [(rO 73 (.bin .add (.tmp 42) (.const (.int .i64 1)))),
 (rO 42 (.mv (.tmp 73)))])
def c10_s3 : C := .seq c10_b3 c10_t3
/-- (*vouch/client.Client).Clone -/
def c10 : C := (.seq (.reg [(rO 2 (.mv (.const (.pointer none))))])
 (.seq (.seq (.reg [(rO 8 (.mv (.tmp 0))),
 (rO 9 (.eqs false .ptr (.tmp 8) (.const (.pointer none))))])
 (.cond (.tmp 9) (.seq (.reg [(rO 2 (.mv (.const (.pointer none))))])
 .ret)
 .skip))
 (.seq (.reg [(rO 10 (.mv (.tmp 0))),
 (rO 11 (.nilc (.tmp 10))),
 (rO 12 (.fa 0 (.tmp 11))),
 (rO 13 (.ld (some 8) (.tmp 12))),
 (rO 14 (.bld [.int .i64 (0), .int .i64 (0), .int .i64 (0), .int .i64 (0), .int .i64 (0), .int .i64 (0), .int .i64 (0), .int .i64 (0), .slice none 0 0, .slice none 0 0, .slice none 0 0] [(0, 8, (.tmp 13))])),
 (rO 15 (.box 67 (.tmp 14))),
 (rO 3 (.mv (.tmp 15)))])
 (.seq (.seq (.reg [(rO 16 (.mv (.tmp 0))),
 (rO 17 (.nilc (.tmp 16))),
 (rO 18 (.fa 8 (.tmp 17))),
 (rO 19 (.ld none (.tmp 18))),
 (rO 20 (.len true (.tmp 19))),
 (rO 21 (.mv (.const (.int .i64 0))))])
 (.block 0 (.loop (.seq (.reg [(rO 22 (.bin .lss (.tmp 21) (.tmp 20)))])
 (.seq (.cond (.tmp 22) .skip
 (.exit 0))
 c10_s1)))))
 (.seq (.seq (.reg [(rO 37 (.mv (.tmp 0))),
 (rO 38 (.nilc (.tmp 37))),
 (rO 39 (.fa 9 (.tmp 38))),
 (rO 40 (.ld none (.tmp 39))),
 (rO 41 (.len true (.tmp 40))),
 (rO 42 (.mv (.const (.int .i64 0))))])
 (.block 2 (.loop (.seq (.reg [(rO 43 (.bin .lss (.tmp 42) (.tmp 41)))])
 (.seq (.cond (.tmp 43) .skip
 (.exit 2))
 c10_s3)))))
 (.seq (.draw [⟨(rO 74 (.mv (.tmp 3))), .p⟩,
 ⟨(rO 75 (.mv (.tmp 3))), .p⟩,
 ⟨(rO 76 (.nilc (.tmp 75))), .p⟩,
 ⟨(rO 77 (.fa 10 (.tmp 76))), .p⟩,
 ⟨(rO 78 (.ld none (.tmp 77))), .l⟩,
 ⟨(rO 79 (.mv (.tmp 0))), .p⟩,
 ⟨(rO 80 (.nilc (.tmp 79))), .p⟩,
 ⟨(rO 81 (.fa 10 (.tmp 80))), .p⟩,
 ⟨(rO 82 (.ld none (.tmp 81))), .l⟩,
 ⟨(rO 83 (.app 3 1 8 (.tmp 78) (.tmp 82))), .m⟩,
 ⟨(rO 84 (.nilc (.tmp 74))), .p⟩,
 ⟨(rO 85 (.fa 10 (.tmp 84))), .p⟩,
 ⟨⟨none, (.st 1 (.tmp 85) (.tmp 83)), none⟩, .m⟩])
 (.seq (.reg [(rO 86 (.mv (.tmp 3))),
 (rO 2 (.mv (.tmp 86)))])
 .ret)))))))
def r10 : List RV := [.tmp 2]
theorem ok10 : FnOk Tryz.prog 10 87 c10 r10 := ⟨[40, 45, 17, 68], _, _, Tryz.func10, rfl, rfl, by kernel_rfl, by kernel_rfl, by kernel_rfl⟩
/-- (*vouch/vouchref18.Client).Copy -/
def c11 : C := (.seq (.reg [(rO 2 (.mv (.const (.pointer none))))])
 (.seq (.draw [⟨(rO 3 (.mv (.tmp 0))), .p⟩,
 ⟨(rO 4 (.nilc (.tmp 3))), .p⟩,
 ⟨(rO 5 (.fa 0 (.tmp 4))), .p⟩,
 ⟨(rO 6 (.ld (some 8) (.tmp 5))), .l⟩,
 ⟨(rO 7 (.lit 118 0 8 [] [])), .f⟩,
 ⟨(rO 8 (.mv (.tmp 0))), .p⟩,
 ⟨(rO 9 (.nilc (.tmp 8))), .p⟩,
 ⟨(rO 10 (.fa 8 (.tmp 9))), .p⟩,
 ⟨(rO 11 (.ld none (.tmp 10))), .l⟩,
 ⟨(rO 12 (.app 118 8 80 (.tmp 7) (.tmp 11))), .w⟩,
 ⟨(rO 13 (.lit 112 0 10 [] [])), .f⟩,
 ⟨(rO 14 (.mv (.tmp 0))), .p⟩,
 ⟨(rO 15 (.nilc (.tmp 14))), .p⟩,
 ⟨(rO 16 (.fa 9 (.tmp 15))), .p⟩,
 ⟨(rO 17 (.ld none (.tmp 16))), .l⟩,
 ⟨(rO 18 (.app 112 10 104 (.tmp 13) (.tmp 17))), .w⟩,
 ⟨(rO 19 (.lit 3 0 1 [] [])), .f⟩,
 ⟨(rO 20 (.mv (.tmp 0))), .p⟩,
 ⟨(rO 21 (.nilc (.tmp 20))), .p⟩,
 ⟨(rO 22 (.fa 10 (.tmp 21))), .p⟩,
 ⟨(rO 23 (.ld none (.tmp 22))), .l⟩,
 ⟨(rO 24 (.app 3 1 8 (.tmp 19) (.tmp 23))), .w⟩,
 ⟨(rO 25 (.bld [.int .i64 (0), .int .i64 (0), .int .i64 (0), .int .i64 (0), .int .i64 (0), .int .i64 (0), .int .i64 (0), .int .i64 (0), .slice none 0 0, .slice none 0 0, .slice none 0 0] [(0, 8, (.tmp 6)), (8, 1, (.tmp 12)), (9, 1, (.tmp 18)), (10, 1, (.tmp 24))])), .p⟩,
 ⟨(rO 26 (.box 71 (.tmp 25))), .f⟩,
 ⟨(rO 2 (.mv (.tmp 26))), .p⟩])
 .ret))
def r11 : List RV := [.tmp 2]
theorem ok11 : FnOk Tryz.prog 11 27 c11 r11 := ⟨[40, 45, 17, 68], _, _, Tryz.func11, rfl, rfl, by kernel_rfl, by kernel_rfl, by kernel_rfl⟩
structure SoFar (σ τ : Hp) (C D : CL) (g i : Nat) : Prop where
  g : D.g = g
  c : D.c = C.c
  ss : (D.ss.map fun s => (s.S, s.ws)) = (C.ss.take i).map fun s => (s.S, s.ws)
  ts : D.ts = []
  vt : D.vt = .slice none 0 0
  vh : D.vh = .slice none 0 0
  at_ : Cli σ τ D
theorem SoFar.len {σ τ : Hp} {C D : CL} {g i : Nat} (h : SoFar σ τ C D g i) (hi : i ≤ C.ss.length) : D.ss.length = i := by
  have := congrArg List.length h.ss
  simp only [List.length_map, List.length_take] at this
  omega
theorem SoFar.on {σ τ τ' : Hp} {C D : CL} {g i : Nat} {s : SR} (h : SoFar σ τ C D g i) (hs : C.ss[i]? = some s) (r : Round1 τ D s τ') : ∃ D', SoFar σ τ' C D' g (i + 1) := by
  obtain ⟨k, vs', v, m⟩ := r
  refine ⟨D.adds k vs' s.S v s.ws, h.g, h.c, ?_, h.ts, h.vt, h.vh, h.at_.on m⟩
  show ((D.ss ++ [_]).map _) = _
  have e := (List.getElem?_eq_some_iff.1 hs)
  rw [List.map_append, h.ss, List.take_succ_eq_append_getElem e.1, List.map_append, e.2]; rfl
set_option maxHeartbeats 2000000 in
theorem body10 {Q : Exit → Sl → Hp → Prop} {s : Sl} {σ τ : Hp} {C D : CL} {g i : Nat} {x : SR} (hC : CliAt σ C) (h : SoFar σ τ C D g i) (hx : C.ss[i]? = some x) (h8 : x.ws.length ≤ 8) (h64 : i < 64) (hi : i < C.ss.length)
    (s0 : s 0 = .pointer (some ⟨C.g, 0, none⟩)) (s3 : s 3 = .pointer (some ⟨g, 0, none⟩)) (s19 : s 19 = C.vs) (s20 : s 20 = .int .i64 C.ss.length) (s21 : s 21 = .int .i64 i)
    (hQ : ∀ s' τ', [0, 3, 19, 20, 21].map s' = [0, 3, 19, 20, 21].map s → Round1 τ D x τ' → Q .normal s' τ') : codeF Tryz.prog c10_b1 Q s τ ⟨⟩ := by
  have hlen := h.len (Nat.le_of_lt hi)
  have HQ := Hid.mk hQ
  have hvs := hC.vs
  rcases hvs with ⟨_, e2⟩ | ⟨bv, cv, e1, hcv, hbv⟩
  · have := congrArg List.length e2
    simp only [List.length_map, List.length_nil] at this
    omega
  have hbv0 : σ bv ≠ none := by rw [hbv]; simp
  have hbvt : τ bv = some (.row ((C.ss.map (·.g)).flatMap gC) (cv * 1) 92) := (h.at_.sub bv).elim (fun e => absurd e hbv0) fun e => by rw [← e]; exact hbv
  have hrd : rd τ bv (i * 1) = some (.pointer (some ⟨x.g, 0, none⟩)) := by
    rw [rd_at hbvt]
    have := get_flat gC_len (l := C.ss.map (·.g)) (i := i) (x := x.g) (by rw [List.getElem?_map, hx]; rfl) 0 (by omega)
    rw [Nat.add_zero] at this
    exact this
  have hnv : ∀ y, τ y = none → ¬ bv = y := fun y hy e => by rw [e, hy] at hbvt; cases hbvt
  have hxs := (hC.ses i x hx).1
  have hxτ : τ x.g = some (.cells (x.S.cells x.v) 130) := (h.at_.sub x.g).elim (fun e => by rw [hxs] at e; cases e) fun e => by rw [← e]; exact hxs
  have hxw := (hC.ses i x hx).2.subK h.at_.sub
  have q := clone28 hxτ hxw (by omega)
  have hcli := h.at_.at_.cli
  rw [h.g, h.vt, h.vh] at hcli
  have hne1 : ¬ bv = g := fun e => hbv0 (by rw [e]; exact h.at_.new _ (.inl h.g.symm))
  have hne2 : ∀ b, blk D.vs = some b → ¬ bv = b := fun b hb e => hbv0 (by rw [e]; exact h.at_.new _ (.inr (.inl hb)))
  have hd : decide ((i : Int) < (C.ss.length : Int)) = true := by simp; omega
  have HL := Hid.mk (And.intro h (And.intro hlen (And.intro hxw hx)))
  have hr := h.at_.at_.vs
  have hcliH := Hid.mk hcli
  have Hr := Hid.mk hr
  rw [e1, List.length_map] at s19
  have Hq := Hid.mk q
  clear hC h hQ hxs hxτ hxw hbv hbvt hbv0 hlen hx q e1 h8
  have fin : ∀ (s' : Sl) (σ1 σ' : Hp) (k : Nat) (vs' v : Value), [0, 3, 19, 20, 21].map s' = [0, 3, 19, 20, 21].map s → τ k = none → σ1 k = some (.cells (x.S.cells v) 130) → RowsAt 52 3 Wr.cells σ1 v x.ws → Same (fun _ => False) τ σ1 → New τ v →
      σ' g = some (.cells (CliC D.c vs' (.slice none 0 0) (.slice none 0 0)) 67) → RowsAt 92 1 gC σ' vs' (D.ss.map (·.g) ++ [k]) → Same (fun i => i = g ∨ blk D.vs = some i) σ1 σ' → (∀ i, blk vs' = some i → blk D.vs = some i ∨ σ1 i = none) → Q .normal s' σ' := by
    intro s' σ1 σ' k vs' v e a1 a2 a3 a4 a5 a6 a7 a8 a9
    obtain ⟨h, _⟩ := HL.out
    exact HQ.out s' σ' e (last1 h.at_.at_ a1 a2 a3 a4 a5 (by rw [h.g, h.vt, h.vh]; exact a6) a7 (by rw [h.g]; exact a8) a9)
  have HF := Hid.mk fin
  clear fin
  unfold CliC at hcli
  have hl : (D.ss.map (·.g)).length < 64 := by have := HL.out.2.1; rw [List.length_map]; omega
  generalize D.ss.map (·.g) = gs at *
  rcases hr with ⟨e, rfl⟩ | ⟨b, q, e, hq, hb⟩
  · rw [e] at hcli
    obtain ⟨τ1, rfl⟩ := open_upd hcli
    rw [rd_ne _ _ _ hne1] at hrd
    clear hcli
    unfold c10_b1
    (repeat' (first | (simp +contextual -dsimp only [*, CliC, ↓reduceIte, ↓evP, evQ, splice, Nat.reduceAdd, Nat.reduceEqDiff, Nat.reduceLeDiff, Nat.reduceMul, reduceCtorEq, Int.reduceLT, Int.reduceLE, Int.reduceGT, Int.reduceGE, Int.reduceEq, Int.reduceNeg]) | (refine condF_split (fun hc => ?_) (fun hc => ?_) <;> (try simp only [Bool.not_eq_true', Bool.not_eq_false', Bool.and_eq_true, Bool.or_eq_false_iff] at hc)) | (intro _; intros) | (refine And.intro ?_ ?_; focus (first | omega | ((repeat (first | exact Sub.refl _ | (refine Sub.drop ?_ ?_; focus (simp only [evN, *]; done)) | refine Sub.both ?_)); done) | (simp_all; done) | (simp_all; omega)))))
    refine gcallF_first Hq.out (fun u σ₁ h => ?_) ?_
    · obtain ⟨_, _, _, _, _, _, h, _⟩ := h; exact Same.sub h
    rintro u σ1 ⟨k, v, rfl, hk0, hk1, hk2, hk3, hk4⟩
    have HK := Hid.mk (And.intro hk0 (And.intro hk1 (And.intro hk2 (And.intro hk3 hk4))))
    have g1 := hk3.at (upd_same _ _ _) (fun x => x)
    obtain ⟨σ2, rfl⟩ := open_upd g1
    clear hk0 hk1 hk2 hk3 hk4 g1
    (repeat' (first | (simp +contextual -dsimp only [*, CliC, ↓reduceIte, ↓evP, evQ, splice, Nat.reduceAdd, Nat.reduceEqDiff, Nat.reduceLeDiff, Nat.reduceMul, reduceCtorEq, Int.reduceLT, Int.reduceLE, Int.reduceGT, Int.reduceGE, Int.reduceEq, Int.reduceNeg]) | (refine condF_split (fun hc => ?_) (fun hc => ?_) <;> (try simp only [Bool.not_eq_true', Bool.not_eq_false', Bool.and_eq_true, Bool.or_eq_false_iff] at hc)) | (intro _; intros) | (refine And.intro ?_ ?_; focus (first | omega | ((repeat (first | exact Sub.refl _ | (refine Sub.drop ?_ ?_; focus (simp only [evN, *]; done)) | refine Sub.both ?_)); done) | (simp_all; done) | (simp_all; omega)))))
    refine app_n (by first | (simp only [Nat.reduceMul, Nat.one_mul, Nat.zero_mul, rdn_row, rdn_same, rdn_ne, seg_zero, seg_cons, seg_skip, Option.map_some, not_false_eq_true, *]; done) | (simp only [Nat.reduceMul, Nat.one_mul, Nat.zero_mul, rdn_row, rdn_same, rdn_ne, seg_zero, seg_cons, seg_skip, Option.map_some, not_false_eq_true, *]; exact rfl)) rfl (by omega) (by omega) (by unfold maxLen; omega) ?_
    (repeat' (first | (simp +contextual -dsimp only [*, CliC, ↓reduceIte, ↓evP, evQ, splice, Nat.reduceAdd, Nat.reduceEqDiff, Nat.reduceLeDiff, Nat.reduceMul, reduceCtorEq, Int.reduceLT, Int.reduceLE, Int.reduceGT, Int.reduceGE, Int.reduceEq, Int.reduceNeg]) | (refine condF_split (fun hc => ?_) (fun hc => ?_) <;> (try simp only [Bool.not_eq_true', Bool.not_eq_false', Bool.and_eq_true, Bool.or_eq_false_iff] at hc)) | (intro _; intros) | (refine And.intro ?_ ?_; focus (first | omega | ((repeat (first | exact Sub.refl _ | (refine Sub.drop ?_ ?_; focus (simp only [evN, *]; done)) | refine Sub.both ?_)); done) | (simp_all; done) | (simp_all; omega)))))
    all_goals (have K := HK.out; have HF' := HF.out; rw [e] at HF'; refine HF' _ _ _ k (.slice (some ⟨_, 0, none⟩) 1 _) v (by simp only [List.map_cons, List.map_nil, ↓putO_get, ↓putO_no, init_zero, init_succ, Nat.reduceEqDiff, ↓reduceIte, *]) K.1 K.2.1 K.2.2.1 K.2.2.2.1 K.2.2.2.2 (by first | (simp only [upd_at, *, ↓reduceIte]; done) | (simp only [upd_at, *, ↓reduceIte]; rfl)) (rows_mk rfl (by assumption) (by first | (simp only [upd_at, *, ↓reduceIte]; done) | (simp only [upd_at, *, ↓reduceIte]; rfl))) (by repeat (first | exact Same.refl _ _ | (refine Same.updNew ?_ ?_; focus (simp only [evN, *]; done)) | (refine Same.both ?_ ?_; focus (first | exact rfl | exact .inl rfl | exact .inr rfl)) | (refine Same.updIn ?_ ?_; focus (first | exact rfl | exact .inl rfl | exact .inr rfl)) | refine Same.eq ?_)) ?_)
    all_goals (intro i hi; cases hi; first | exact .inl rfl | exact .inr (by simp only [evN, *]; done))
  · rw [e] at hcli hne2
    obtain ⟨τ1, rfl, e3, e4⟩ := open_two hcli hb (by simp)
    have hne2 := hne2 b rfl
    rw [rd_ne _ _ _ hne1, rd_ne _ _ _ hne2] at hrd
    clear hcli
    unfold c10_b1
    (repeat' (first | (simp +contextual -dsimp only [*, CliC, ↓reduceIte, ↓evP, evQ, splice, Nat.reduceAdd, Nat.reduceEqDiff, Nat.reduceLeDiff, Nat.reduceMul, reduceCtorEq, Int.reduceLT, Int.reduceLE, Int.reduceGT, Int.reduceGE, Int.reduceEq, Int.reduceNeg]) | (refine condF_split (fun hc => ?_) (fun hc => ?_) <;> (try simp only [Bool.not_eq_true', Bool.not_eq_false', Bool.and_eq_true, Bool.or_eq_false_iff] at hc)) | (intro _; intros) | (refine And.intro ?_ ?_; focus (first | omega | ((repeat (first | exact Sub.refl _ | (refine Sub.drop ?_ ?_; focus (simp only [evN, *]; done)) | refine Sub.both ?_)); done) | (simp_all; done) | (simp_all; omega)))))
    refine gcallF_first Hq.out (fun u σ₁ h => ?_) ?_
    · obtain ⟨_, _, _, _, _, _, h, _⟩ := h; exact Same.sub h
    rintro u σ1 ⟨k, v, rfl, hk0, hk1, hk2, hk3, hk4⟩
    have HK := Hid.mk (And.intro hk0 (And.intro hk1 (And.intro hk2 (And.intro hk3 hk4))))
    have g1 := hk3.at (upd_same _ _ _) (fun x => x)
    have g2 := hk3.at ((upd_ne _ _ e4).trans (upd_same _ _ _)) (fun x => x)
    obtain ⟨σ2, rfl, e5, e6⟩ := open_two g1 g2 (by simp)
    clear hk0 hk1 hk2 hk3 hk4 g1 g2
    (repeat' (first | (simp +contextual -dsimp only [*, CliC, ↓reduceIte, ↓evP, evQ, splice, Nat.reduceAdd, Nat.reduceEqDiff, Nat.reduceLeDiff, Nat.reduceMul, reduceCtorEq, Int.reduceLT, Int.reduceLE, Int.reduceGT, Int.reduceGE, Int.reduceEq, Int.reduceNeg]) | (refine condF_split (fun hc => ?_) (fun hc => ?_) <;> (try simp only [Bool.not_eq_true', Bool.not_eq_false', Bool.and_eq_true, Bool.or_eq_false_iff] at hc)) | (intro _; intros) | (refine And.intro ?_ ?_; focus (first | omega | ((repeat (first | exact Sub.refl _ | (refine Sub.drop ?_ ?_; focus (simp only [evN, *]; done)) | refine Sub.both ?_)); done) | (simp_all; done) | (simp_all; omega)))))
    refine app_b (by first | (simp only [Nat.reduceMul, Nat.one_mul, Nat.zero_mul, rdn_row, rdn_same, rdn_ne, seg_zero, seg_cons, seg_skip, Option.map_some, not_false_eq_true, *]; done) | (simp only [Nat.reduceMul, Nat.one_mul, Nat.zero_mul, rdn_row, rdn_same, rdn_ne, seg_zero, seg_cons, seg_skip, Option.map_some, not_false_eq_true, *]; exact rfl)) rfl (by simp only [upd_at, *, ↓reduceIte]) (flat_len gC_len _) (by omega) (by omega) (by unfold maxLen; omega) ?_ ?_
    all_goals rw [gs_snoc]
    all_goals (repeat' (first | (simp +contextual -dsimp only [*, CliC, ↓reduceIte, ↓evP, evQ, splice, Nat.reduceAdd, Nat.reduceEqDiff, Nat.reduceLeDiff, Nat.reduceMul, reduceCtorEq, Int.reduceLT, Int.reduceLE, Int.reduceGT, Int.reduceGE, Int.reduceEq, Int.reduceNeg]) | (refine condF_split (fun hc => ?_) (fun hc => ?_) <;> (try simp only [Bool.not_eq_true', Bool.not_eq_false', Bool.and_eq_true, Bool.or_eq_false_iff] at hc)) | (intro _; intros) | (refine And.intro ?_ ?_; focus (first | omega | ((repeat (first | exact Sub.refl _ | (refine Sub.drop ?_ ?_; focus (simp only [evN, *]; done)) | refine Sub.both ?_)); done) | (simp_all; done) | (simp_all; omega)))))
    all_goals (have K := HK.out; have HF' := HF.out; rw [e] at HF'; refine HF' _ _ _ k (.slice (some ⟨_, 0, none⟩) (gs.length + 1) _) v (by simp only [List.map_cons, List.map_nil, ↓putO_get, ↓putO_no, init_zero, init_succ, Nat.reduceEqDiff, ↓reduceIte, *]) K.1 K.2.1 K.2.2.1 K.2.2.2.1 K.2.2.2.2 (by first | (simp only [upd_at, *, ↓reduceIte]; done) | (simp only [upd_at, *, ↓reduceIte]; rfl)) (rows_mk (by simp) (by assumption) (by first | (simp only [upd_at, *, ↓reduceIte]; done) | (simp only [upd_at, *, ↓reduceIte]; rfl))) (by repeat (first | exact Same.refl _ _ | (refine Same.updNew ?_ ?_; focus (simp only [evN, *]; done)) | (refine Same.both ?_ ?_; focus (first | exact rfl | exact .inl rfl | exact .inr rfl)) | (refine Same.updIn ?_ ?_; focus (first | exact rfl | exact .inl rfl | exact .inr rfl)) | refine Same.eq ?_)) ?_)
    all_goals (intro i hi; cases hi; first | exact .inl rfl | exact .inr (by simp only [evN, *]; done))
/-- A clone whose homes are not laid yet. -/
structure MidAt (σ : Hp) (D : CL) : Prop where
  cli : σ D.g = some (.cells (CliC D.c D.vs D.vt (.slice none 0 0)) 67)
  vs : RowsAt 92 1 gC σ D.vs (D.ss.map (·.g))
  vt : RowsAt 96 2 rC σ D.vt (D.ts.map fun t => (t.g, t.h))
  vh : D.vh = .slice none 0 0
  ses : ∀ (i : Nat) s, D.ss[i]? = some s → σ s.g = some (.cells (s.S.cells s.v) 130) ∧ RowsAt 52 3 Wr.cells σ s.v s.ws
  tx : ∀ (i : Nat) t, D.ts[i]? = some t → TxAt 133 σ t.g t.T t.v
  home : ∀ (i : Nat) t, D.ts[i]? = some t → ∃ s, D.ss[t.k]? = some s ∧ s.g = t.h
  dS : ∀ (i j : Nat) s s', D.ss[i]? = some s → D.ss[j]? = some s' → s.g = s'.g → i = j
  dT : ∀ (i j : Nat) t t', D.ts[i]? = some t → D.ts[j]? = some t' → t.g = t'.g → i = j
  dR : ∀ (i j : Nat) t t' k, D.ts[i]? = some t → D.ts[j]? = some t' → blk t.v = some k → blk t'.v = some k → i = j
theorem MidAt.of {σ : Hp} {D : CL} (h : CliAt σ D) (hv : D.vh = .slice none 0 0) : MidAt σ D :=
  ⟨by rw [← hv]; exact h.cli, h.vs, h.vt, hv, h.ses, h.tx, h.home, h.dS, h.dT, h.dR⟩
theorem MidAt.done {τ σ' : Hp} {D : CL} {vh' : Value} (h : MidAt τ D) (hg : σ' D.g = some (.cells (CliC D.c D.vs D.vt vh') 67)) (hr : RowsAt 3 1 iC σ' vh' (D.ts.map fun t => (t.k : Int))) (hs : Same (fun i => i = D.g) τ σ') : CliAt σ' { D with vh := vh' } := by
  refine ⟨hg, ?_, ?_, hr, ?_, ?_, h.home, h.dS, h.dT, h.dR⟩
  · exact h.vs.sameF hs fun i hi e => h.vs.notCells h.cli (by rw [hi, e])
  · exact h.vt.sameF hs fun i hi e => h.vt.notCells h.cli (by rw [hi, e])
  · intro j x hx
    obtain ⟨a, b⟩ := h.ses j x hx
    exact ⟨by rw [hs _ (by rw [a]; simp) (cells_ne a h.cli (by decide))]; exact a, b.sameF hs fun i hi e => b.notCells h.cli (by rw [hi, e])⟩
  · intro j t ht
    have a := h.tx j t ht
    exact a.keepF hs (cells_ne a.1 h.cli (by decide)) fun i hi e => a.2.notCells h.cli (by rw [hi, e])
/-- One transaction more. -/
def CL.addt (D : CL) (vt' : Value) (t : TR) : CL := { D with vt := vt', ts := D.ts ++ [t] }
theorem addt_mid {τ σ' : Hp} {D : CL} {vt' : Value} {t : TR} (h : MidAt τ D) (hk : τ t.g = none) (hg : σ' D.g = some (.cells (CliC D.c D.vs vt' (.slice none 0 0)) 67)) (hr : RowsAt 96 2 rC σ' vt' ((D.ts.map fun t => (t.g, t.h)) ++ [(t.g, t.h)]))
    (hT : TxAt 133 σ' t.g t.T t.v) (hnv : New τ t.v) (hh : ∃ s, D.ss[t.k]? = some s ∧ s.g = t.h) (hs : Same (fun i => i = D.g ∨ blk D.vt = some i) τ σ') : MidAt σ' (D.addt vt' t) := by
  refine ⟨hg, ?_, ?_, h.vh, ?_, ?_, ?_, h.dS, ?_, ?_⟩
  · exact h.vs.sameF hs fun i hi e => e.elim (fun e => h.vs.notCells h.cli (by rw [hi, e])) (h.vs.apart h.vt (by decide) hi)
  · show RowsAt _ _ _ _ _ ((D.ts ++ [_]).map _)
    rw [List.map_append]; exact hr
  · intro j x hx
    obtain ⟨a, b⟩ := h.ses j x hx
    exact ⟨by rw [hs _ (by rw [a]; simp) (fun e => e.elim (cells_ne a h.cli (by decide)) (h.vt.notCells a))]; exact a,
      b.sameF hs fun i hi e => e.elim (fun e => b.notCells h.cli (by rw [hi, e])) (b.apart h.vt (by decide) hi)⟩
  · intro j x hx
    rcases snoc_get hx with ⟨rfl, rfl⟩ | ⟨_, hx⟩
    · exact hT
    · have a := h.tx j x hx
      exact a.keepF hs (fun e => e.elim (cells_ne a.1 h.cli (by decide)) (h.vt.notCells a.1)) fun i hi e => e.elim (fun e => a.2.notCells h.cli (by rw [hi, e])) (a.2.apart h.vt (by decide) hi)
  · intro j x hx
    rcases snoc_get hx with ⟨rfl, rfl⟩ | ⟨_, hx⟩
    · exact hh
    · exact h.home j x hx
  · intro a b x y hx hy e
    rcases snoc_get hx with ⟨ea, rfl⟩ | ⟨_, hx'⟩ <;> rcases snoc_get hy with ⟨eb, rfl⟩ | ⟨_, hy'⟩
    · rw [ea, eb]
    · exfalso; have := (h.tx b y hy').1; rw [← e, hk] at this; cases this
    · exfalso; have := (h.tx a x hx').1; rw [e, hk] at this; cases this
    · exact h.dT a b x y hx' hy' e
  · intro a b x y k hx hy e1 e2
    rcases snoc_get hx with ⟨ea, rfl⟩ | ⟨_, hx'⟩ <;> rcases snoc_get hy with ⟨eb, rfl⟩ | ⟨_, hy'⟩
    · rw [ea, eb]
    · exact absurd (hnv k e1) ((h.tx b y hy').2.known e2)
    · exact absurd (hnv k e2) ((h.tx a x hx').2.known e1)
    · exact h.dR a b x y k hx' hy' e1 e2
theorem addt_own {τ : Hp} {D : CL} {vt' : Value} {t : TR} (hk : τ t.g = none) (hnv : New τ t.v) (hv : ∀ i, blk vt' = some i → blk D.vt = some i ∨ τ i = none) {k : Nat} (h : (D.addt vt' t).own k) : D.own k ∨ τ k = none := by
  rcases h with e | e | e | e | e | ⟨x, hx, e⟩
  · exact .inl (.inl e)
  · exact .inl (.inr (.inl e))
  · exact (hv k e).imp (fun e => .inr (.inr (.inl e))) id
  · exact .inl (.inr (.inr (.inr (.inl e))))
  · exact .inl (.inr (.inr (.inr (.inr (.inl e)))))
  · rcases List.mem_append.1 hx with hx | hx
    · exact .inl (.inr (.inr (.inr (.inr (.inr ⟨x, hx, e⟩)))))
    · obtain rfl := List.mem_singleton.1 hx
      rcases e with e | e
      · exact .inr (by rw [e]; exact hk)
      · exact .inr (hnv k e)
structure SoFar2 (σ τ : Hp) (C D : CL) (g i : Nat) : Prop where
  g : D.g = g
  c : D.c = C.c
  ss : (D.ss.map fun s => (s.S, s.ws)) = C.ss.map fun s => (s.S, s.ws)
  ts : (D.ts.map fun t => (t.T, t.k)) = (C.ts.take i).map fun t => (t.T, t.k)
  at_ : MidAt τ D
  sub : Sub σ τ
  new : ∀ k, D.own k → σ k = none
theorem SoFar2.of {σ τ : Hp} {C D : CL} {g : Nat} (h : SoFar σ τ C D g C.ss.length) : SoFar2 σ τ C D g 0 :=
  ⟨h.g, h.c, by rw [h.ss, List.take_length], by rw [h.ts]; rfl, .of h.at_.at_ h.vh, h.at_.sub, h.at_.new⟩
theorem SoFar2.lenS {σ τ : Hp} {C D : CL} {g i : Nat} (h : SoFar2 σ τ C D g i) : D.ss.length = C.ss.length := by
  have := congrArg List.length h.ss
  simpa using this
theorem SoFar2.len {σ τ : Hp} {C D : CL} {g i : Nat} (h : SoFar2 σ τ C D g i) (hi : i ≤ C.ts.length) : D.ts.length = i := by
  have := congrArg List.length h.ts
  simp only [List.length_map, List.length_take] at this
  omega
theorem SoFar2.on {σ τ σ' : Hp} {C D : CL} {g i k : Nat} {t : TR} {s : SR} {vt' v : Value} (h : SoFar2 σ τ C D g i) (ht : C.ts[i]? = some t) (hd : D.ss[t.k]? = some s) (hk : τ k = none) (hg : σ' g = some (.cells (CliC D.c D.vs vt' (.slice none 0 0)) 67))
    (hr : RowsAt 96 2 rC σ' vt' ((D.ts.map fun t => (t.g, t.h)) ++ [(k, s.g)])) (hT : TxAt 133 σ' k t.T v) (hnv : New τ v) (hs : Same (fun i => i = g ∨ blk D.vt = some i) τ σ') (hv : ∀ i, blk vt' = some i → blk D.vt = some i ∨ τ i = none) : SoFar2 σ σ' C (D.addt vt' ⟨k, t.T, v, t.k, s.g⟩) g (i + 1) := by
  have hgg := h.g
  subst hgg
  have e := (List.getElem?_eq_some_iff.1 ht)
  refine ⟨rfl, h.c, h.ss, ?_, addt_mid h.at_ hk hg hr hT hnv ⟨s, hd, rfl⟩ hs, h.sub.same hs fun i hi => hi.elim (fun e => h.new i (.inl e)) fun e => h.new i (.inr (.inr (.inl e))), fun i hi => (addt_own hk hnv hv hi).elim (h.new i) fun e => h.sub.noneAt e⟩
  show ((D.ts ++ [_]).map _) = _
  rw [List.map_append, h.ts, List.take_succ_eq_append_getElem e.1, List.map_append, e.2]; rfl
theorem SoFar2.on1 {σ τ τ1 σ1 σ' : Hp} {C D : CL} {g i k : Nat} {t : TR} {s : SR} {vt' v : Value} (h : SoFar2 σ τ C D g i) (ht : C.ts[i]? = some t) (hd : D.ss[t.k]? = some s) (h1 : Sub τ τ1) (hk1 : τ1 k = none) (hT : TxAt 133 σ1 k t.T v) (hM : Made τ1 σ1 v) (hg : σ' g = some (.cells (CliC D.c D.vs vt' (.slice none 0 0)) 67))
    (hr : RowsAt 96 2 rC σ' vt' ((D.ts.map fun t => (t.g, t.h)) ++ [(k, s.g)])) (hs : Same (fun i => i = g ∨ blk D.vt = some i) σ1 σ') (hv : ∀ i, blk vt' = some i → blk D.vt = some i ∨ σ1 i = none) : SoFar2 σ σ' C (D.addt vt' ⟨k, t.T, v, t.k, s.g⟩) g (i + 1) := by
  have hk : τ k = none := h1.noneAt hk1
  have hnv : New τ v := fun j e => h1.noneAt (hM.2 j e)
  have hsub : Sub τ σ1 := h1.trans hM.sub
  have h3 : Same (fun _ => False) τ σ1 := fun j hj _ => (hsub j).elim (fun e => absurd e hj) fun e => e.symm
  have hcli := h.at_.cli
  rw [h.g] at hcli
  refine h.on ht hd hk hg hr (hT.keepF hs ?_ ?_) hnv (fun j hj hf => by rw [hs j (by rw [h3 j hj (fun x => x)]; exact hj) hf, h3 j hj (fun x => x)]) fun j hj => (hv j hj).imp id fun e => hsub.noneAt e
  · rintro (e | e)
    · rw [e, hcli] at hk; cases hk
    · exact h.at_.vt.known e hk
  · rintro j hj (e | e)
    · have := hnv j hj
      rw [e, hcli] at this; cases this
    · exact h.at_.vt.known e (hnv j hj)
/-- An element of a row. -/
theorem row_elem {α : Type} {E sz : Nat} {f : α → List Value} {σ : Hp} {v : Value} {l : List α} {i : Nat} {x : α} (hf : ∀ x, (f x).length = sz) (h : RowsAt E sz f σ v l) (hx : l[i]? = some x) :
    ∃ b c, v = .slice (some ⟨b, 0, none⟩) l.length c ∧ (∀ j, j < sz → rd σ b (i * sz + j) = (f x)[j]?) ∧ σ b ≠ none ∧ rdn σ b (i * sz) sz = some (f x) := by
  rcases h with ⟨_, e2⟩ | ⟨b, c, e1, hc, hb⟩
  · rw [e2] at hx; cases hx
  · refine ⟨b, c, e1, fun j hj => ?_, by rw [hb]; simp, ?_⟩
    · rw [rd_at hb]; exact get_flat hf hx j hj
    · rw [rdn_at hb]
      have e := seg_flat hf hx 0 sz (by omega)
      rw [Nat.add_zero] at e
      rw [e, ← hf x]; exact seg_all _
set_option maxHeartbeats 2000000 in
theorem body12 {Q : Exit → Sl → Hp → Prop} {s : Sl} {σ τ : Hp} {C D : CL} {g i : Nat} {t : TR} (hC : CliAt σ C) (h : SoFar2 σ τ C D g i) (hx : C.ts[i]? = some t) (hn : t.T.reads.length * 40 ≤ 140737488355328) (h256 : i < 256)
    (s0 : s 0 = .pointer (some ⟨C.g, 0, none⟩)) (s3 : s 3 = .pointer (some ⟨g, 0, none⟩)) (s40 : s 40 = C.vt) (s41 : s 41 = .int .i64 C.ts.length) (s42 : s 42 = .int .i64 i)
    (hQ : ∀ s' τ' D', [0, 3, 40, 41, 42].map s' = [0, 3, 40, 41, 42].map s → SoFar2 σ τ' C D' g (i + 1) → Q .normal s' τ') : codeF Tryz.prog c10_b3 Q s τ ⟨⟩ := by
  have hi : i < C.ts.length := (List.getElem?_eq_some_iff.1 hx).1
  have up : ∀ b, σ b ≠ none → τ b = σ b := fun b e => (h.sub b).elim (fun x => absurd x e) Eq.symm
  have up2 : ∀ b off, σ b ≠ none → rd τ b off = rd σ b off := fun b off e => by unfold rd; rw [up b e]
  obtain ⟨bt, ct, e1, r1, k1, r4⟩ := row_elem (f := rC) (fun _ => rfl) hC.vt (x := (t.g, t.h)) (i := i) (by rw [List.getElem?_map, hx]; rfl)
  obtain ⟨bh, ch, e2, r2, k2, _⟩ := row_elem (f := iC) (fun _ => rfl) hC.vh (x := (t.k : Int)) (i := i) (by rw [List.getElem?_map, hx]; rfl)
  obtain ⟨so, hso, _⟩ := hC.home i t hx
  have hlt : t.k < D.ss.length := by rw [h.lenS]; exact (List.getElem?_eq_some_iff.1 hso).1
  obtain ⟨sd, hsd⟩ : ∃ x, D.ss[t.k]? = some x := ⟨_, List.getElem?_eq_getElem hlt⟩
  obtain ⟨bs, cs, e3, r3, k3, _⟩ := row_elem (f := gC) (fun _ => rfl) h.at_.vs (x := sd.g) (i := t.k) (by rw [List.getElem?_map, hsd]; rfl)
  rw [List.length_map] at e1 e2 e3
  have hcli := h.at_.cli
  rw [h.g] at hcli
  have p1 : rdn τ bt (i * 2) 2 = some [.pointer (some ⟨t.g, 0, none⟩), .pointer (some ⟨t.h, 0, none⟩)] := (show rdn τ bt (i * 2) 2 = rdn σ bt (i * 2) 2 by unfold rdn; rw [up bt k1]).trans r4
  have p3 : rd τ bh (i * 1) = some (.int .i64 t.k) := (up2 bh _ k2).trans (r2 0 (by decide))
  have p4 : rd τ bs (t.k * 1) = some (.pointer (some ⟨sd.g, 0, none⟩)) := r3 0 (by decide)
  have kC : σ C.g ≠ none := by rw [hC.cli]; simp
  have p5 : rd τ C.g 10 = some C.vh := by rw [up2 _ _ kC]; unfold rd; rw [hC.cli]; rfl
  have p6 : rd τ g 8 = some D.vs := by unfold rd; rw [hcli]; rfl
  have p7 : rd τ g 9 = some D.vt := by unfold rd; rw [hcli]; rfl
  rw [e2] at p5
  rw [e3] at p6
  rw [e1] at s40
  have n1 : ∀ y, τ y = none → ¬ bt = y := fun y hy e => k1 (by rw [← up bt k1, e]; exact hy)
  have n2 : ∀ y, τ y = none → ¬ bh = y := fun y hy e => k2 (by rw [← up bh k2, e]; exact hy)
  have n3 : ∀ y, τ y = none → ¬ bs = y := fun y hy e => k3 (by rw [e]; exact hy)
  have n4 : ∀ y, τ y = none → ¬ C.g = y := fun y hy e => kC (by rw [← up _ kC, e]; exact hy)
  have n5 : ∀ y, τ y = none → ¬ g = y := fun y hy e => by rw [e, hy] at hcli; cases hcli
  have HL := Hid.mk (And.intro h (And.intro hQ (And.intro hcli (And.intro hsd hx))))
  have hT := (hC.tx i t hx)
  have Hq := Hid.mk (fun (τ' : Hp) (e : Sub τ τ') => clone67 (g := t.g) (T := t.T) (v := t.v) (σ := τ') (hT.keepF (F := fun _ => False) (fun k hk _ => ((h.sub.trans e) k).elim (fun e => absurd e hk) fun e => e.symm) (fun x => x) (fun _ _ x => x)) hn)
  have hkk : decide ((t.k : Int) < (D.ss.length : Int)) = true := by simp; omega
  have hii : decide ((i : Int) < (C.ts.length : Int)) = true := by simp; omega
  clear hT h hQ hcli hsd hx up up2 hC hso r1 r2 r3 r4 k1 k2 k3 kC
  unfold c10_b3
  (repeat' (first | (simp +contextual -dsimp only [*, CliC, ↓reduceIte, ↓evP, evQ, splice, Nat.reduceAdd, Nat.reduceEqDiff, Nat.reduceLeDiff, Nat.reduceMul, reduceCtorEq, Int.reduceLT, Int.reduceLE, Int.reduceGT, Int.reduceGE, Int.reduceEq, Int.reduceNeg]) | (refine condF_split (fun hc => ?_) (fun hc => ?_) <;> (try simp only [Bool.not_eq_true', Bool.not_eq_false', Bool.and_eq_true, Bool.or_eq_false_iff] at hc)) | (intro _; intros) | (refine And.intro ?_ ?_; focus (first | omega | ((repeat (first | exact Sub.refl _ | (refine Sub.drop ?_ ?_; focus (simp only [evN, *]; done)) | refine Sub.both ?_)); done) | (simp_all; done) | (simp_all; omega)))))
  rename_i b b0
  refine gcallF_first (Hq.out _ (by (repeat (first | exact Sub.refl _ | (refine Sub.drop ?_ ?_; focus (simp only [evN, *]; done)) | refine Sub.both ?_)); done)) (fun u σ₁ h => ?_) ?_
  · obtain ⟨_, _, _, _, h, _⟩ := h; exact h.sub
  rintro u σ1 ⟨k, v, rfl, hT, hM, hk⟩
  have hns := Sub.drop b0 (Sub.refl τ) (o := .cells [.pointer (some ⟨t.g, 0, none⟩), .pointer (some ⟨t.h, 0, none⟩)] 96)
  have hsub : Sub τ σ1 := hns.trans hM.sub
  have g1 : σ1 g = some (.cells (CliC D.c D.vs D.vt (.slice none 0 0)) 67) := (hsub g).elim (fun e => by rw [HL.out.2.2.1] at e; cases e) fun e => by rw [← e]; exact HL.out.2.2.1
  have hvt : RowsAt 96 2 rC σ1 D.vt (D.ts.map fun t => (t.g, t.h)) := HL.out.1.at_.vt.subK hsub
  have hl : (D.ts.map fun t => (t.g, t.h)).length < 256 := by rw [List.length_map, HL.out.1.len (by omega)]; exact h256
  have fin : ∀ (s' : Sl) (σ' : Hp) (vt' : Value), [0, 3, 40, 41, 42].map s' = [0, 3, 40, 41, 42].map s → σ' g = some (.cells (CliC D.c D.vs vt' (.slice none 0 0)) 67) → RowsAt 96 2 rC σ' vt' ((D.ts.map fun t => (t.g, t.h)) ++ [(k, sd.g)]) → Same (fun i => i = g ∨ blk D.vt = some i) σ1 σ' →
      (∀ i, blk vt' = some i → blk D.vt = some i ∨ σ1 i = none) → Q .normal s' σ' :=
    fun s' σ' vt' a1 a2 a3 a4 a5 => HL.out.2.1 s' σ' _ a1 (HL.out.1.on1 HL.out.2.2.2.2 HL.out.2.2.2.1 hns hk hT hM a2 a3 a4 a5)
  have HF := Hid.mk fin
  clear fin hsub hns hT hM hk HL Hq e1 e2 e3
  generalize (D.ts.map fun t => (t.g, t.h)) = gs at *
  unfold CliC at g1
  rcases hvt with ⟨e, rfl⟩ | ⟨c, q, e, hq, hb⟩
  · rw [e] at g1 p7
    obtain ⟨σ2, rfl⟩ := open_upd g1
    clear g1
    (repeat' (first | (simp +contextual -dsimp only [*, CliC, ↓reduceIte, ↓evP, evQ, splice, Nat.reduceAdd, Nat.reduceEqDiff, Nat.reduceLeDiff, Nat.reduceMul, reduceCtorEq, Int.reduceLT, Int.reduceLE, Int.reduceGT, Int.reduceGE, Int.reduceEq, Int.reduceNeg]) | (refine condF_split (fun hc => ?_) (fun hc => ?_) <;> (try simp only [Bool.not_eq_true', Bool.not_eq_false', Bool.and_eq_true, Bool.or_eq_false_iff] at hc)) | (intro _; intros) | (refine And.intro ?_ ?_; focus (first | omega | ((repeat (first | exact Sub.refl _ | (refine Sub.drop ?_ ?_; focus (simp only [evN, *]; done)) | refine Sub.both ?_)); done) | (simp_all; done) | (simp_all; omega)))))
    refine app_n (by first | (simp only [Nat.reduceMul, Nat.one_mul, Nat.zero_mul, rdn_row, rdn_same, rdn_ne, seg_zero, seg_cons, seg_skip, Option.map_some, not_false_eq_true, *]; done) | (simp only [Nat.reduceMul, Nat.one_mul, Nat.zero_mul, rdn_row, rdn_same, rdn_ne, seg_zero, seg_cons, seg_skip, Option.map_some, not_false_eq_true, *]; exact rfl)) rfl (by omega) (by omega) (by unfold maxLen; omega) ?_
    (repeat' (first | (simp +contextual -dsimp only [*, CliC, ↓reduceIte, ↓evP, evQ, splice, Nat.reduceAdd, Nat.reduceEqDiff, Nat.reduceLeDiff, Nat.reduceMul, reduceCtorEq, Int.reduceLT, Int.reduceLE, Int.reduceGT, Int.reduceGE, Int.reduceEq, Int.reduceNeg]) | (refine condF_split (fun hc => ?_) (fun hc => ?_) <;> (try simp only [Bool.not_eq_true', Bool.not_eq_false', Bool.and_eq_true, Bool.or_eq_false_iff] at hc)) | (intro _; intros) | (refine And.intro ?_ ?_; focus (first | omega | ((repeat (first | exact Sub.refl _ | (refine Sub.drop ?_ ?_; focus (simp only [evN, *]; done)) | refine Sub.both ?_)); done) | (simp_all; done) | (simp_all; omega)))))
    all_goals (have HF' := HF.out; rw [e] at HF'; refine HF' _ _ (.slice (some ⟨_, 0, none⟩) 1 _) (by simp only [List.map_cons, List.map_nil, ↓putO_get, ↓putO_no, init_zero, init_succ, Nat.reduceEqDiff, ↓reduceIte, *]) (by first | (simp only [upd_at, *, ↓reduceIte]; done) | (simp only [upd_at, *, ↓reduceIte]; rfl)) (rows_mk rfl (by assumption) (by first | (simp only [upd_at, *, ↓reduceIte]; done) | (simp only [upd_at, *, ↓reduceIte]; rfl))) (by repeat (first | exact Same.refl _ _ | (refine Same.updNew ?_ ?_; focus (simp only [evN, *]; done)) | (refine Same.both ?_ ?_; focus (first | exact rfl | exact .inl rfl | exact .inr rfl)) | (refine Same.updIn ?_ ?_; focus (first | exact rfl | exact .inl rfl | exact .inr rfl)) | refine Same.eq ?_)) ?_)
    all_goals (intro i hi; cases hi; first | exact .inl rfl | exact .inr (by simp only [evN, *]; done))
  · rw [e] at g1 p7
    obtain ⟨σ2, rfl, e5, e6⟩ := open_two g1 hb (by simp)
    clear g1 hb
    (repeat' (first | (simp +contextual -dsimp only [*, CliC, ↓reduceIte, ↓evP, evQ, splice, Nat.reduceAdd, Nat.reduceEqDiff, Nat.reduceLeDiff, Nat.reduceMul, reduceCtorEq, Int.reduceLT, Int.reduceLE, Int.reduceGT, Int.reduceGE, Int.reduceEq, Int.reduceNeg]) | (refine condF_split (fun hc => ?_) (fun hc => ?_) <;> (try simp only [Bool.not_eq_true', Bool.not_eq_false', Bool.and_eq_true, Bool.or_eq_false_iff] at hc)) | (intro _; intros) | (refine And.intro ?_ ?_; focus (first | omega | ((repeat (first | exact Sub.refl _ | (refine Sub.drop ?_ ?_; focus (simp only [evN, *]; done)) | refine Sub.both ?_)); done) | (simp_all; done) | (simp_all; omega)))))
    refine app_b (by first | (simp only [Nat.reduceMul, Nat.one_mul, Nat.zero_mul, rdn_row, rdn_same, rdn_ne, seg_zero, seg_cons, seg_skip, Option.map_some, not_false_eq_true, *]; done) | (simp only [Nat.reduceMul, Nat.one_mul, Nat.zero_mul, rdn_row, rdn_same, rdn_ne, seg_zero, seg_cons, seg_skip, Option.map_some, not_false_eq_true, *]; exact rfl)) rfl (by simp only [upd_at, *, ↓reduceIte]) (flat_len rC_len _) (by omega) (by omega) (by unfold maxLen; omega) ?_ ?_
    all_goals rw [ts_snoc]
    all_goals (repeat' (first | (simp +contextual -dsimp only [*, CliC, ↓reduceIte, ↓evP, evQ, splice, Nat.reduceAdd, Nat.reduceEqDiff, Nat.reduceLeDiff, Nat.reduceMul, reduceCtorEq, Int.reduceLT, Int.reduceLE, Int.reduceGT, Int.reduceGE, Int.reduceEq, Int.reduceNeg]) | (refine condF_split (fun hc => ?_) (fun hc => ?_) <;> (try simp only [Bool.not_eq_true', Bool.not_eq_false', Bool.and_eq_true, Bool.or_eq_false_iff] at hc)) | (intro _; intros) | (refine And.intro ?_ ?_; focus (first | omega | ((repeat (first | exact Sub.refl _ | (refine Sub.drop ?_ ?_; focus (simp only [evN, *]; done)) | refine Sub.both ?_)); done) | (simp_all; done) | (simp_all; omega)))))
    all_goals (have HF' := HF.out; rw [e] at HF'; refine HF' _ _ (.slice (some ⟨_, 0, none⟩) (gs.length + 1) _) (by simp only [List.map_cons, List.map_nil, ↓putO_get, ↓putO_no, init_zero, init_succ, Nat.reduceEqDiff, ↓reduceIte, *]) (by first | (simp only [upd_at, *, ↓reduceIte]; done) | (simp only [upd_at, *, ↓reduceIte]; rfl)) (rows_mk (by simp) (by assumption) (by first | (simp only [upd_at, *, ↓reduceIte]; done) | (simp only [upd_at, *, ↓reduceIte]; rfl))) (by repeat (first | exact Same.refl _ _ | (refine Same.updNew ?_ ?_; focus (simp only [evN, *]; done)) | (refine Same.both ?_ ?_; focus (first | exact rfl | exact .inl rfl | exact .inr rfl)) | (refine Same.updIn ?_ ?_; focus (first | exact rfl | exact .inl rfl | exact .inr rfl)) | refine Same.eq ?_)) ?_)
    all_goals (intro i hi; cases hi; first | exact .inl rfl | exact .inr (by simp only [evN, *]; done))
theorem ic_one (l : List Int) : (l.flatMap iC).all one = true := by
  induction l with
  | nil => rfl
  | cons a l ih => rw [List.flatMap_cons, List.all_append, ih]; rfl
structure CloneOf (C D : CL) : Prop where
  c : D.c = C.c
  ss : (D.ss.map fun s => (s.S, s.ws)) = C.ss.map fun s => (s.S, s.ws)
  ts : (D.ts.map fun t => (t.T, t.k)) = C.ts.map fun t => (t.T, t.k)
theorem SoFar.zero {σ : Hp} {C : CL} {b : Nat} (hb : σ b = none) : SoFar σ (upd σ b (.cells (CliC C.c (.slice none 0 0) (.slice none 0 0) (.slice none 0 0)) 67)) C ⟨b, C.c, .slice none 0 0, .slice none 0 0, .slice none 0 0, [], []⟩ b 0 :=
  ⟨rfl, rfl, rfl, rfl, rfl, rfl, ⟨upd_same _ _ _, .inl ⟨rfl, rfl⟩, .inl ⟨rfl, rfl⟩, .inl ⟨rfl, rfl⟩, fun i s h => by simp at h, fun i s h => by simp at h, fun i s h => by simp at h, fun i j s s' h => by simp at h, fun i j s s' h => by simp at h, fun i j s s' k h => by simp at h⟩,
    Sub.drop hb (Sub.refl _), fun k hk => by rw [newOwn hk]; exact hb⟩
set_option maxHeartbeats 4000000 in
set_option maxRecDepth 100000 in
theorem clone10 {σ : Hp} {C : CL} (hC : CliAt σ C) (hS : C.ss.length ≤ 64) (hT : C.ts.length ≤ 256) (hw : ∀ (i : Nat) x, C.ss[i]? = some x → x.ws.length ≤ 8) (hr : ∀ (i : Nat) t, C.ts[i]? = some t → t.T.reads.length * 40 ≤ 140737488355328) :
    ACalls Tryz.prog 10 #[.pointer (some ⟨C.g, 0, none⟩)] σ fun u σ' => ∃ D, u = .pointer (some ⟨D.g, 0, none⟩) ∧ Cli σ σ' D ∧ CloneOf C D := by
  have H := Hid.mk (And.intro hC (And.intro hw hr))
  have kC : σ C.g ≠ none := by rw [hC.cli]; simp
  have hcl := hC.cli
  obtain ⟨a1, c1, e1⟩ := hC.vs.slice
  obtain ⟨a2, c2, e2⟩ := hC.vt.slice
  obtain ⟨a3, c3, e3⟩ := hC.vh.slice
  rw [List.length_map] at e1 e2 e3
  have n1 : ∀ y, σ y = none → ¬ C.g = y := fun y hy e => kC (by rw [e]; exact hy)
  have p0 : rdn σ C.g 0 8 = some C.c.cells := by unfold rdn; rw [hcl]; rfl
  have p1 : rd σ C.g 8 = some (.slice a1 C.ss.length c1) := by rw [← e1]; unfold rd; rw [hcl]; rfl
  have E := Hid.mk (And.intro e1 (And.intro e2 e3))
  clear hC hw hr e1 e2 e3 hcl
  unfold Cfg.cells at p0
  (refine acalls_F ok10 (by simp) ?_; unfold c10 r10)
  (repeat' (first | (simp +contextual -dsimp only [*, CliC, Cfg.cells, ↓reduceIte, ↓evP, evQ, splice, Nat.reduceAdd, Nat.reduceEqDiff, Nat.reduceLeDiff, Nat.reduceMul, reduceCtorEq, Int.reduceLT, Int.reduceLE, Int.reduceGT, Int.reduceGE, Int.reduceEq, Int.reduceNeg]) | (refine condF_split (fun hc => ?_) (fun hc => ?_) <;> (try simp only [Bool.not_eq_true', Bool.not_eq_false', Bool.and_eq_true, Bool.or_eq_false_iff] at hc)) | (intro _; intros) | (refine And.intro ?_ ?_; focus (first | omega | ((repeat (first | exact Sub.refl _ | (refine Sub.drop ?_ ?_; focus (simp only [evN, *]; done)) | refine Sub.both ?_)); done) | (simp_all; done) | (simp_all; omega)))))
  rename_i b b0
  refine loopF_of (fun k s σ' => ∃ (i : Nat) (D : CL), i ≤ C.ss.length ∧ k = C.ss.length - i ∧ s 0 = .pointer (some ⟨C.g, 0, none⟩) ∧ s 3 = .pointer (some ⟨b, 0, none⟩) ∧ s 19 = C.vs ∧ s 20 = .int .i64 C.ss.length ∧ s 21 = .int .i64 i ∧ SoFar σ σ' C D b i) C.ss.length (Sub.refl _)
    ⟨0, _, by omega, rfl, (by first | rfl | (simp only [↓putO_get, ↓putO_no, init_zero, init_succ, Nat.reduceEqDiff, ↓reduceIte, *]; done) | (simp only [↓putO_get, ↓putO_no, init_zero, init_succ, Nat.reduceEqDiff, ↓reduceIte, *]; rfl)), (by first | rfl | (simp only [↓putO_get, ↓putO_no, init_zero, init_succ, Nat.reduceEqDiff, ↓reduceIte, *]; done) | (simp only [↓putO_get, ↓putO_no, init_zero, init_succ, Nat.reduceEqDiff, ↓reduceIte, *]; rfl)), by rw [E.out.1]; exact (by first | rfl | (simp only [↓putO_get, ↓putO_no, init_zero, init_succ, Nat.reduceEqDiff, ↓reduceIte, *]; done) | (simp only [↓putO_get, ↓putO_no, init_zero, init_succ, Nat.reduceEqDiff, ↓reduceIte, *]; rfl)), (by first | rfl | (simp only [↓putO_get, ↓putO_no, init_zero, init_succ, Nat.reduceEqDiff, ↓reduceIte, *]; done) | (simp only [↓putO_get, ↓putO_no, init_zero, init_succ, Nat.reduceEqDiff, ↓reduceIte, *]; rfl)), (by first | rfl | (simp only [↓putO_get, ↓putO_no, init_zero, init_succ, Nat.reduceEqDiff, ↓reduceIte, *]; done) | (simp only [↓putO_get, ↓putO_no, init_zero, init_succ, Nat.reduceEqDiff, ↓reduceIte, *]; rfl)), SoFar.zero b0⟩ ?_
  clear p0 p1
  rintro k s τ ⟨i, D, hi, rfl, s0, s3, s19, s20, s21, hF⟩
  have HF := Hid.mk hF
  clear hF
  rcases Nat.lt_or_ge i C.ss.length with hlt | hge
  · have hd : decide ((i : Int) < (C.ss.length : Int)) = true := by simp; omega
    have e1 : IntKind.i64.wrap ((i : Int) + 1) = ((i + 1 : Nat) : Int) := by rw [wi64 (by omega)]; rfl
    obtain ⟨x, hx⟩ : ∃ x, C.ss[i]? = some x := ⟨_, List.getElem?_eq_getElem hlt⟩
    have HX := Hid.mk hx
    clear hx
    simp +contextual -dsimp only [*, CliC, Cfg.cells, ↓reduceIte, ↓evP, evQ, splice, Nat.reduceAdd, Nat.reduceEqDiff, Nat.reduceLeDiff, Nat.reduceMul, reduceCtorEq, Int.reduceLT, Int.reduceLE, Int.reduceGT, Int.reduceGE, Int.reduceEq, Int.reduceNeg]
    show codeF _ (.seq c10_b1 c10_t1) _ _ _ _
    refine codeF_cut (fun s' τ' => [0, 3, 19, 20, 21].map s' = [.pointer (some ⟨C.g, 0, none⟩), .pointer (some ⟨b, 0, none⟩), C.vs, .int .i64 C.ss.length, .int .i64 i] ∧ ∃ D', SoFar σ τ' C D' b (i + 1)) ?_ ?_
    · refine body10 H.out.1 HF.out HX.out (H.out.2.1 i x HX.out) (by omega) hlt (by first | rfl | (simp only [↓putO_get, ↓putO_no, init_zero, init_succ, Nat.reduceEqDiff, ↓reduceIte, *]; done) | (simp only [↓putO_get, ↓putO_no, init_zero, init_succ, Nat.reduceEqDiff, ↓reduceIte, *]; rfl)) (by first | rfl | (simp only [↓putO_get, ↓putO_no, init_zero, init_succ, Nat.reduceEqDiff, ↓reduceIte, *]; done) | (simp only [↓putO_get, ↓putO_no, init_zero, init_succ, Nat.reduceEqDiff, ↓reduceIte, *]; rfl)) (by first | rfl | (simp only [↓putO_get, ↓putO_no, init_zero, init_succ, Nat.reduceEqDiff, ↓reduceIte, *]; done) | (simp only [↓putO_get, ↓putO_no, init_zero, init_succ, Nat.reduceEqDiff, ↓reduceIte, *]; rfl)) (by first | rfl | (simp only [↓putO_get, ↓putO_no, init_zero, init_succ, Nat.reduceEqDiff, ↓reduceIte, *]; done) | (simp only [↓putO_get, ↓putO_no, init_zero, init_succ, Nat.reduceEqDiff, ↓reduceIte, *]; rfl)) (by first | rfl | (simp only [↓putO_get, ↓putO_no, init_zero, init_succ, Nat.reduceEqDiff, ↓reduceIte, *]; done) | (simp only [↓putO_get, ↓putO_no, init_zero, init_succ, Nat.reduceEqDiff, ↓reduceIte, *]; rfl)) (fun s' τ' hL r => ?_)
      rw [thn_normal]
      exact ⟨hL.trans (by simp only [List.map_cons, List.map_nil, ↓putO_get, ↓putO_no, init_zero, init_succ, Nat.reduceEqDiff, ↓reduceIte, *]), HF.out.on HX.out r⟩
    clear s0 s3 s19 s20 s21 HF
    rintro s τ ⟨hL, D', hD⟩
    simp only [List.map_cons, List.map_nil, List.cons.injEq, and_true] at hL
    obtain ⟨s0, s3, s19, s20, s21⟩ := hL
    have HF := Hid.mk hD
    clear hD
    unfold c10_t1
    simp +contextual -dsimp only [*, CliC, Cfg.cells, ↓reduceIte, ↓evP, evQ, splice, Nat.reduceAdd, Nat.reduceEqDiff, Nat.reduceLeDiff, Nat.reduceMul, reduceCtorEq, Int.reduceLT, Int.reduceLE, Int.reduceGT, Int.reduceGE, Int.reduceEq, Int.reduceNeg]
    exact nextF_of (C.ss.length - (i + 1)) (by omega) (Sub.refl _) ⟨i + 1, D', by omega, rfl, (by first | rfl | (simp only [↓putO_get, ↓putO_no, init_zero, init_succ, Nat.reduceEqDiff, ↓reduceIte, *]; done) | (simp only [↓putO_get, ↓putO_no, init_zero, init_succ, Nat.reduceEqDiff, ↓reduceIte, *]; rfl)), (by first | rfl | (simp only [↓putO_get, ↓putO_no, init_zero, init_succ, Nat.reduceEqDiff, ↓reduceIte, *]; done) | (simp only [↓putO_get, ↓putO_no, init_zero, init_succ, Nat.reduceEqDiff, ↓reduceIte, *]; rfl)), (by first | rfl | (simp only [↓putO_get, ↓putO_no, init_zero, init_succ, Nat.reduceEqDiff, ↓reduceIte, *]; done) | (simp only [↓putO_get, ↓putO_no, init_zero, init_succ, Nat.reduceEqDiff, ↓reduceIte, *]; rfl)), (by first | rfl | (simp only [↓putO_get, ↓putO_no, init_zero, init_succ, Nat.reduceEqDiff, ↓reduceIte, *]; done) | (simp only [↓putO_get, ↓putO_no, init_zero, init_succ, Nat.reduceEqDiff, ↓reduceIte, *]; rfl)), (by first | rfl | (simp only [↓putO_get, ↓putO_no, init_zero, init_succ, Nat.reduceEqDiff, ↓reduceIte, *]; done) | (simp only [↓putO_get, ↓putO_no, init_zero, init_succ, Nat.reduceEqDiff, ↓reduceIte, *]; rfl)), HF.out⟩
  · have hd : decide ((i : Int) < (C.ss.length : Int)) = false := by simp; omega
    have hii : i = C.ss.length := by omega
    subst hii
    have kC' : τ C.g = σ C.g := (HF.out.at_.sub C.g).elim (fun e => absurd e kC) Eq.symm
    have p1 : rd τ C.g 9 = some (.slice a2 C.ts.length c2) := by rw [← E.out.2.1]; unfold rd; rw [kC', H.out.1.cli]; rfl
    have HF2 := Hid.mk (SoFar2.of HF.out)
    clear HF kC'
    (repeat' (first | (simp +contextual -dsimp only [*, CliC, Cfg.cells, ↓reduceIte, ↓evP, evQ, splice, Nat.reduceAdd, Nat.reduceEqDiff, Nat.reduceLeDiff, Nat.reduceMul, reduceCtorEq, Int.reduceLT, Int.reduceLE, Int.reduceGT, Int.reduceGE, Int.reduceEq, Int.reduceNeg]) | (refine condF_split (fun hc => ?_) (fun hc => ?_) <;> (try simp only [Bool.not_eq_true', Bool.not_eq_false', Bool.and_eq_true, Bool.or_eq_false_iff] at hc)) | (intro _; intros) | (refine And.intro ?_ ?_; focus (first | omega | ((repeat (first | exact Sub.refl _ | (refine Sub.drop ?_ ?_; focus (simp only [evN, *]; done)) | refine Sub.both ?_)); done) | (simp_all; done) | (simp_all; omega)))))
    refine loopF_of (fun k s σ' => ∃ (i : Nat) (D : CL), i ≤ C.ts.length ∧ k = C.ts.length - i ∧ s 0 = .pointer (some ⟨C.g, 0, none⟩) ∧ s 3 = .pointer (some ⟨b, 0, none⟩) ∧ s 40 = C.vt ∧ s 41 = .int .i64 C.ts.length ∧ s 42 = .int .i64 i ∧ SoFar2 σ σ' C D b i) C.ts.length (Sub.refl _)
      ⟨0, D, by omega, rfl, (by first | rfl | (simp only [↓putO_get, ↓putO_no, init_zero, init_succ, Nat.reduceEqDiff, ↓reduceIte, *]; done) | (simp only [↓putO_get, ↓putO_no, init_zero, init_succ, Nat.reduceEqDiff, ↓reduceIte, *]; rfl)), (by first | rfl | (simp only [↓putO_get, ↓putO_no, init_zero, init_succ, Nat.reduceEqDiff, ↓reduceIte, *]; done) | (simp only [↓putO_get, ↓putO_no, init_zero, init_succ, Nat.reduceEqDiff, ↓reduceIte, *]; rfl)), by rw [E.out.2.1]; exact (by first | rfl | (simp only [↓putO_get, ↓putO_no, init_zero, init_succ, Nat.reduceEqDiff, ↓reduceIte, *]; done) | (simp only [↓putO_get, ↓putO_no, init_zero, init_succ, Nat.reduceEqDiff, ↓reduceIte, *]; rfl)), (by first | rfl | (simp only [↓putO_get, ↓putO_no, init_zero, init_succ, Nat.reduceEqDiff, ↓reduceIte, *]; done) | (simp only [↓putO_get, ↓putO_no, init_zero, init_succ, Nat.reduceEqDiff, ↓reduceIte, *]; rfl)), (by first | rfl | (simp only [↓putO_get, ↓putO_no, init_zero, init_succ, Nat.reduceEqDiff, ↓reduceIte, *]; done) | (simp only [↓putO_get, ↓putO_no, init_zero, init_succ, Nat.reduceEqDiff, ↓reduceIte, *]; rfl)), HF2.out⟩ ?_
    clear p1 s0 s3 s19 s20 s21 hd hge hi HF2
    clear s τ D
    rintro k s τ ⟨i, D, hi, rfl, s0, s3, s40, s41, s42, hF⟩
    have HF := Hid.mk hF
    clear hF
    rcases Nat.lt_or_ge i C.ts.length with hlt | hge
    · have hd : decide ((i : Int) < (C.ts.length : Int)) = true := by simp; omega
      have e1 : IntKind.i64.wrap ((i : Int) + 1) = ((i + 1 : Nat) : Int) := by rw [wi64 (by omega)]; rfl
      obtain ⟨x, hx⟩ : ∃ x, C.ts[i]? = some x := ⟨_, List.getElem?_eq_getElem hlt⟩
      have HX := Hid.mk hx
      clear hx
      simp +contextual -dsimp only [*, CliC, Cfg.cells, ↓reduceIte, ↓evP, evQ, splice, Nat.reduceAdd, Nat.reduceEqDiff, Nat.reduceLeDiff, Nat.reduceMul, reduceCtorEq, Int.reduceLT, Int.reduceLE, Int.reduceGT, Int.reduceGE, Int.reduceEq, Int.reduceNeg]
      show codeF _ (.seq c10_b3 c10_t3) _ _ _ _
      refine codeF_cut (fun s' τ' => [0, 3, 40, 41, 42].map s' = [.pointer (some ⟨C.g, 0, none⟩), .pointer (some ⟨b, 0, none⟩), C.vt, .int .i64 C.ts.length, .int .i64 i] ∧ ∃ D', SoFar2 σ τ' C D' b (i + 1)) ?_ ?_
      · refine body12 H.out.1 HF.out HX.out (H.out.2.2 i x HX.out) (by omega) (by first | rfl | (simp only [↓putO_get, ↓putO_no, init_zero, init_succ, Nat.reduceEqDiff, ↓reduceIte, *]; done) | (simp only [↓putO_get, ↓putO_no, init_zero, init_succ, Nat.reduceEqDiff, ↓reduceIte, *]; rfl)) (by first | rfl | (simp only [↓putO_get, ↓putO_no, init_zero, init_succ, Nat.reduceEqDiff, ↓reduceIte, *]; done) | (simp only [↓putO_get, ↓putO_no, init_zero, init_succ, Nat.reduceEqDiff, ↓reduceIte, *]; rfl)) (by first | rfl | (simp only [↓putO_get, ↓putO_no, init_zero, init_succ, Nat.reduceEqDiff, ↓reduceIte, *]; done) | (simp only [↓putO_get, ↓putO_no, init_zero, init_succ, Nat.reduceEqDiff, ↓reduceIte, *]; rfl)) (by first | rfl | (simp only [↓putO_get, ↓putO_no, init_zero, init_succ, Nat.reduceEqDiff, ↓reduceIte, *]; done) | (simp only [↓putO_get, ↓putO_no, init_zero, init_succ, Nat.reduceEqDiff, ↓reduceIte, *]; rfl)) (by first | rfl | (simp only [↓putO_get, ↓putO_no, init_zero, init_succ, Nat.reduceEqDiff, ↓reduceIte, *]; done) | (simp only [↓putO_get, ↓putO_no, init_zero, init_succ, Nat.reduceEqDiff, ↓reduceIte, *]; rfl)) (fun s' τ' D' hL r => ?_)
        rw [thn_normal]
        exact ⟨hL.trans (by simp only [List.map_cons, List.map_nil, ↓putO_get, ↓putO_no, init_zero, init_succ, Nat.reduceEqDiff, ↓reduceIte, *]), D', r⟩
      clear s0 s3 s40 s41 s42 HF
      rintro s τ ⟨hL, D', hD⟩
      simp only [List.map_cons, List.map_nil, List.cons.injEq, and_true] at hL
      obtain ⟨s0, s3, s40, s41, s42⟩ := hL
      have HF := Hid.mk hD
      clear hD
      unfold c10_t3
      simp +contextual -dsimp only [*, CliC, Cfg.cells, ↓reduceIte, ↓evP, evQ, splice, Nat.reduceAdd, Nat.reduceEqDiff, Nat.reduceLeDiff, Nat.reduceMul, reduceCtorEq, Int.reduceLT, Int.reduceLE, Int.reduceGT, Int.reduceGE, Int.reduceEq, Int.reduceNeg]
      exact nextF_of (C.ts.length - (i + 1)) (by omega) (Sub.refl _) ⟨i + 1, D', by omega, rfl, (by first | rfl | (simp only [↓putO_get, ↓putO_no, init_zero, init_succ, Nat.reduceEqDiff, ↓reduceIte, *]; done) | (simp only [↓putO_get, ↓putO_no, init_zero, init_succ, Nat.reduceEqDiff, ↓reduceIte, *]; rfl)), (by first | rfl | (simp only [↓putO_get, ↓putO_no, init_zero, init_succ, Nat.reduceEqDiff, ↓reduceIte, *]; done) | (simp only [↓putO_get, ↓putO_no, init_zero, init_succ, Nat.reduceEqDiff, ↓reduceIte, *]; rfl)), (by first | rfl | (simp only [↓putO_get, ↓putO_no, init_zero, init_succ, Nat.reduceEqDiff, ↓reduceIte, *]; done) | (simp only [↓putO_get, ↓putO_no, init_zero, init_succ, Nat.reduceEqDiff, ↓reduceIte, *]; rfl)), (by first | rfl | (simp only [↓putO_get, ↓putO_no, init_zero, init_succ, Nat.reduceEqDiff, ↓reduceIte, *]; done) | (simp only [↓putO_get, ↓putO_no, init_zero, init_succ, Nat.reduceEqDiff, ↓reduceIte, *]; rfl)), (by first | rfl | (simp only [↓putO_get, ↓putO_no, init_zero, init_succ, Nat.reduceEqDiff, ↓reduceIte, *]; done) | (simp only [↓putO_get, ↓putO_no, init_zero, init_succ, Nat.reduceEqDiff, ↓reduceIte, *]; rfl)), HF.out⟩
    · have hd : decide ((i : Int) < (C.ts.length : Int)) = false := by simp; omega
      have hii : i = C.ts.length := by omega
      subst hii
      have kC' : τ C.g = σ C.g := (HF.out.sub C.g).elim (fun e => absurd e kC) Eq.symm
      have p1 : rd τ C.g 10 = some C.vh := by unfold rd; rw [kC', H.out.1.cli]; rfl
      have hcli := HF.out.at_.cli
      rw [HF.out.g] at hcli
      have hvh : RowsAt 3 1 iC τ C.vh (C.ts.map fun t => (t.k : Int)) := H.out.1.vh.subK HF.out.sub
      have hbC : ¬ C.g = b := n1 b b0
      have hks : (D.ts.map fun t => (t.k : Int)) = C.ts.map fun t => (t.k : Int) := by
        have := congrArg (List.map fun p : TxS × Nat => (p.2 : Int)) HF.out.ts
        rw [List.take_length, List.map_map, List.map_map] at this
        exact this
      have fin : ∀ (σ' : Hp) (vh' : Value), σ' b = some (.cells (CliC D.c D.vs D.vt vh') 67) → RowsAt 3 1 iC σ' vh' (C.ts.map fun t => (t.k : Int)) → Same (fun i => i = b) τ σ' → (∀ i, blk vh' = some i → τ i = none) →
          ∃ D', Value.pointer (some ⟨b, 0, none⟩) = .pointer (some ⟨D'.g, 0, none⟩) ∧ Cli σ σ' D' ∧ CloneOf C D' := fun σ' vh' a1 a2 a3 a4 => by
        have f := HF.out
        have hg := f.g
        refine ⟨{ D with vh := vh' }, by rw [← hg], ⟨f.at_.done (by rw [hg]; exact a1) (by rw [hks]; exact a2) (by rw [hg]; exact a3), f.sub.same a3 (fun k e => by rw [e]; exact b0), fun k hk => ?_⟩, f.c, f.ss, f.ts.trans (by rw [List.take_length])⟩
        rcases hk with e | e | e | e | e
        · exact f.new k (.inl e)
        · exact f.new k (.inr (.inl e))
        · exact f.new k (.inr (.inr (.inl e)))
        · exact f.sub.noneAt (a4 k e)
        · exact f.new k (.inr (.inr (.inr (.inr e))))
      have HN := Hid.mk fin
      have hlm : (C.ts.map fun t => (t.k : Int)).length = C.ts.length := List.length_map _
      unfold CliC at hcli
      clear kC' fin HF hks
      rcases hvh with ⟨e, e2⟩ | ⟨c, q, e, hq, hb⟩
      · rw [e] at p1
        rw [e2] at HN
        obtain ⟨τ1, rfl⟩ := open_upd hcli
        rw [rd_ne _ _ _ hbC] at p1
        clear hcli
        (repeat' (first | (simp +contextual -dsimp only [*, CliC, Cfg.cells, ↓reduceIte, ↓evP, evQ, splice, Nat.reduceAdd, Nat.reduceEqDiff, Nat.reduceLeDiff, Nat.reduceMul, reduceCtorEq, Int.reduceLT, Int.reduceLE, Int.reduceGT, Int.reduceGE, Int.reduceEq, Int.reduceNeg]) | (refine condF_split (fun hc => ?_) (fun hc => ?_) <;> (try simp only [Bool.not_eq_true', Bool.not_eq_false', Bool.and_eq_true, Bool.or_eq_false_iff] at hc)) | (intro _; intros) | (refine And.intro ?_ ?_; focus (first | omega | ((repeat (first | exact Sub.refl _ | (refine Sub.drop ?_ ?_; focus (simp only [evN, *]; done)) | refine Sub.both ?_)); done) | (simp_all; done) | (simp_all; omega)))))
        refine app_nn ?_
        (repeat' (first | (simp +contextual -dsimp only [*, CliC, Cfg.cells, ↓reduceIte, ↓evP, evQ, splice, Nat.reduceAdd, Nat.reduceEqDiff, Nat.reduceLeDiff, Nat.reduceMul, reduceCtorEq, Int.reduceLT, Int.reduceLE, Int.reduceGT, Int.reduceGE, Int.reduceEq, Int.reduceNeg]) | (refine condF_split (fun hc => ?_) (fun hc => ?_) <;> (try simp only [Bool.not_eq_true', Bool.not_eq_false', Bool.and_eq_true, Bool.or_eq_false_iff] at hc)) | (intro _; intros) | (refine And.intro ?_ ?_; focus (first | omega | ((repeat (first | exact Sub.refl _ | (refine Sub.drop ?_ ?_; focus (simp only [evN, *]; done)) | refine Sub.both ?_)); done) | (simp_all; done) | (simp_all; omega)))))
        refine endF_at (HN.out _ (.slice none 0 0) (by first | (simp only [upd_at, *, ↓reduceIte]; done) | (simp only [upd_at, *, ↓reduceIte]; rfl)) (.inl ⟨rfl, rfl⟩) (by repeat (first | exact Same.refl _ _ | (refine Same.updNew ?_ ?_; focus (simp only [evN, *]; done)) | (refine Same.both ?_ ?_; focus (first | exact rfl | exact .inl rfl | exact .inr rfl)) | (refine Same.updIn ?_ ?_; focus (first | exact rfl | exact .inl rfl | exact .inr rfl)) | refine Same.eq ?_)) (fun i hi => by cases hi))
      · rw [e, hlm] at p1
        rw [hlm] at hq
        obtain ⟨τ1, rfl, e5, e6⟩ := open_two hcli hb (by simp)
        rw [rd_ne _ _ _ hbC] at p1
        have hbC2 : ¬ C.g = c := fun e' => H.out.1.vh.notCells H.out.1.cli (by rw [e, e']; rfl)
        rw [rd_ne _ _ _ hbC2] at p1
        have hone := ic_one (C.ts.map fun t => (t.k : Int))
        have hfl := flat_len (f := iC) (sz := 1) (fun _ => rfl) (C.ts.map fun t => (t.k : Int))
        rw [hlm] at hfl
        generalize hl : (C.ts.map fun t => (t.k : Int)) = l at *
        clear hcli hb
        (repeat' (first | (simp +contextual -dsimp only [*, CliC, Cfg.cells, ↓reduceIte, ↓evP, evQ, splice, Nat.reduceAdd, Nat.reduceEqDiff, Nat.reduceLeDiff, Nat.reduceMul, reduceCtorEq, Int.reduceLT, Int.reduceLE, Int.reduceGT, Int.reduceGE, Int.reduceEq, Int.reduceNeg]) | (refine condF_split (fun hc => ?_) (fun hc => ?_) <;> (try simp only [Bool.not_eq_true', Bool.not_eq_false', Bool.and_eq_true, Bool.or_eq_false_iff] at hc)) | (intro _; intros) | (refine And.intro ?_ ?_; focus (first | omega | ((repeat (first | exact Sub.refl _ | (refine Sub.drop ?_ ?_; focus (simp only [evN, *]; done)) | refine Sub.both ?_)); done) | (simp_all; done) | (simp_all; omega)))))
        rcases Nat.eq_zero_or_pos C.ts.length with h0 | h0
        · have hl0 := Hid.mk (List.length_eq_zero_iff.1 (hlm.trans h0))
          rw [h0]
          refine app_n0 (by simp [rdn, upd, e6, seg]) ?_
          (repeat' (first | (simp +contextual -dsimp only [*, CliC, Cfg.cells, ↓reduceIte, ↓evP, evQ, splice, Nat.reduceAdd, Nat.reduceEqDiff, Nat.reduceLeDiff, Nat.reduceMul, reduceCtorEq, Int.reduceLT, Int.reduceLE, Int.reduceGT, Int.reduceGE, Int.reduceEq, Int.reduceNeg]) | (refine condF_split (fun hc => ?_) (fun hc => ?_) <;> (try simp only [Bool.not_eq_true', Bool.not_eq_false', Bool.and_eq_true, Bool.or_eq_false_iff] at hc)) | (intro _; intros) | (refine And.intro ?_ ?_; focus (first | omega | ((repeat (first | exact Sub.refl _ | (refine Sub.drop ?_ ?_; focus (simp only [evN, *]; done)) | refine Sub.both ?_)); done) | (simp_all; done) | (simp_all; omega)))))
          refine endF_at (HN.out _ (.slice none 0 0) (by first | (simp only [upd_at, *, ↓reduceIte]; done) | (simp only [upd_at, *, ↓reduceIte]; rfl)) (.inl ⟨rfl, hl0.out⟩) (by repeat (first | exact Same.refl _ _ | (refine Same.updNew ?_ ?_; focus (simp only [evN, *]; done)) | (refine Same.both ?_ ?_; focus (first | exact rfl | exact .inl rfl | exact .inr rfl)) | (refine Same.updIn ?_ ?_; focus (first | exact rfl | exact .inl rfl | exact .inr rfl)) | refine Same.eq ?_)) (fun i hi => by cases hi))
        · have hy : ∀ cs k, rdn (upd (upd τ1 c (.row (l.flatMap iC) (q * 1) 3)) b (.cells cs k)) c 0 (C.ts.length * 1) = some (l.flatMap iC) := by
            intro cs k; unfold rdn; rw [upd_ne _ _ e6, upd_same]; show seg _ 0 _ = _; rw [← hfl]; exact seg_all _
          refine app_n (hy _ _) hone h0 (by omega) (by unfold maxLen; omega) ?_
          (repeat' (first | (simp +contextual -dsimp only [*, CliC, Cfg.cells, ↓reduceIte, ↓evP, evQ, splice, Nat.reduceAdd, Nat.reduceEqDiff, Nat.reduceLeDiff, Nat.reduceMul, reduceCtorEq, Int.reduceLT, Int.reduceLE, Int.reduceGT, Int.reduceGE, Int.reduceEq, Int.reduceNeg]) | (refine condF_split (fun hc => ?_) (fun hc => ?_) <;> (try simp only [Bool.not_eq_true', Bool.not_eq_false', Bool.and_eq_true, Bool.or_eq_false_iff] at hc)) | (intro _; intros) | (refine And.intro ?_ ?_; focus (first | omega | ((repeat (first | exact Sub.refl _ | (refine Sub.drop ?_ ?_; focus (simp only [evN, *]; done)) | refine Sub.both ?_)); done) | (simp_all; done) | (simp_all; omega)))))
          all_goals refine endF_at (HN.out _ (.slice (some ⟨_, 0, none⟩) C.ts.length _) (by first | (simp only [upd_at, *, ↓reduceIte]; done) | (simp only [upd_at, *, ↓reduceIte]; rfl)) (rows_mk hlm (by assumption) (by first | (simp only [upd_at, *, ↓reduceIte]; done) | (simp only [upd_at, *, ↓reduceIte]; rfl))) (by repeat (first | exact Same.refl _ _ | (refine Same.updNew ?_ ?_; focus (simp only [evN, *]; done)) | (refine Same.both ?_ ?_; focus (first | exact rfl | exact .inl rfl | exact .inr rfl)) | (refine Same.updIn ?_ ?_; focus (first | exact rfl | exact .inl rfl | exact .inr rfl)) | refine Same.eq ?_)) ?_)
          all_goals (intro i hi; cases hi; exact (by simp only [evN, *]; done))
theorem sc_one : ∀ (l : List RS), (∀ x ∈ l, one x.v = true) → (l.flatMap sC).all one = true
  | [], _ => rfl
  | a :: l, h => by
    rw [List.flatMap_cons, List.all_append, sc_one l fun x hx => h x (List.mem_cons_of_mem _ hx), Bool.and_true]
    show (true && (true && (true && (true && (true && (true && (true && (one a.v && true)))))))) = true
    rw [h a (List.mem_cons_self ..)]; rfl
theorem tc_one : ∀ (l : List RT), (∀ x ∈ l, one x.v = true) → (l.flatMap tC).all one = true
  | [], _ => rfl
  | a :: l, h => by
    rw [List.flatMap_cons, List.all_append, tc_one l fun x hx => h x (List.mem_cons_of_mem _ hx), Bool.and_true]
    show (true && (true && (true && (true && (true && (true && (true && (true && (true && (one a.v && true)))))))))) = true
    rw [h a (List.mem_cons_self ..)]; rfl
theorem rows_one {α : Type} {E sz : Nat} {f : α → List Value} {σ : Hp} {v : Value} {l : List α} (h : RowsAt E sz f σ v l) : one v = true := by
  obtain ⟨a, c, rfl⟩ := h.slice; rfl
theorem RefAt.oneS {σ : Hp} {R : RL} (h : RefAt σ R) : (R.ss.flatMap sC).all one = true := sc_one _ fun x hx => by
  obtain ⟨i, hi⟩ := List.getElem?_of_mem hx
  exact rows_one (h.ses i x hi)
theorem RefAt.oneT {σ : Hp} {R : RL} (h : RefAt σ R) : (R.ts.flatMap tC).all one = true := tc_one _ fun x hx => by
  obtain ⟨i, hi⟩ := List.getElem?_of_mem hx
  exact rows_one (h.tx i x hi)
/-- A row appended to a new, empty one. -/
theorem app_copy {α : Type} {E sz bytes b : Nat} {f : α → List Value} {σ : Hp} {v : Value} {l : List α} {K : Value → Hp → Prop} {δ} (hf : ∀ x, (f x).length = sz) (hone : (l.flatMap f).all one = true) (hr : RowsAt E sz f σ v l) (hb : σ b = none) (h1 : l.length * bytes ≤ 140737488355328) (h2 : l.length ≤ maxLen)
    (hk : ∀ v' σ', RowsAt E sz f σ' v' l → Sub σ σ' → (∀ i, blk v' = some i → σ i = none) → K v' σ') : appF E sz bytes (.slice (some ⟨b, 0, none⟩) 0 0) v K (upd σ b (.row [] 0 E)) δ := by
  have hsub : Sub σ (upd σ b (.row [] 0 E)) := Sub.drop hb (Sub.refl _)
  rcases hr with ⟨rfl, rfl⟩ | ⟨c, q, rfl, hq, hc⟩
  · exact app_bn (Nat.le_refl 0) (hk _ _ (rows_mk rfl (Nat.le_refl 0) (by rw [upd_same, Nat.zero_mul]; rfl)) hsub fun i hi => by cases hi; exact hb)
  · have hlen := flat_len hf l
    have hrd : rdn σ c 0 (l.length * sz) = some (l.flatMap f) := by
      unfold rdn; rw [hc]; show seg _ 0 _ = _; rw [← hlen]; exact seg_all _
    refine app_b (n := 0) (xs := []) (rdn_sub hsub hrd) hone (by rw [upd_same, Nat.zero_mul]) (by rw [Nat.zero_mul]; rfl) (Nat.le_refl 0) (by rw [Nat.zero_add]; exact h1) (by rw [Nat.zero_add]; exact h2) ?_ ?_
    · intro c' hc'
      rw [Nat.zero_add] at hc' ⊢
      refine hk _ _ (rows_mk rfl hc' (upd_same _ _ _)) ?_ fun i hi => by cases hi; exact hb
      rw [set_same]; exact Sub.drop hb (Sub.refl _)
    · intro d c' hd hc'
      rw [Nat.zero_add] at hc' ⊢
      refine hk _ _ (rows_mk rfl hc' (upd_same _ _ _)) ?_ fun i hi => by cases hi; exact hsub.noneAt hd
      rw [set_same]; exact Sub.drop (hsub.noneAt hd) (Sub.drop hb (Sub.refl _))
set_option maxHeartbeats 4000000 in
set_option maxRecDepth 100000 in
theorem copy11 {σ : Hp} {R : RL} (hR : RefAt σ R) (hS : R.ss.length ≤ 64) (hT : R.ts.length ≤ 256) :
    ACalls Tryz.prog 11 #[.pointer (some ⟨R.g, 0, none⟩)] σ fun u σ' => ∃ g vs vt vh, u = .pointer (some ⟨g, 0, none⟩) ∧ Ref σ σ' { R with g := g, vs := vs, vt := vt, vh := vh } := by
  have H := Hid.mk hR
  have kC : σ R.g ≠ none := by rw [hR.cli]; simp
  have hcl := hR.cli
  have n1 : ∀ y, σ y = none → ¬ R.g = y := fun y hy e => kC (by rw [e]; exact hy)
  have p0 : rdn σ R.g 0 8 = some R.c.cells := by unfold rdn; rw [hcl]; rfl
  have p1 : rd σ R.g 8 = some R.vs := by unfold rd; rw [hcl]; rfl
  have p2 : rd σ R.g 9 = some R.vt := by unfold rd; rw [hcl]; rfl
  have p3 : rd σ R.g 10 = some R.vh := by unfold rd; rw [hcl]; rfl
  clear hR hcl
  unfold Cfg.cells at p0
  (refine acalls_F ok11 (by simp) ?_; unfold c11 r11)
  (repeat' (first | (simp +contextual -dsimp only [*, CliC, Cfg.cells, ↓reduceIte, ↓evP, evQ, splice, Nat.reduceAdd, Nat.reduceEqDiff, Nat.reduceLeDiff, Nat.reduceMul, reduceCtorEq, Int.reduceLT, Int.reduceLE, Int.reduceGT, Int.reduceGE, Int.reduceEq, Int.reduceNeg]) | (refine condF_split (fun hc => ?_) (fun hc => ?_) <;> (try simp only [Bool.not_eq_true', Bool.not_eq_false', Bool.and_eq_true, Bool.or_eq_false_iff] at hc)) | (intro _; intros) | (refine And.intro ?_ ?_; focus (first | omega | ((repeat (first | exact Sub.refl _ | (refine Sub.drop ?_ ?_; focus (simp only [evN, *]; done)) | refine Sub.both ?_)); done) | (simp_all; done) | (simp_all; omega)))))
  refine app_copy sC_len H.out.oneS H.out.vs (by assumption) (by omega) (by unfold maxLen; omega) ?_
  intro v1 σ1 r1 s1 f1
  (repeat' (first | (simp +contextual -dsimp only [*, CliC, Cfg.cells, ↓reduceIte, ↓evP, evQ, splice, Nat.reduceAdd, Nat.reduceEqDiff, Nat.reduceLeDiff, Nat.reduceMul, reduceCtorEq, Int.reduceLT, Int.reduceLE, Int.reduceGT, Int.reduceGE, Int.reduceEq, Int.reduceNeg]) | (refine condF_split (fun hc => ?_) (fun hc => ?_) <;> (try simp only [Bool.not_eq_true', Bool.not_eq_false', Bool.and_eq_true, Bool.or_eq_false_iff] at hc)) | (intro _; intros) | (refine And.intro ?_ ?_; focus (first | omega | ((repeat (first | exact Sub.refl _ | (refine Sub.drop ?_ ?_; focus (simp only [evN, *]; done)) | refine Sub.both ?_)); done) | (simp_all; done) | (simp_all; omega)))))
  refine app_copy tC_len H.out.oneT (H.out.vt.subK s1) (by assumption) (by omega) (by unfold maxLen; omega) ?_
  intro v2 σ2 r2 s2 f2
  (repeat' (first | (simp +contextual -dsimp only [*, CliC, Cfg.cells, ↓reduceIte, ↓evP, evQ, splice, Nat.reduceAdd, Nat.reduceEqDiff, Nat.reduceLeDiff, Nat.reduceMul, reduceCtorEq, Int.reduceLT, Int.reduceLE, Int.reduceGT, Int.reduceGE, Int.reduceEq, Int.reduceNeg]) | (refine condF_split (fun hc => ?_) (fun hc => ?_) <;> (try simp only [Bool.not_eq_true', Bool.not_eq_false', Bool.and_eq_true, Bool.or_eq_false_iff] at hc)) | (intro _; intros) | (refine And.intro ?_ ?_; focus (first | omega | ((repeat (first | exact Sub.refl _ | (refine Sub.drop ?_ ?_; focus (simp only [evN, *]; done)) | refine Sub.both ?_)); done) | (simp_all; done) | (simp_all; omega)))))
  refine ⟨s1.trans s2, fun b3 hb3 => ?_⟩
  refine app_copy (f := iC) (sz := 1) (bytes := 8) (fun _ => rfl) (ic_one _) (H.out.vh.subK (s1.trans s2)) (by assumption) (by rw [List.length_map]; omega) (by rw [List.length_map]; unfold maxLen; omega) ?_
  intro v3 σ3 r3 s3 f3
  obtain ⟨x1, y1, rfl⟩ := r1.slice
  obtain ⟨x2, y2, rfl⟩ := r2.slice
  obtain ⟨x3, y3, rfl⟩ := r3.slice
  have HR := Hid.mk (And.intro r1 (And.intro r2 (And.intro r3 (And.intro s1 (And.intro s2 (And.intro s3 (And.intro f1 (And.intro f2 f3))))))))
  clear r1 r2 r3 s1 s2 s3 f1 f2 f3 hb3
  simp +contextual -dsimp only [*, CliC, Cfg.cells, ↓reduceIte, ↓evP, evQ, splice, Nat.reduceAdd, Nat.reduceEqDiff, Nat.reduceLeDiff, Nat.reduceMul, reduceCtorEq, Int.reduceLT, Int.reduceLE, Int.reduceGT, Int.reduceGE, Int.reduceEq, Int.reduceNeg]
  refine ⟨HR.out.2.2.2.1.trans (HR.out.2.2.2.2.1.trans HR.out.2.2.2.2.2.1), ?_⟩
  intro g hg
  (with_reducible refine endF_at ⟨g, .slice x1 R.ss.length y1, .slice x2 R.ts.length y2, .slice x3 (List.map (fun t => (t.k : Int)) R.ts).length y3, rfl, ?_⟩)
  obtain ⟨r1, r2, r3, s1, s2, s3, f1, f2, f3⟩ := HR.out
  have hs := s1.trans (s2.trans s3)
  have hg3 : Sub σ3 (upd σ3 g (.cells (CliC R.c (.slice x1 R.ss.length y1) (.slice x2 R.ts.length y2) (.slice x3 (List.map (fun t => (t.k : Int)) R.ts).length y3)) 71)) := Sub.drop hg (Sub.refl _)
  refine ⟨⟨upd_same _ _ _, r1.subK (s2.trans (s3.trans hg3)), r2.subK (s3.trans hg3), r3.subK hg3, fun i s h => (H.out.ses i s h).subK (hs.trans hg3), fun i t h => (H.out.tx i t h).subK (hs.trans hg3), H.out.home⟩, hs.trans hg3, ?_⟩
  rintro k (e | e | e | e)
  · rw [e]; exact hs.noneAt hg
  · exact f1 k e
  · exact s1.noneAt (f2 k e)
  · exact (s1.trans s2).noneAt (f3 k e)
theorem map_get {α β : Type} {f : α → β} {l l' : List α} {i : Nat} {x : α} (h : l'.map f = l.map f) (hx : l'[i]? = some x) : ∃ y, l[i]? = some y ∧ f y = f x := by
  have e := congrArg (fun l => l[i]?) h
  simp only [List.getElem?_map, hx, Option.map_some] at e
  cases hy : l[i]? with
  | none => rw [hy] at e; cases e
  | some y => rw [hy] at e; exact ⟨y, rfl, (Option.some.inj e).symm⟩
theorem CloneOf.alike {C D : CL} {R : RL} {n g : Nat} {vs vt vh : Value} (h : CloneOf C D) (A : Alike C R n) : Alike D { R with g := g, vs := vs, vt := vt, vh := vh } n := by
  have lS : D.ss.length = C.ss.length := by have := congrArg List.length h.ss; simpa using this
  have lT : D.ts.length = C.ts.length := by have := congrArg List.length h.ts; simpa using this
  refine ⟨A.cfg.trans h.c.symm, A.nS.trans lS.symm, by rw [lS]; exact A.nS64, A.nT.trans lT.symm, by rw [lT]; exact A.nT256, fun i s r hs hr => ?_, fun i t q ht hq => ?_⟩
  · obtain ⟨s', hs', e⟩ := map_get h.ss hs
    obtain ⟨a, b, c, d⟩ := A.ses i s' r hs' hr
    have e1 : s'.S = s.S := congrArg Prod.fst e
    have e2 : s'.ws = s.ws := congrArg Prod.snd e
    rw [← e1, ← e2]; exact ⟨a, b, c, d⟩
  · obtain ⟨t', ht', e⟩ := map_get h.ts ht
    obtain ⟨a, b, c⟩ := A.tx i t' q ht' hq
    have e1 : t'.T = t.T := congrArg Prod.fst e
    have e2 : t'.k = t.k := congrArg Prod.snd e
    rw [← e1, ← e2]; exact ⟨a, b, c⟩
theorem Pair.up {σ0 σ σ1 : Hp} {C : CL} {R : RL} (h : Pair σ0 σ C R) (hs : Sub σ σ1) : Pair σ0 σ1 C R :=
  h.keep (F := fun _ => False) (fun k hk _ => (hs k).elim (fun e => absurd e hk) Eq.symm) (fun _ x => x.elim) (fun _ x => x.elim) (fun _ x => x.elim) (fun _ x => x.elim)
set_option maxHeartbeats 4000000 in
set_option maxRecDepth 100000 in
theorem clones4 {σ : Hp} (hG : Glob σ) (cfg : Cfg) {v w : Value} {xs ys : List OpC} (hv : RoRows 21 OpC.cells σ v xs) (ho : ∀ o ∈ xs, OpCOk σ o ∧ 0 ≤ o.kind) (hw : RoRows 21 OpC.cells σ w ys) (ho2 : ∀ o ∈ ys, OpCOk σ o ∧ 0 ≤ o.kind) (hn : xs.length + ys.length ≤ 1048576) :
    ACalls Tryz.prog 4 #[.agg cfg.cells.toArray, v, w] σ fun u σ' => u = .bool true ∧ σ' = σ := by
  have HG := Hid.mk (And.intro hG (And.intro hv (And.intro ho (And.intro hw ho2))))
  obtain ⟨A, cc, rfl, _⟩ := hv
  obtain ⟨A2, cc2, rfl, _⟩ := hw
  clear hG ho ho2
  (refine acalls_F ok4 (by simp) ?_; unfold c4 r4)
  (repeat' (first | (simp +contextual -dsimp only [*, CliC, Msg.cells, OpC.cells, Cfg.cells, ↓reduceIte, ↓evP, evQ, splice, Nat.reduceAdd, Nat.reduceEqDiff, Nat.reduceLeDiff, Nat.reduceMul, reduceCtorEq, Int.reduceLT, Int.reduceLE, Int.reduceGT, Int.reduceGE, Int.reduceEq, Int.reduceNeg]) | (refine condF_split (fun hc => ?_) (fun hc => ?_) <;> (try simp only [Bool.not_eq_true', Bool.not_eq_false', Bool.and_eq_true, Bool.or_eq_false_iff] at hc)) | refine callF_v (fixed29 (HG.out.1.sub (by (repeat (first | exact Sub.refl _ | (refine Sub.drop ?_ ?_; focus (simp only [evN, *]; done)) | refine Sub.both ?_)); done))) ?_ | refine ccallF_of (fixed29 (HG.out.1.sub (by (repeat (first | exact Sub.refl _ | (refine Sub.drop ?_ ?_; focus (simp only [evN, *]; done)) | refine Sub.both ?_)); done))) ?_ | refine gcallF_of (fixed29 (HG.out.1.sub (by (repeat (first | exact Sub.refl _ | (refine Sub.drop ?_ ?_; focus (simp only [evN, *]; done)) | refine Sub.both ?_)); done))) ?_ | (intro _; intros) | (refine And.intro ?_ ?_; focus (first | omega | ((repeat (first | exact Sub.refl _ | (refine Sub.drop ?_ ?_; focus (simp only [evN, *]; done)) | refine Sub.both ?_)); done) | (simp_all; done) | (simp_all; omega)))))
  rename_i b b0
  refine gcallF_first (newCli cfg _) (fun u σ₁ h => ?_) ?_
  · obtain ⟨g, _, h⟩ := h; exact h.sub
  rintro u σ1 ⟨g, rfl, h1⟩
  have H1 := Hid.mk h1
  clear h1
  simp +contextual -dsimp only [*, CliC, Msg.cells, OpC.cells, Cfg.cells, ↓reduceIte, ↓evP, evQ, splice, Nat.reduceAdd, Nat.reduceEqDiff, Nat.reduceLeDiff, Nat.reduceMul, reduceCtorEq, Int.reduceLT, Int.reduceLE, Int.reduceGT, Int.reduceGE, Int.reduceEq, Int.reduceNeg]
  refine callF_of (newRef cfg σ1) ?_
  rintro u σ2 ⟨g', rfl, h2⟩
  have HP := Hid.mk ((newPair H1.out h2 (fun k hk => by rcases hk with ⟨x, hx, _⟩ | ⟨x, hx, _⟩ <;> cases hx)).less (Sub.drop b0 (Sub.refl _)))
  clear h2 H1 b0
  generalize cfg.held = c0 at HP
  (repeat' (first | (simp +contextual -dsimp only [*, CliC, Msg.cells, OpC.cells, Cfg.cells, ↓reduceIte, ↓evP, evQ, splice, Nat.reduceAdd, Nat.reduceEqDiff, Nat.reduceLeDiff, Nat.reduceMul, reduceCtorEq, Int.reduceLT, Int.reduceLE, Int.reduceGT, Int.reduceGE, Int.reduceEq, Int.reduceNeg]) | (refine condF_split (fun hc => ?_) (fun hc => ?_) <;> (try simp only [Bool.not_eq_true', Bool.not_eq_false', Bool.and_eq_true, Bool.or_eq_false_iff] at hc)) | (intro _; intros) | (refine And.intro ?_ ?_; focus (first | omega | ((repeat (first | exact Sub.refl _ | (refine Sub.drop ?_ ?_; focus (simp only [evN, *]; done)) | refine Sub.both ?_)); done) | (simp_all; done) | (simp_all; omega)))))
  refine loopF_of (fun k s σ' => ∃ (i : Nat) (C : CL) (R : RL), i ≤ xs.length ∧ k = xs.length - i ∧ s 1 = .slice A xs.length cc ∧ s 2 = .slice A2 ys.length cc2 ∧ s 7 = .pointer (some ⟨g, 0, none⟩) ∧ s 8 = .pointer (some ⟨g', 0, none⟩) ∧ s 9 = .int .i64 i ∧ C.g = g ∧ R.g = g' ∧ Pair σ σ' C R ∧ Alike C R i) xs.length (Sub.refl _)
    ⟨0, _, _, by omega, rfl, (by first | rfl | (simp only [↓putO_get, ↓putO_no, init_zero, init_succ, Nat.reduceEqDiff, ↓reduceIte, *]; done) | (simp only [↓putO_get, ↓putO_no, init_zero, init_succ, Nat.reduceEqDiff, ↓reduceIte, *]; rfl)), (by first | rfl | (simp only [↓putO_get, ↓putO_no, init_zero, init_succ, Nat.reduceEqDiff, ↓reduceIte, *]; done) | (simp only [↓putO_get, ↓putO_no, init_zero, init_succ, Nat.reduceEqDiff, ↓reduceIte, *]; rfl)), (by first | rfl | (simp only [↓putO_get, ↓putO_no, init_zero, init_succ, Nat.reduceEqDiff, ↓reduceIte, *]; done) | (simp only [↓putO_get, ↓putO_no, init_zero, init_succ, Nat.reduceEqDiff, ↓reduceIte, *]; rfl)), (by first | rfl | (simp only [↓putO_get, ↓putO_no, init_zero, init_succ, Nat.reduceEqDiff, ↓reduceIte, *]; done) | (simp only [↓putO_get, ↓putO_no, init_zero, init_succ, Nat.reduceEqDiff, ↓reduceIte, *]; rfl)), (by first | rfl | (simp only [↓putO_get, ↓putO_no, init_zero, init_succ, Nat.reduceEqDiff, ↓reduceIte, *]; done) | (simp only [↓putO_get, ↓putO_no, init_zero, init_succ, Nat.reduceEqDiff, ↓reduceIte, *]; rfl)), rfl, rfl, HP.out, newAlike _ _ _⟩ ?_
  clear HP σ2 σ1 b c0
  rintro k s τ ⟨i, C, R, hi, rfl, s1, s2, s7, s8, s9, hg, hg', hP, hA⟩
  have H := Hid.mk (And.intro hP (And.intro hA (And.intro hg hg')))
  clear hP hA hg hg'
  rcases Nat.lt_or_ge i xs.length with hlt | hge
  · have hd : decide ((i : Int) < (xs.length : Int)) = true := by simp; omega
    have e1 : IntKind.i64.wrap ((i : Int) + 1) = ((i + 1 : Nat) : Int) := by rw [wi64 (by omega)]; rfl
    obtain ⟨o, hx⟩ : ∃ o, xs[i]? = some o := ⟨_, List.getElem?_eq_getElem hlt⟩
    obtain ⟨_, _, e, hrow⟩ := HG.out.2.1
    cases e
    obtain ⟨bb, oo, rfl, hr⟩ := hrow i o hx
    have hok := HG.out.2.2.1 o (List.mem_of_getElem? hx)
    have HO := Hid.mk (And.intro hr hok)
    have hrd := rdn_sub H.out.1.sub hr
    clear hrow hx hok hr
    unfold OpC.cells Msg.cells at hrd
    simp only [List.cons_append, List.nil_append] at hrd
    (repeat' (first | (simp +contextual -dsimp only [*, CliC, Msg.cells, OpC.cells, Cfg.cells, ↓reduceIte, ↓evP, evQ, splice, Nat.reduceAdd, Nat.reduceEqDiff, Nat.reduceLeDiff, Nat.reduceMul, reduceCtorEq, Int.reduceLT, Int.reduceLE, Int.reduceGT, Int.reduceGE, Int.reduceEq, Int.reduceNeg]) | (refine condF_split (fun hc => ?_) (fun hc => ?_) <;> (try simp only [Bool.not_eq_true', Bool.not_eq_false', Bool.and_eq_true, Bool.or_eq_false_iff] at hc)) | (intro _; intros) | (refine And.intro ?_ ?_; focus (first | omega | ((repeat (first | exact Sub.refl _ | (refine Sub.drop ?_ ?_; focus (simp only [evN, *]; done)) | refine Sub.both ?_)); done) | (simp_all; done) | (simp_all; omega)))))
    have q := step8 HG.out.1 H.out.1 H.out.2.1 HO.out.2.1 HO.out.2.2 (by omega)
    rw [H.out.2.2.1, H.out.2.2.2] at q
    clear hrd
    refine callF_of q ?_
    clear q
    rintro u σ3 ⟨rfl, C', R', h1, h2, hP, hA⟩
    have H2 := Hid.mk (And.intro hP (And.intro hA (And.intro (h1.trans H.out.2.2.1) (h2.trans H.out.2.2.2))))
    clear hP hA h1 h2
    (repeat' (first | (simp +contextual -dsimp only [*, CliC, Msg.cells, OpC.cells, Cfg.cells, ↓reduceIte, ↓evP, evQ, splice, Nat.reduceAdd, Nat.reduceEqDiff, Nat.reduceLeDiff, Nat.reduceMul, reduceCtorEq, Int.reduceLT, Int.reduceLE, Int.reduceGT, Int.reduceGE, Int.reduceEq, Int.reduceNeg]) | (refine condF_split (fun hc => ?_) (fun hc => ?_) <;> (try simp only [Bool.not_eq_true', Bool.not_eq_false', Bool.and_eq_true, Bool.or_eq_false_iff] at hc)) | (intro _; intros) | (refine And.intro ?_ ?_; focus (first | omega | ((repeat (first | exact Sub.refl _ | (refine Sub.drop ?_ ?_; focus (simp only [evN, *]; done)) | refine Sub.both ?_)); done) | (simp_all; done) | (simp_all; omega)))))
    exact nextF_of (xs.length - (i + 1)) (by omega) (Sub.refl _) ⟨i + 1, C', R', by omega, rfl, (by first | rfl | (simp only [↓putO_get, ↓putO_no, init_zero, init_succ, Nat.reduceEqDiff, ↓reduceIte, *]; done) | (simp only [↓putO_get, ↓putO_no, init_zero, init_succ, Nat.reduceEqDiff, ↓reduceIte, *]; rfl)), (by first | rfl | (simp only [↓putO_get, ↓putO_no, init_zero, init_succ, Nat.reduceEqDiff, ↓reduceIte, *]; done) | (simp only [↓putO_get, ↓putO_no, init_zero, init_succ, Nat.reduceEqDiff, ↓reduceIte, *]; rfl)), (by first | rfl | (simp only [↓putO_get, ↓putO_no, init_zero, init_succ, Nat.reduceEqDiff, ↓reduceIte, *]; done) | (simp only [↓putO_get, ↓putO_no, init_zero, init_succ, Nat.reduceEqDiff, ↓reduceIte, *]; rfl)), (by first | rfl | (simp only [↓putO_get, ↓putO_no, init_zero, init_succ, Nat.reduceEqDiff, ↓reduceIte, *]; done) | (simp only [↓putO_get, ↓putO_no, init_zero, init_succ, Nat.reduceEqDiff, ↓reduceIte, *]; rfl)), (by first | rfl | (simp only [↓putO_get, ↓putO_no, init_zero, init_succ, Nat.reduceEqDiff, ↓reduceIte, *]; done) | (simp only [↓putO_get, ↓putO_no, init_zero, init_succ, Nat.reduceEqDiff, ↓reduceIte, *]; rfl)), H2.out.2.2.1, H2.out.2.2.2, H2.out.1, H2.out.2.1⟩
  have hd : decide ((i : Int) < (xs.length : Int)) = false := by simp; omega
  have hii : i = xs.length := by omega
  subst hii
  have qc := clone10 H.out.1.c H.out.2.1.nS64 H.out.2.1.nT256 (fun i x hx => by
      obtain ⟨r, hr⟩ : ∃ r, R.ss[i]? = some r := ⟨_, List.getElem?_eq_getElem (by rw [H.out.2.1.nS]; exact (List.getElem?_eq_some_iff.1 hx).1)⟩
      exact (H.out.2.1.ses i x r hx hr).2.2.2) (fun i t ht => by
      obtain ⟨q, hq⟩ : ∃ q, R.ts[i]? = some q := ⟨_, List.getElem?_eq_getElem (by rw [H.out.2.1.nT]; exact (List.getElem?_eq_some_iff.1 ht).1)⟩
      have := (H.out.2.1.tx i t q ht hq).2.2.reads
      omega)
  rw [H.out.2.2.1] at qc
  (repeat' (first | (simp +contextual -dsimp only [*, CliC, Msg.cells, OpC.cells, Cfg.cells, ↓reduceIte, ↓evP, evQ, splice, Nat.reduceAdd, Nat.reduceEqDiff, Nat.reduceLeDiff, Nat.reduceMul, reduceCtorEq, Int.reduceLT, Int.reduceLE, Int.reduceGT, Int.reduceGE, Int.reduceEq, Int.reduceNeg]) | (refine condF_split (fun hc => ?_) (fun hc => ?_) <;> (try simp only [Bool.not_eq_true', Bool.not_eq_false', Bool.and_eq_true, Bool.or_eq_false_iff] at hc)) | (intro _; intros) | (refine And.intro ?_ ?_; focus (first | omega | ((repeat (first | exact Sub.refl _ | (refine Sub.drop ?_ ?_; focus (simp only [evN, *]; done)) | refine Sub.both ?_)); done) | (simp_all; done) | (simp_all; omega)))))
  refine callF_of qc ?_
  clear qc
  rintro u τ1 ⟨D, rfl, hD, hDC⟩
  have qr := copy11 (H.out.1.up hD.sub).r (by rw [H.out.2.1.nS]; exact H.out.2.1.nS64) (by rw [H.out.2.1.nT]; exact H.out.2.1.nT256)
  rw [H.out.2.2.2] at qr
  have HD := Hid.mk (And.intro hD hDC)
  clear hD hDC
  simp +contextual -dsimp only [*, CliC, Msg.cells, OpC.cells, Cfg.cells, ↓reduceIte, ↓evP, evQ, splice, Nat.reduceAdd, Nat.reduceEqDiff, Nat.reduceLeDiff, Nat.reduceMul, reduceCtorEq, Int.reduceLT, Int.reduceLE, Int.reduceGT, Int.reduceGE, Int.reduceEq, Int.reduceNeg]
  refine callF_of qr ?_
  clear qr
  rintro u τ2 ⟨h', vs, vt, vh, rfl, hE⟩
  have HE := Hid.mk (And.intro (newPair HD.out.1 hE (fun k hk => H.out.1.r.known2 hk)) (HD.out.2.alike (g := h') (vs := vs) (vt := vt) (vh := vh) H.out.2.1))
  clear hE
  (repeat' (first | (simp +contextual -dsimp only [*, CliC, Msg.cells, OpC.cells, Cfg.cells, ↓reduceIte, ↓evP, evQ, splice, Nat.reduceAdd, Nat.reduceEqDiff, Nat.reduceLeDiff, Nat.reduceMul, reduceCtorEq, Int.reduceLT, Int.reduceLE, Int.reduceGT, Int.reduceGE, Int.reduceEq, Int.reduceNeg]) | (refine condF_split (fun hc => ?_) (fun hc => ?_) <;> (try simp only [Bool.not_eq_true', Bool.not_eq_false', Bool.and_eq_true, Bool.or_eq_false_iff] at hc)) | (intro _; intros) | (refine And.intro ?_ ?_; focus (first | omega | ((repeat (first | exact Sub.refl _ | (refine Sub.drop ?_ ?_; focus (simp only [evN, *]; done)) | refine Sub.both ?_)); done) | (simp_all; done) | (simp_all; omega)))))
  refine loopF_of (fun k s σ' => ∃ (j : Nat) (D' : CL) (E' : RL), j ≤ ys.length ∧ k = ys.length - j ∧ s 2 = .slice A2 ys.length cc2 ∧ s 7 = .pointer (some ⟨g, 0, none⟩) ∧ s 8 = .pointer (some ⟨g', 0, none⟩) ∧ s 10 = .pointer (some ⟨D.g, 0, none⟩) ∧ s 11 = .pointer (some ⟨h', 0, none⟩) ∧ s 12 = .int .i64 j ∧ D'.g = D.g ∧ E'.g = h' ∧ Pair τ σ' D' E' ∧ Alike D' E' (xs.length + j)) ys.length (Sub.refl _)
    ⟨0, _, _, by omega, rfl, (by first | rfl | (simp only [↓putO_get, ↓putO_no, init_zero, init_succ, Nat.reduceEqDiff, ↓reduceIte, *]; done) | (simp only [↓putO_get, ↓putO_no, init_zero, init_succ, Nat.reduceEqDiff, ↓reduceIte, *]; rfl)), (by first | rfl | (simp only [↓putO_get, ↓putO_no, init_zero, init_succ, Nat.reduceEqDiff, ↓reduceIte, *]; done) | (simp only [↓putO_get, ↓putO_no, init_zero, init_succ, Nat.reduceEqDiff, ↓reduceIte, *]; rfl)), (by first | rfl | (simp only [↓putO_get, ↓putO_no, init_zero, init_succ, Nat.reduceEqDiff, ↓reduceIte, *]; done) | (simp only [↓putO_get, ↓putO_no, init_zero, init_succ, Nat.reduceEqDiff, ↓reduceIte, *]; rfl)), (by first | rfl | (simp only [↓putO_get, ↓putO_no, init_zero, init_succ, Nat.reduceEqDiff, ↓reduceIte, *]; done) | (simp only [↓putO_get, ↓putO_no, init_zero, init_succ, Nat.reduceEqDiff, ↓reduceIte, *]; rfl)), (by first | rfl | (simp only [↓putO_get, ↓putO_no, init_zero, init_succ, Nat.reduceEqDiff, ↓reduceIte, *]; done) | (simp only [↓putO_get, ↓putO_no, init_zero, init_succ, Nat.reduceEqDiff, ↓reduceIte, *]; rfl)), (by first | rfl | (simp only [↓putO_get, ↓putO_no, init_zero, init_succ, Nat.reduceEqDiff, ↓reduceIte, *]; done) | (simp only [↓putO_get, ↓putO_no, init_zero, init_succ, Nat.reduceEqDiff, ↓reduceIte, *]; rfl)), rfl, rfl, HE.out.1, HE.out.2⟩ ?_
  clear HE HD τ1 τ2 vs vt vh s1 s2 s7 s8 s9 hd hge hi
  generalize D.g = d
  clear s
  rintro k s τ2 ⟨j, D', E', hj, rfl, s2, s7, s8, s10, s11, s12, hg, hg', hP, hA⟩
  have H3 := Hid.mk (And.intro hP (And.intro hA (And.intro hg hg')))
  clear hP hA hg hg'
  rcases Nat.lt_or_ge j ys.length with hlt | hge
  · have hd : decide ((j : Int) < (ys.length : Int)) = true := by simp; omega
    have e1 : IntKind.i64.wrap ((j : Int) + 1) = ((j + 1 : Nat) : Int) := by rw [wi64 (by omega)]; rfl
    obtain ⟨o, hx⟩ : ∃ o, ys[j]? = some o := ⟨_, List.getElem?_eq_getElem hlt⟩
    obtain ⟨_, _, e, hrow⟩ := HG.out.2.2.2.1
    cases e
    obtain ⟨bb, oo, rfl, hr⟩ := hrow j o hx
    have hok := HG.out.2.2.2.2 o (List.mem_of_getElem? hx)
    have HO := Hid.mk (And.intro hr hok)
    have hrd := rdn_sub (H.out.1.sub.trans H3.out.1.sub) hr
    clear hrow hx hok hr
    unfold OpC.cells Msg.cells at hrd
    simp only [List.cons_append, List.nil_append] at hrd
    (repeat' (first | (simp +contextual -dsimp only [*, CliC, Msg.cells, OpC.cells, Cfg.cells, ↓reduceIte, ↓evP, evQ, splice, Nat.reduceAdd, Nat.reduceEqDiff, Nat.reduceLeDiff, Nat.reduceMul, reduceCtorEq, Int.reduceLT, Int.reduceLE, Int.reduceGT, Int.reduceGE, Int.reduceEq, Int.reduceNeg]) | (refine condF_split (fun hc => ?_) (fun hc => ?_) <;> (try simp only [Bool.not_eq_true', Bool.not_eq_false', Bool.and_eq_true, Bool.or_eq_false_iff] at hc)) | (intro _; intros) | (refine And.intro ?_ ?_; focus (first | omega | ((repeat (first | exact Sub.refl _ | (refine Sub.drop ?_ ?_; focus (simp only [evN, *]; done)) | refine Sub.both ?_)); done) | (simp_all; done) | (simp_all; omega)))))
    have q := step8 (HG.out.1.sub H.out.1.sub) H3.out.1 H3.out.2.1 (HO.out.2.1.sub H.out.1.sub) HO.out.2.2 (by omega)
    rw [H3.out.2.2.1, H3.out.2.2.2] at q
    clear hrd
    refine callF_of q ?_
    clear q
    rintro u σ3 ⟨rfl, C', R', h1, h2, hP, hA⟩
    have H2 := Hid.mk (And.intro hP (And.intro hA (And.intro (h1.trans H3.out.2.2.1) (h2.trans H3.out.2.2.2))))
    clear hP hA h1 h2
    (repeat' (first | (simp +contextual -dsimp only [*, CliC, Msg.cells, OpC.cells, Cfg.cells, ↓reduceIte, ↓evP, evQ, splice, Nat.reduceAdd, Nat.reduceEqDiff, Nat.reduceLeDiff, Nat.reduceMul, reduceCtorEq, Int.reduceLT, Int.reduceLE, Int.reduceGT, Int.reduceGE, Int.reduceEq, Int.reduceNeg]) | (refine condF_split (fun hc => ?_) (fun hc => ?_) <;> (try simp only [Bool.not_eq_true', Bool.not_eq_false', Bool.and_eq_true, Bool.or_eq_false_iff] at hc)) | (intro _; intros) | (refine And.intro ?_ ?_; focus (first | omega | ((repeat (first | exact Sub.refl _ | (refine Sub.drop ?_ ?_; focus (simp only [evN, *]; done)) | refine Sub.both ?_)); done) | (simp_all; done) | (simp_all; omega)))))
    exact nextF_of (ys.length - (j + 1)) (by omega) (Sub.refl _) ⟨j + 1, C', R', by omega, rfl, (by first | rfl | (simp only [↓putO_get, ↓putO_no, init_zero, init_succ, Nat.reduceEqDiff, ↓reduceIte, *]; done) | (simp only [↓putO_get, ↓putO_no, init_zero, init_succ, Nat.reduceEqDiff, ↓reduceIte, *]; rfl)), (by first | rfl | (simp only [↓putO_get, ↓putO_no, init_zero, init_succ, Nat.reduceEqDiff, ↓reduceIte, *]; done) | (simp only [↓putO_get, ↓putO_no, init_zero, init_succ, Nat.reduceEqDiff, ↓reduceIte, *]; rfl)), (by first | rfl | (simp only [↓putO_get, ↓putO_no, init_zero, init_succ, Nat.reduceEqDiff, ↓reduceIte, *]; done) | (simp only [↓putO_get, ↓putO_no, init_zero, init_succ, Nat.reduceEqDiff, ↓reduceIte, *]; rfl)), (by first | rfl | (simp only [↓putO_get, ↓putO_no, init_zero, init_succ, Nat.reduceEqDiff, ↓reduceIte, *]; done) | (simp only [↓putO_get, ↓putO_no, init_zero, init_succ, Nat.reduceEqDiff, ↓reduceIte, *]; rfl)), (by first | rfl | (simp only [↓putO_get, ↓putO_no, init_zero, init_succ, Nat.reduceEqDiff, ↓reduceIte, *]; done) | (simp only [↓putO_get, ↓putO_no, init_zero, init_succ, Nat.reduceEqDiff, ↓reduceIte, *]; rfl)), (by first | rfl | (simp only [↓putO_get, ↓putO_no, init_zero, init_succ, Nat.reduceEqDiff, ↓reduceIte, *]; done) | (simp only [↓putO_get, ↓putO_no, init_zero, init_succ, Nat.reduceEqDiff, ↓reduceIte, *]; rfl)), H2.out.2.2.1, H2.out.2.2.2, H2.out.1, H2.out.2.1⟩
  have hd : decide ((j : Int) < (ys.length : Int)) = false := by simp; omega
  have H4 := Hid.mk (And.intro (H.out.1.up H3.out.1.sub) H.out.2)
  clear H
  (repeat' (first | (simp +contextual -dsimp only [*, CliC, Msg.cells, OpC.cells, Cfg.cells, ↓reduceIte, ↓evP, evQ, splice, Nat.reduceAdd, Nat.reduceEqDiff, Nat.reduceLeDiff, Nat.reduceMul, reduceCtorEq, Int.reduceLT, Int.reduceLE, Int.reduceGT, Int.reduceGE, Int.reduceEq, Int.reduceNeg]) | (refine condF_split (fun hc => ?_) (fun hc => ?_) <;> (try simp only [Bool.not_eq_true', Bool.not_eq_false', Bool.and_eq_true, Bool.or_eq_false_iff] at hc)) | (intro _; intros) | (refine And.intro ?_ ?_; focus (first | omega | ((repeat (first | exact Sub.refl _ | (refine Sub.drop ?_ ?_; focus (simp only [evN, *]; done)) | refine Sub.both ?_)); done) | (simp_all; done) | (simp_all; omega)))))
  refine loopF_of (fun k s σ' => ∃ (i : Nat), i ≤ 64 ∧ k = 64 - i ∧ s 7 = .pointer (some ⟨g, 0, none⟩) ∧ s 8 = .pointer (some ⟨g', 0, none⟩) ∧ s 10 = .pointer (some ⟨d, 0, none⟩) ∧ s 11 = .pointer (some ⟨h', 0, none⟩) ∧ s 13 = .int .i64 i ∧ σ' = τ2) 64 (Sub.refl _)
    ⟨0, by omega, rfl, (by first | rfl | (simp only [↓putO_get, ↓putO_no, init_zero, init_succ, Nat.reduceEqDiff, ↓reduceIte, *]; done) | (simp only [↓putO_get, ↓putO_no, init_zero, init_succ, Nat.reduceEqDiff, ↓reduceIte, *]; rfl)), (by first | rfl | (simp only [↓putO_get, ↓putO_no, init_zero, init_succ, Nat.reduceEqDiff, ↓reduceIte, *]; done) | (simp only [↓putO_get, ↓putO_no, init_zero, init_succ, Nat.reduceEqDiff, ↓reduceIte, *]; rfl)), (by first | rfl | (simp only [↓putO_get, ↓putO_no, init_zero, init_succ, Nat.reduceEqDiff, ↓reduceIte, *]; done) | (simp only [↓putO_get, ↓putO_no, init_zero, init_succ, Nat.reduceEqDiff, ↓reduceIte, *]; rfl)), (by first | rfl | (simp only [↓putO_get, ↓putO_no, init_zero, init_succ, Nat.reduceEqDiff, ↓reduceIte, *]; done) | (simp only [↓putO_get, ↓putO_no, init_zero, init_succ, Nat.reduceEqDiff, ↓reduceIte, *]; rfl)), (by first | rfl | (simp only [↓putO_get, ↓putO_no, init_zero, init_succ, Nat.reduceEqDiff, ↓reduceIte, *]; done) | (simp only [↓putO_get, ↓putO_no, init_zero, init_succ, Nat.reduceEqDiff, ↓reduceIte, *]; rfl)), rfl⟩ ?_
  clear s2 s7 s8 s10 s11 s12 hd hge
  rintro k s _ ⟨i, hi, rfl, s7, s8, s10, s11, s13, rfl⟩
  rcases Nat.lt_or_ge i 64 with hlt | hge
  · have hd : decide ((i : Int) < 64) = true := by simp; omega
    have e1 : IntKind.i64.wrap ((i : Int) + 1) = ((i + 1 : Nat) : Int) := by rw [wi64 (by omega)]; rfl
    have q1 := seen9 H4.out.1 H4.out.2.1 (by omega) i i
    rw [H4.out.2.2.1, H4.out.2.2.2] at q1
    have q2 := seen9 H3.out.1 H3.out.2.1 (by omega) i i
    rw [H3.out.2.2.1, H3.out.2.2.2] at q2
    have Hq := Hid.mk (And.intro q1 q2)
    clear q1 q2
    (repeat' (first | (simp +contextual -dsimp only [*, CliC, Msg.cells, OpC.cells, Cfg.cells, ↓reduceIte, ↓evP, evQ, splice, Nat.reduceAdd, Nat.reduceEqDiff, Nat.reduceLeDiff, Nat.reduceMul, reduceCtorEq, Int.reduceLT, Int.reduceLE, Int.reduceGT, Int.reduceGE, Int.reduceEq, Int.reduceNeg]) | (refine condF_split (fun hc => ?_) (fun hc => ?_) <;> (try simp only [Bool.not_eq_true', Bool.not_eq_false', Bool.and_eq_true, Bool.or_eq_false_iff] at hc)) | (intro _; intros) | (refine And.intro ?_ ?_; focus (first | omega | ((repeat (first | exact Sub.refl _ | (refine Sub.drop ?_ ?_; focus (simp only [evN, *]; done)) | refine Sub.both ?_)); done) | (simp_all; done) | (simp_all; omega)))))
    refine callF_v Hq.out.1 ?_
    (repeat' (first | (simp +contextual -dsimp only [*, CliC, Msg.cells, OpC.cells, Cfg.cells, ↓reduceIte, ↓evP, evQ, splice, Nat.reduceAdd, Nat.reduceEqDiff, Nat.reduceLeDiff, Nat.reduceMul, reduceCtorEq, Int.reduceLT, Int.reduceLE, Int.reduceGT, Int.reduceGE, Int.reduceEq, Int.reduceNeg]) | (refine condF_split (fun hc => ?_) (fun hc => ?_) <;> (try simp only [Bool.not_eq_true', Bool.not_eq_false', Bool.and_eq_true, Bool.or_eq_false_iff] at hc)) | (intro _; intros) | (refine And.intro ?_ ?_; focus (first | omega | ((repeat (first | exact Sub.refl _ | (refine Sub.drop ?_ ?_; focus (simp only [evN, *]; done)) | refine Sub.both ?_)); done) | (simp_all; done) | (simp_all; omega)))))
    refine callF_v Hq.out.2 ?_
    (repeat' (first | (simp +contextual -dsimp only [*, CliC, Msg.cells, OpC.cells, Cfg.cells, ↓reduceIte, ↓evP, evQ, splice, Nat.reduceAdd, Nat.reduceEqDiff, Nat.reduceLeDiff, Nat.reduceMul, reduceCtorEq, Int.reduceLT, Int.reduceLE, Int.reduceGT, Int.reduceGE, Int.reduceEq, Int.reduceNeg]) | (refine condF_split (fun hc => ?_) (fun hc => ?_) <;> (try simp only [Bool.not_eq_true', Bool.not_eq_false', Bool.and_eq_true, Bool.or_eq_false_iff] at hc)) | (intro _; intros) | (refine And.intro ?_ ?_; focus (first | omega | ((repeat (first | exact Sub.refl _ | (refine Sub.drop ?_ ?_; focus (simp only [evN, *]; done)) | refine Sub.both ?_)); done) | (simp_all; done) | (simp_all; omega)))))
    exact nextF_of (64 - (i + 1)) (by omega) (Sub.refl _) ⟨i + 1, by omega, rfl, (by first | rfl | (simp only [↓putO_get, ↓putO_no, init_zero, init_succ, Nat.reduceEqDiff, ↓reduceIte, *]; done) | (simp only [↓putO_get, ↓putO_no, init_zero, init_succ, Nat.reduceEqDiff, ↓reduceIte, *]; rfl)), (by first | rfl | (simp only [↓putO_get, ↓putO_no, init_zero, init_succ, Nat.reduceEqDiff, ↓reduceIte, *]; done) | (simp only [↓putO_get, ↓putO_no, init_zero, init_succ, Nat.reduceEqDiff, ↓reduceIte, *]; rfl)), (by first | rfl | (simp only [↓putO_get, ↓putO_no, init_zero, init_succ, Nat.reduceEqDiff, ↓reduceIte, *]; done) | (simp only [↓putO_get, ↓putO_no, init_zero, init_succ, Nat.reduceEqDiff, ↓reduceIte, *]; rfl)), (by first | rfl | (simp only [↓putO_get, ↓putO_no, init_zero, init_succ, Nat.reduceEqDiff, ↓reduceIte, *]; done) | (simp only [↓putO_get, ↓putO_no, init_zero, init_succ, Nat.reduceEqDiff, ↓reduceIte, *]; rfl)), (by first | rfl | (simp only [↓putO_get, ↓putO_no, init_zero, init_succ, Nat.reduceEqDiff, ↓reduceIte, *]; done) | (simp only [↓putO_get, ↓putO_no, init_zero, init_succ, Nat.reduceEqDiff, ↓reduceIte, *]; rfl)), rfl⟩
  · have hd : decide ((i : Int) < 64) = false := by simp; omega
    (repeat' (first | (simp +contextual -dsimp only [*, CliC, Msg.cells, OpC.cells, Cfg.cells, ↓reduceIte, ↓evP, evQ, splice, Nat.reduceAdd, Nat.reduceEqDiff, Nat.reduceLeDiff, Nat.reduceMul, reduceCtorEq, Int.reduceLT, Int.reduceLE, Int.reduceGT, Int.reduceGE, Int.reduceEq, Int.reduceNeg]) | (refine condF_split (fun hc => ?_) (fun hc => ?_) <;> (try simp only [Bool.not_eq_true', Bool.not_eq_false', Bool.and_eq_true, Bool.or_eq_false_iff] at hc)) | (intro _; intros) | (refine And.intro ?_ ?_; focus (first | omega | ((repeat (first | exact Sub.refl _ | (refine Sub.drop ?_ ?_; focus (simp only [evN, *]; done)) | refine Sub.both ?_)); done) | (simp_all; done) | (simp_all; omega)))))
    exact endF_det rfl (H4.out.1.sub)
abbrev laidAll : List (String × DataW Unit) := [("math/bits.deBruijn32tab", Rows.laid_math_bits_deBruijn32tab), ("math/bits.deBruijn64tab", Rows.laid_math_bits_deBruijn64tab), ("internal/strconv.uint64pow10", Rows.laid_internal_strconv_uint64pow10), ("strconv.ErrRange", Rows.laid_strconv_ErrRange), ("strconv.ErrSyntax", Rows.laid_strconv_ErrSyntax)]
theorem gP : Tryz.prog.globalNamed "internal/strconv.uint64pow10" = some 0 := by kernel_rfl
theorem gS : Tryz.prog.globalNamed "strconv.ErrSyntax" = some 1 := by kernel_rfl
theorem gR : Tryz.prog.globalNamed "strconv.ErrRange" = some 2 := by kernel_rfl
theorem tyP : (Tryz.prog.globals[0]?).map (·.type) = some 199 := by kernel_rfl
theorem tyS : (Tryz.prog.globals[1]?).map (·.type) = some 168 := by kernel_rfl
theorem tyR : (Tryz.prog.globals[2]?).map (·.type) = some 168 := by kernel_rfl
theorem starErr : "*" ++ "errors.errorString" = "*errors.errorString" := by decide
theorem rowErr (u : TypeId) (h : Tryz.prog.typeName? 3 u = some "*errors.errorString") : u = 220 := by
  exact typeName_ptr_named (nm := "errors.errorString") (by rw [starErr]; kernel_rfl) (by kernel_rfl) (by decide) u (by rw [starErr]; exact h)
theorem glob_of_laid {W : World} (h : laidMet Tryz.prog laidAll W) : Lib.TabIs Tryz.prog W "internal/strconv.uint64pow10" .u64 Lib.pow10Tab ∧ (∃ tp p, W.var? Tryz.prog "strconv.ErrSyntax" = some #[.iface tp p]) ∧ (∃ tp p, W.var? Tryz.prog "strconv.ErrRange" = some #[.iface tp p]) := by
  have h3 := h.tail.tail
  obtain ⟨a1, s1, e1, _⟩ := laid_sentinel h3.tail gR tyR Tryz.underlying168 rowErr Tryz.underlying220 Tryz.underlying222 rfl rfl Tryz.underlying9 (by kernel_rfl) (by kernel_rfl)
  obtain ⟨a2, s2, e2, _⟩ := laid_sentinel h3.tail.tail gS tyS Tryz.underlying168 rowErr Tryz.underlying220 Tryz.underlying222 rfl rfl Tryz.underlying9 (by kernel_rfl) (by kernel_rfl)
  exact ⟨Lib.tabIs_of_head (rest := _) gP tyP Tryz.underlying199 Tryz.underlying187 (by kernel_rfl) (by kernel_rfl) h3, ⟨_, _, e2⟩, ⟨_, _, e1⟩⟩
theorem full_var {W w : World} (h : Sat (Open.full W) w) {n : String} {cs : Array Value} (hv : W.var? Tryz.prog n = some cs) : w.var? Tryz.prog n = some cs := by
  unfold World.var? at hv ⊢
  cases hg : Tryz.prog.globalNamed n with
  | none => rw [hg] at hv; cases hv
  | some g =>
    rw [hg] at hv
    simp only [Option.bind_some] at hv ⊢
    cases ho : W.heap[g]? with
    | none => rw [ho] at hv; cases hv
    | some o =>
      have : w.heap[g]? = some o := h g (.ro o) (by unfold Open.full; rw [ho]; rfl)
      rw [this]; rw [ho] at hv; exact hv
theorem glob_full {W : World} (h : laidMet Tryz.prog laidAll W) : Glob (Open.full W) := fun w hw => by
  obtain ⟨h1, ⟨_, _, h2⟩, ⟨_, _, h3⟩⟩ := glob_of_laid h
  exact ⟨full_var hw h1, ⟨_, _, full_var hw h2⟩, ⟨_, _, full_var hw h3⟩⟩
theorem bulk_one {H : Type} (d : DataW H) : 1 ≤ Rows.uptoBulk d := by
  cases d with
  | lit l => cases l <;> simp [Rows.uptoBulk]
  | nil => simp [Rows.uptoBulk]
  | ptr d => simp [Rows.uptoBulk]
  | slice elems spare => simp [Rows.uptoBulk]
  | agg parts => simp [Rows.uptoBulk]
  | iface t d => simp [Rows.uptoBulk]
  | map entries => simp [Rows.uptoBulk]
  | held h => simp [Rows.uptoBulk]
theorem bulk_len {H : Type} : ∀ l : List (DataW H), l.length ≤ Rows.uptoBulkAll l
  | [] => by simp [Rows.uptoBulkAll]
  | x :: r => by have := bulk_one x; have := bulk_len r; simp only [Rows.uptoBulkAll, List.length_cons]; omega
theorem slice_bulk {H : Type} {enc : TypeId × Value → H} {P : Program} {w : World} {base : Nat} {sp : Nat → Bool} {held : Bool} {t e : TypeId} {A : Option Addr} {n c : Nat} {d : DataW H} {p : List MemPlace}
    (ht : P.underlying t = some (.slice e)) (h : DataW.Trod enc P w base sp held t (.slice A n c) d p) : n ≤ Rows.uptoBulk d := by
  obtain ⟨fuel, hf⟩ := h
  rcases DataW.trod_slice ht hf with ⟨h1, h2⟩ | ⟨a, len, cap, elems, rest, m, _, h1, h2, _, _, _, hl, _, _, _⟩
  · simp [Value.cells] at h1
    rw [h1.2.1]; exact Nat.zero_le _
  · simp [Value.cells] at h1
    obtain ⟨rfl, rfl, rfl⟩ := h1
    cases h2
    have := bulk_len (elems.map (·.1))
    rw [List.length_map, hl] at this
    simp only [Rows.uptoBulk]
    omega
end Go.Proofs.YtaoafjlocjjbbaaGreatDoor
