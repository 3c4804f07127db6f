/- Values of struct types, opened as structures of mine. No condition. -/
import Derived.Test.YtpnghjmphbhkjaaX18
import Derived.Test.YtpnghjmphbhkjaaSpO
import Derived.Test.YtpnghjmphbhkjaaProg
import Derived.KernelRfl
namespace Go.Proofs.Ytpnghjmphbhkjaa
open Go.RowKit Go.Sp Go.Sp.Open
set_option linter.unusedVariables false
theorem opensT31 : Opens Try.prog 31 (Kd.pair Kd.bool Kd.string) (fun (x : Bool × ByteArray) => (True ∧ ByteArray.size x.2 ≤ 140737488351232)) := by
  refine opens_struct Try.underlying31 (by kernel_rfl) ?_
  show OpensF Try.prog (_ :: _) 0 (Kd.pair Kd.bool Kd.string) _
  refine opensF_cons (G := fun (z : Bool) => True) (G' := (fun (z : ByteArray) => ByteArray.size z ≤ 140737488351232)) rfl (by kernel_rfl) (opens_bool Try.underlying4) ?_
  exact opensF_one rfl (by kernel_rfl) (opens_string Try.underlying9)
theorem opensT33 : Opens Try.prog 33 (Kd.pair Kd.string (Kd.pair Kd.bool Kd.string)) (fun (x : ByteArray × (Bool × ByteArray)) => (ByteArray.size x.1 ≤ 140737488351232 ∧ (True ∧ ByteArray.size x.2.2 ≤ 140737488351232))) := by
  refine opens_struct Try.underlying33 (by kernel_rfl) ?_
  show OpensF Try.prog (_ :: _) 0 (Kd.pair Kd.string (Kd.pair Kd.bool Kd.string)) _
  refine opensF_cons (G := fun (z : ByteArray) => ByteArray.size z ≤ 140737488351232) (G' := (fun (z : (Bool × ByteArray)) => (True ∧ ByteArray.size z.2 ≤ 140737488351232))) rfl (by kernel_rfl) (opens_string Try.underlying9) ?_
  exact opensF_one rfl (by kernel_rfl) opensT31
theorem opens_Wr : Opens Try.prog 33 (Kd.of 3 Wr.cells) (fun _ => True) := by
  refine opens_iso (fun (x : ByteArray × (Bool × ByteArray)) => (⟨x.1, x.2.1, x.2.2⟩ : Wr)) (fun w x cs h => ?_) (fun x h => ?_) opensT33
  · obtain ⟨_, _, rfl, rfl, ⟨_, _, rfl, rfl, rfl⟩⟩ := h; rfl
  · trivial
end Go.Proofs.Ytpnghjmphbhkjaa
