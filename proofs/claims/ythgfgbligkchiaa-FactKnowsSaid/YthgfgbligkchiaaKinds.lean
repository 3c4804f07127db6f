/- Structs as kinds, each with its opener: Value, Pin, Fact, Config. No condition. -/
import Derived.Test.YthgfgbligkchiaaOpen
import Derived.Test.YthgfgbligkchiaaRows
import Derived.KernelRfl
namespace Go.Proofs.Ythgfgbligkchiaa.Structs
open Go.RowKit Go.Proofs.YthgfgbligkchiaaW.PrintWords Go.Proofs.Ythgfgbligkchiaa.Open
set_option linter.unusedVariables false
abbrev TValue := Bool × ByteArray
def kValue : Kd TValue := (Kd.pair Kd.bool Kd.string)
def GValue (x : TValue) : Prop := True ∧ ByteArray.size x.2 ≤ 140737488351232
theorem opens_Value : Opens Try.prog 36 kValue GValue := by
  refine opens_struct Try.underlying36 (by kernel_rfl) ?_
  show OpensF Try.prog (_ :: _) 0 (Kd.pair Kd.bool Kd.string) _
  refine opensF_cons (G := fun (z : Bool) => True) (G' := (fun (z : ByteArray) => ByteArray.size z ≤ 140737488351232)) rfl (by kernel_rfl) (opens_bool Try.underlying4) ?_
  exact opensF_one rfl (by kernel_rfl) (opens_string Try.underlying9)
theorem kValue_open {w : World} {x : TValue} {cs : List Value} (h : kValue.K w x cs) : cs = [.bool x.1, .string x.2] := by
  obtain ⟨_, _, rfl, rfl, rfl⟩ := h
  rfl
theorem kValue_mk (w : World) (x : TValue) : kValue.K w x [.bool x.1, .string x.2] := by
  exact ⟨[.bool x.1], [.string x.2], rfl, rfl, rfl⟩
abbrev TPin := Int × Int
def kPin : Kd TPin := (Kd.pair (Kd.int .i64) (Kd.int .i64))
def GPin (x : TPin) : Prop := (Lit.int .i64 x.1).wf = true ∧ (Lit.int .i64 x.2).wf = true
theorem opens_Pin : Opens Try.prog 40 kPin GPin := by
  refine opens_struct Try.underlying40 (by kernel_rfl) ?_
  show OpensF Try.prog (_ :: _) 0 (Kd.pair (Kd.int .i64) (Kd.int .i64)) _
  refine opensF_cons (G := fun (z : Int) => (Lit.int .i64 z).wf = true) (G' := (fun (z : Int) => (Lit.int .i64 z).wf = true)) rfl (by kernel_rfl) (opens_int Try.underlying2) ?_
  exact opensF_one rfl (by kernel_rfl) (opens_int Try.underlying2)
theorem kPin_open {w : World} {x : TPin} {cs : List Value} (h : kPin.K w x cs) : cs = [.int .i64 x.1, .int .i64 x.2] := by
  obtain ⟨_, _, rfl, rfl, rfl⟩ := h
  rfl
theorem kPin_mk (w : World) (x : TPin) : kPin.K w x [.int .i64 x.1, .int .i64 x.2] := by
  exact ⟨[.int .i64 x.1], [.int .i64 x.2], rfl, rfl, rfl⟩
abbrev TFact := ByteArray × TValue × Int × Int
def kFact : Kd TFact := (Kd.pair Kd.string (Kd.pair kValue (Kd.pair (Kd.int .i64) (Kd.int .i64))))
def GFact (x : TFact) : Prop := ByteArray.size x.1 ≤ 140737488351232 ∧ GValue x.2.1 ∧ (Lit.int .i64 x.2.2.1).wf = true ∧ (Lit.int .i64 x.2.2.2).wf = true
theorem opens_Fact : Opens Try.prog 38 kFact GFact := by
  refine opens_struct Try.underlying38 (by kernel_rfl) ?_
  show OpensF Try.prog (_ :: _) 0 (Kd.pair Kd.string (Kd.pair kValue (Kd.pair (Kd.int .i64) (Kd.int .i64)))) _
  refine opensF_cons (G := fun (z : ByteArray) => ByteArray.size z ≤ 140737488351232) (G' := (fun (z : TValue × Int × Int) => GValue z.1 ∧ (Lit.int .i64 z.2.1).wf = true ∧ (Lit.int .i64 z.2.2).wf = true)) rfl (by kernel_rfl) (opens_string Try.underlying9) ?_
  refine opensF_cons (G := fun (z : TValue) => GValue z) (G' := (fun (z : Int × Int) => (Lit.int .i64 z.1).wf = true ∧ (Lit.int .i64 z.2).wf = true)) rfl (by kernel_rfl) opens_Value ?_
  refine opensF_cons (G := fun (z : Int) => (Lit.int .i64 z).wf = true) (G' := (fun (z : Int) => (Lit.int .i64 z).wf = true)) rfl (by kernel_rfl) (opens_int Try.underlying2) ?_
  exact opensF_one rfl (by kernel_rfl) (opens_int Try.underlying2)
theorem kFact_open {w : World} {x : TFact} {cs : List Value} (h : kFact.K w x cs) : cs = [.string x.1, .bool x.2.1.1, .string x.2.1.2, .int .i64 x.2.2.1, .int .i64 x.2.2.2] := by
  obtain ⟨_, _, rfl, rfl, ⟨_, _, rfl, ⟨_, _, rfl, rfl, rfl⟩, ⟨_, _, rfl, rfl, rfl⟩⟩⟩ := h
  rfl
theorem kFact_mk (w : World) (x : TFact) : kFact.K w x [.string x.1, .bool x.2.1.1, .string x.2.1.2, .int .i64 x.2.2.1, .int .i64 x.2.2.2] := by
  exact ⟨[.string x.1], [.bool x.2.1.1, .string x.2.1.2, .int .i64 x.2.2.1, .int .i64 x.2.2.2], rfl, rfl, ⟨[.bool x.2.1.1, .string x.2.1.2], [.int .i64 x.2.2.1, .int .i64 x.2.2.2], rfl, ⟨[.bool x.2.1.1], [.string x.2.1.2], rfl, rfl, rfl⟩, ⟨[.int .i64 x.2.2.1], [.int .i64 x.2.2.2], rfl, rfl, rfl⟩⟩⟩
abbrev TConfig := Int × Int × Int × Int × Int × Int × Int × Int
def kConfig : Kd TConfig := (Kd.pair (Kd.int .i64) (Kd.pair (Kd.int .i64) (Kd.pair (Kd.int .i64) (Kd.pair (Kd.int .i64) (Kd.pair (Kd.int .i64) (Kd.pair (Kd.int .i64) (Kd.pair (Kd.int .i64) (Kd.int .i64))))))))
def GConfig (x : TConfig) : Prop := (Lit.int .i64 x.1).wf = true ∧ (Lit.int .i64 x.2.1).wf = true ∧ (Lit.int .i64 x.2.2.1).wf = true ∧ (Lit.int .i64 x.2.2.2.1).wf = true ∧ (Lit.int .i64 x.2.2.2.2.1).wf = true ∧ (Lit.int .i64 x.2.2.2.2.2.1).wf = true ∧ (Lit.int .i64 x.2.2.2.2.2.2.1).wf = true ∧ (Lit.int .i64 x.2.2.2.2.2.2.2).wf = true
theorem opens_Config : Opens Try.prog 58 kConfig GConfig := by
  refine opens_struct Try.underlying58 (by kernel_rfl) ?_
  show OpensF Try.prog (_ :: _) 0 (Kd.pair (Kd.int .i64) (Kd.pair (Kd.int .i64) (Kd.pair (Kd.int .i64) (Kd.pair (Kd.int .i64) (Kd.pair (Kd.int .i64) (Kd.pair (Kd.int .i64) (Kd.pair (Kd.int .i64) (Kd.int .i64)))))))) _
  refine opensF_cons (G := fun (z : Int) => (Lit.int .i64 z).wf = true) (G' := (fun (z : Int × Int × Int × Int × Int × Int × Int) => (Lit.int .i64 z.1).wf = true ∧ (Lit.int .i64 z.2.1).wf = true ∧ (Lit.int .i64 z.2.2.1).wf = true ∧ (Lit.int .i64 z.2.2.2.1).wf = true ∧ (Lit.int .i64 z.2.2.2.2.1).wf = true ∧ (Lit.int .i64 z.2.2.2.2.2.1).wf = true ∧ (Lit.int .i64 z.2.2.2.2.2.2).wf = true)) rfl (by kernel_rfl) (opens_int Try.underlying3) ?_
  refine opensF_cons (G := fun (z : Int) => (Lit.int .i64 z).wf = true) (G' := (fun (z : Int × Int × Int × Int × Int × Int) => (Lit.int .i64 z.1).wf = true ∧ (Lit.int .i64 z.2.1).wf = true ∧ (Lit.int .i64 z.2.2.1).wf = true ∧ (Lit.int .i64 z.2.2.2.1).wf = true ∧ (Lit.int .i64 z.2.2.2.2.1).wf = true ∧ (Lit.int .i64 z.2.2.2.2.2).wf = true)) rfl (by kernel_rfl) (opens_int Try.underlying3) ?_
  refine opensF_cons (G := fun (z : Int) => (Lit.int .i64 z).wf = true) (G' := (fun (z : Int × Int × Int × Int × Int) => (Lit.int .i64 z.1).wf = true ∧ (Lit.int .i64 z.2.1).wf = true ∧ (Lit.int .i64 z.2.2.1).wf = true ∧ (Lit.int .i64 z.2.2.2.1).wf = true ∧ (Lit.int .i64 z.2.2.2.2).wf = true)) rfl (by kernel_rfl) (opens_int Try.underlying3) ?_
  refine opensF_cons (G := fun (z : Int) => (Lit.int .i64 z).wf = true) (G' := (fun (z : Int × Int × Int × Int) => (Lit.int .i64 z.1).wf = true ∧ (Lit.int .i64 z.2.1).wf = true ∧ (Lit.int .i64 z.2.2.1).wf = true ∧ (Lit.int .i64 z.2.2.2).wf = true)) rfl (by kernel_rfl) (opens_int Try.underlying3) ?_
  refine opensF_cons (G := fun (z : Int) => (Lit.int .i64 z).wf = true) (G' := (fun (z : Int × Int × Int) => (Lit.int .i64 z.1).wf = true ∧ (Lit.int .i64 z.2.1).wf = true ∧ (Lit.int .i64 z.2.2).wf = true)) rfl (by kernel_rfl) (opens_int Try.underlying3) ?_
  refine opensF_cons (G := fun (z : Int) => (Lit.int .i64 z).wf = true) (G' := (fun (z : Int × Int) => (Lit.int .i64 z.1).wf = true ∧ (Lit.int .i64 z.2).wf = true)) rfl (by kernel_rfl) (opens_int Try.underlying3) ?_
  refine opensF_cons (G := fun (z : Int) => (Lit.int .i64 z).wf = true) (G' := (fun (z : Int) => (Lit.int .i64 z).wf = true)) rfl (by kernel_rfl) (opens_int Try.underlying3) ?_
  exact opensF_one rfl (by kernel_rfl) (opens_int Try.underlying3)
theorem kConfig_open {w : World} {x : TConfig} {cs : List Value} (h : kConfig.K w x cs) : cs = [.int .i64 x.1, .int .i64 x.2.1, .int .i64 x.2.2.1, .int .i64 x.2.2.2.1, .int .i64 x.2.2.2.2.1, .int .i64 x.2.2.2.2.2.1, .int .i64 x.2.2.2.2.2.2.1, .int .i64 x.2.2.2.2.2.2.2] := by
  obtain ⟨_, _, rfl, rfl, ⟨_, _, rfl, rfl, ⟨_, _, rfl, rfl, ⟨_, _, rfl, rfl, ⟨_, _, rfl, rfl, ⟨_, _, rfl, rfl, ⟨_, _, rfl, rfl, rfl⟩⟩⟩⟩⟩⟩⟩ := h
  rfl
theorem kConfig_mk (w : World) (x : TConfig) : kConfig.K w x [.int .i64 x.1, .int .i64 x.2.1, .int .i64 x.2.2.1, .int .i64 x.2.2.2.1, .int .i64 x.2.2.2.2.1, .int .i64 x.2.2.2.2.2.1, .int .i64 x.2.2.2.2.2.2.1, .int .i64 x.2.2.2.2.2.2.2] := by
  exact ⟨[.int .i64 x.1], [.int .i64 x.2.1, .int .i64 x.2.2.1, .int .i64 x.2.2.2.1, .int .i64 x.2.2.2.2.1, .int .i64 x.2.2.2.2.2.1, .int .i64 x.2.2.2.2.2.2.1, .int .i64 x.2.2.2.2.2.2.2], rfl, rfl, ⟨[.int .i64 x.2.1], [.int .i64 x.2.2.1, .int .i64 x.2.2.2.1, .int .i64 x.2.2.2.2.1, .int .i64 x.2.2.2.2.2.1, .int .i64 x.2.2.2.2.2.2.1, .int .i64 x.2.2.2.2.2.2.2], rfl, rfl, ⟨[.int .i64 x.2.2.1], [.int .i64 x.2.2.2.1, .int .i64 x.2.2.2.2.1, .int .i64 x.2.2.2.2.2.1, .int .i64 x.2.2.2.2.2.2.1, .int .i64 x.2.2.2.2.2.2.2], rfl, rfl, ⟨[.int .i64 x.2.2.2.1], [.int .i64 x.2.2.2.2.1, .int .i64 x.2.2.2.2.2.1, .int .i64 x.2.2.2.2.2.2.1, .int .i64 x.2.2.2.2.2.2.2], rfl, rfl, ⟨[.int .i64 x.2.2.2.2.1], [.int .i64 x.2.2.2.2.2.1, .int .i64 x.2.2.2.2.2.2.1, .int .i64 x.2.2.2.2.2.2.2], rfl, rfl, ⟨[.int .i64 x.2.2.2.2.2.1], [.int .i64 x.2.2.2.2.2.2.1, .int .i64 x.2.2.2.2.2.2.2], rfl, rfl, ⟨[.int .i64 x.2.2.2.2.2.2.1], [.int .i64 x.2.2.2.2.2.2.2], rfl, rfl, rfl⟩⟩⟩⟩⟩⟩⟩
end Go.Proofs.Ythgfgbligkchiaa.Structs
