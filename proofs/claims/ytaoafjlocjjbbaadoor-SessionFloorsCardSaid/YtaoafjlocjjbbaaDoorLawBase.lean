/- What the row's list of variables gives. -/
import Derived.Test.YtaoafjlocjjbbaaDoorC13
import Derived.Test.YtaoafjlocjjbbaaDoorRows
import Derived.Test.YtaoafjlocjjbbaaDoorSpO
import Derived.Lib.LaidTab
import Derived.Stop.LaidErr
namespace Go.Proofs.YtaoafjlocjjbbaaDoor
open Go.Sp
set_option linter.unusedVariables false
abbrev laidAll : List (String × DataW Unit) := [("math/bits.deBruijn32tab", Rows.laid_math_bits_deBruijn32tab), ("math/bits.deBruijn64tab", Rows.laid_math_bits_deBruijn64tab), ("internal/strconv.uint64pow10", Rows.laid_internal_strconv_uint64pow10), ("strconv.ErrRange", Rows.laid_strconv_ErrRange), ("strconv.ErrSyntax", Rows.laid_strconv_ErrSyntax)]
theorem gP : Tryd.prog.globalNamed "internal/strconv.uint64pow10" = some 0 := by kernel_rfl
theorem gS : Tryd.prog.globalNamed "strconv.ErrSyntax" = some 1 := by kernel_rfl
theorem gR : Tryd.prog.globalNamed "strconv.ErrRange" = some 2 := by kernel_rfl
theorem tyP : (Tryd.prog.globals[0]?).map (·.type) = some 182 := by kernel_rfl
theorem tyS : (Tryd.prog.globals[1]?).map (·.type) = some 111 := by kernel_rfl
theorem tyR : (Tryd.prog.globals[2]?).map (·.type) = some 111 := by kernel_rfl
theorem starErr : "*" ++ "errors.errorString" = "*errors.errorString" := by decide
theorem rowErr (u : TypeId) (h : Tryd.prog.typeName? 3 u = some "*errors.errorString") : u = 197 := by
  exact typeName_ptr_named (nm := "errors.errorString") (by rw [starErr]; kernel_rfl) (by kernel_rfl) (by decide) u (by rw [starErr]; exact h)
theorem glob_of_laid {W : World} (h : laidMet Tryd.prog laidAll W) : Lib.TabIs Tryd.prog W "internal/strconv.uint64pow10" .u64 Lib.pow10Tab ∧ (∃ tp p, W.var? Tryd.prog "strconv.ErrSyntax" = some #[.iface tp p]) ∧ (∃ tp p, W.var? Tryd.prog "strconv.ErrRange" = some #[.iface tp p]) := by
  have h3 := h.tail.tail
  obtain ⟨a1, s1, e1, _⟩ := laid_sentinel h3.tail gR tyR Tryd.underlying111 rowErr Tryd.underlying197 Tryd.underlying199 rfl rfl Tryd.underlying9 (by kernel_rfl) (by kernel_rfl)
  obtain ⟨a2, s2, e2, _⟩ := laid_sentinel h3.tail.tail gS tyS Tryd.underlying111 rowErr Tryd.underlying197 Tryd.underlying199 rfl rfl Tryd.underlying9 (by kernel_rfl) (by kernel_rfl)
  exact ⟨Lib.tabIs_of_head (rest := _) gP tyP Tryd.underlying182 Tryd.underlying161 (by kernel_rfl) (by kernel_rfl) h3, ⟨_, _, e2⟩, ⟨_, _, e1⟩⟩
theorem full_var {W w : World} (h : Sat (Open.full W) w) {n : String} {cs : Array Value} (hv : W.var? Tryd.prog n = some cs) : w.var? Tryd.prog n = some cs := by
  unfold World.var? at hv ⊢
  cases hg : Tryd.prog.globalNamed n with
  | none => rw [hg] at hv; cases hv
  | some g =>
    rw [hg] at hv
    simp only [Option.bind_some] at hv ⊢
    cases ho : W.heap[g]? with
    | none => rw [ho] at hv; cases hv
    | some o =>
      have : w.heap[g]? = some o := h g (.ro o) (by unfold Open.full; rw [ho]; rfl)
      rw [this]; rw [ho] at hv; exact hv
theorem glob_full {W : World} (h : laidMet Tryd.prog laidAll W) : Glob (Open.full W) := fun w hw => by
  obtain ⟨h1, ⟨_, _, h2⟩, ⟨_, _, h3⟩⟩ := glob_of_laid h
  exact ⟨full_var hw h1, ⟨_, _, full_var hw h2⟩, ⟨_, _, full_var hw h3⟩⟩
end Go.Proofs.YtaoafjlocjjbbaaDoor
