/- Numbers as texts, texts as numbers: the library's contracts over known heaps. -/
import Derived.Test.YtaoafjlocjjbbaaDoorC2
import Derived.Test.YtaoafjlocjjbbaaDoorC12
import Derived.Test.YtaoafjlocjjbbaaDoorSpL
namespace Go.Proofs.YtaoafjlocjjbbaaDoor
open Go.Sp
set_option linter.unusedSimpArgs false
set_option linter.unusedVariables false
/-- What the library's variables hold. -/
def Glob (σ : Hp) : Prop := ∀ w, Sat σ w → Lib.TabIs Tryd.prog w "internal/strconv.uint64pow10" .u64 Lib.pow10Tab ∧ (∃ tp p, w.var? Tryd.prog "strconv.ErrSyntax" = some #[.iface tp p]) ∧ (∃ tp p, w.var? Tryd.prog "strconv.ErrRange" = some #[.iface tp p])
theorem Glob.sub {σ σ' : Hp} (h : Glob σ) (s : Sub σ σ') : Glob σ' := fun w hw => h w (hw.sub s)
def deci (n : Int) : ByteArray := ⟨(Lib.itoa n).toArray⟩
theorem format49 {σ : Hp} (hG : Glob σ) (n : Int) (h0 : -9223372036854775808 ≤ n) (h1 : n ≤ 9223372036854775807) : ACalls Tryd.prog 49 #[.int .i64 n, .int .i64 10] σ fun v σ' => v = .string (deci n) ∧ σ' = σ :=
  acalls_below fun w hw => (Any.strconv_FormatInt_10 Tryd.laysM173 n h0 h1 w (hG w hw).1).mono fun e w' ⟨he, k, os, hw'⟩ =>
    ⟨_, he, rfl, by subst hw'; exact ⟨rfl, rfl, rfl, by simp [Sort.grow], fun i hi => by simp [Sort.grow, Array.getElem?_append, hi]⟩⟩
theorem format49s {σ : Hp} (n : Nat) (h : n < 100) : ACalls Tryd.prog 49 #[.int .i64 n, .int .i64 10] σ fun v σ' => v = .string (deci n) ∧ σ' = σ :=
  acalls_below fun w hw => (Any.strconv_FormatInt_10_small Tryd.laysS173 n h w).mono fun e w' ⟨he, hw'⟩ =>
    ⟨_, he, by simp [deci, Lib.itoa], by subst hw'; exact RowKit.Below.refl _ _⟩
def Pars (s : ByteArray) (v : Value) : Prop := ∃ n e, v = .tuple #[.int .i64 n, e] ∧ ((Lib.parseIntB 64 s.data.toList = .ok n ∧ e = .nilIface) ∨ ((∀ m, Lib.parseIntB 64 s.data.toList ≠ .ok m) ∧ ∃ T p, e = .iface T p))
theorem parse51 {σ : Hp} (hG : Glob σ) (s : ByteArray) (h1 : s.size ≤ 281474976710656) : ACalls Tryd.prog 51 #[.string s, .int .i64 10, .int .i64 64] σ fun v σ' => Pars s v ∧ σ' = σ :=
  acalls_below fun w hw => by
    cases h : Lib.parseIntB 64 s.data.toList
    · rename_i n
      refine (Any.strconv_ParseInt_10_at64_ok Tryd.laysC174 s (by omega) n h w).mono fun e w' ⟨he, hw'⟩ => ⟨_, he, ⟨_, _, rfl, .inl ⟨h, rfl⟩⟩, ?_⟩
      rcases hw' with rfl | ⟨t, rfl⟩
      · exact RowKit.Below.refl _ _
      · exact Lib.bytesWorld_below _ _ _
    · obtain ⟨tp, p, hv⟩ := (hG w hw).2.1
      exact (Any.strconv_ParseInt_10_at64_syntax_var Tryd.laysC174 s h1 h tp p w hv).mono fun e w' ⟨N, he, _, _, hb⟩ => ⟨_, he, ⟨_, _, rfl, .inr ⟨fun m e => (by rw [h] at e; cases e), _, _, rfl⟩⟩, hb⟩
    · obtain ⟨tp, p, hv⟩ := (hG w hw).2.2
      exact (Any.strconv_ParseInt_10_at64_range_var Tryd.laysC174 s h1 h tp p w hv).mono fun e w' ⟨N, he, _, _, hb⟩ => ⟨_, he, ⟨_, _, rfl, .inr ⟨fun m e => (by rw [h] at e; cases e), _, _, rfl⟩⟩, hb⟩
end Go.Proofs.YtaoafjlocjjbbaaDoor
