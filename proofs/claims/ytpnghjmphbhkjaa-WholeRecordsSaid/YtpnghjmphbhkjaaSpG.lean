/- Words for calls, frames and loops over known heaps. -/
import Derived.Test.YtpnghjmphbhkjaaSpE
namespace Go.Sp
open Go.RowKit
set_option linter.unusedSimpArgs false
set_option linter.unusedVariables false
variable {P : Program}
theorem ex_bool (b : Bool) (A B : Prop) : (∃ t, Value.bool b = Value.bool t ∧ (if t = true then A else B)) = (if b = true then A else B) := by
  apply propext; constructor
  · rintro ⟨t, h, k⟩; cases h; exact k
  · intro h; exact ⟨b, rfl, h⟩
theorem if_bool (b : Bool) {α : Type} (A B : α) : (if b = true then A else B) = (match b with | true => A | false => B) := by cases b <;> rfl
theorem onPtr_nil (k : Nat → Nat → Prop) : onPtr (.pointer none) k = False := rfl
/-- A call by its contract. -/
theorem call_k {f : FuncId} {args : Array Value} {σ : Hp} {R K : Value → Hp → Prop} (h : ACalls P f args σ R) (hk : ∀ v σ', R v σ' → K v σ') : ∃ R, ACalls P f args σ R ∧ ∀ v σ', R v σ' → (∃ w, Sat σ' w) → K v σ' :=
  ⟨R, h, fun v σ' hr _ => hk v σ' hr⟩
/-- A call that only answers. -/
theorem call_v {f : FuncId} {args : Array Value} {σ : Hp} {u : Value} {K : Value → Hp → Prop} (h : ACalls P f args σ fun v σ' => v = u ∧ σ' = σ) (hk : K u σ) : ∃ R, ACalls P f args σ R ∧ ∀ v σ', R v σ' → (∃ w, Sat σ' w) → K v σ' :=
  ⟨_, h, fun v σ' hr _ => by obtain ⟨rfl, rfl⟩ := hr; exact hk⟩
/-- As above, in a region that draws. -/
theorem call_c {f : FuncId} {args : Array Value} {σ : Hp} {u : Value} {K : Value → Prop} (h : ACalls P f args σ fun v σ' => v = u ∧ σ' = σ) (hk : K u) : ∃ v, (ACalls P f args σ fun v' σ' => v' = v ∧ σ' = σ) ∧ K v := ⟨u, h, hk⟩
/-- The answer, as the function's end asks it. -/
theorem fin_of {σ τ : Hp} {A : Prop} (h : Sub σ τ) (ha : A) : ∃ σ', Sub σ' τ ∧ A ∧ σ' = σ := ⟨σ, h, ha, rfl⟩
theorem fin_at {τ : Hp} {A : Hp → Prop} (ha : A τ) : ∃ σ', Sub σ' τ ∧ A σ' := ⟨τ, Sub.refl _, ha⟩
theorem fin_sub {σ τ : Hp} {A : Hp → Prop} (h : Sub σ τ) (ha : A σ) : ∃ σ', Sub σ' τ ∧ A σ' := ⟨σ, h, ha⟩
/-- A block that the call does not know stays known. -/
theorem ACalls.beside {f : FuncId} {args : Array Value} {σ : Hp} {l : Nat} {Y : Blk} {R : Value → Hp → Prop} (hl : σ l = none) (h : ACalls P f args σ R) :
    ACalls P f args (upd σ l Y) fun v σ'' => ∃ σ', R v σ' ∧ σ' l = none ∧ σ'' = upd σ' l Y := fun w hs => by
  have hs0 : Sat σ w := fun b o hb => hs b o (by rw [upd_ne _ _ (fun e => by subst e; rw [hl] at hb; cases hb)]; exact hb)
  refine (h w hs0).mono ?_
  rintro e w' ⟨v, σ', he, h1, h2, h3⟩
  have hlt : l < w.heap.size := hs.lt (by rw [upd_same]; simp)
  have hn : σ' l = none := h2.know l hlt hl
  refine ⟨v, upd σ' l Y, he, fun b o hb => ?_, ⟨h2.os, h2.tape, h2.output, h2.size, fun k hk hkn => ?_, fun k hk hkn => ?_⟩, σ', h3, hn, rfl⟩
  · by_cases e : b = l
    · subst e
      rw [h2.block b hlt hl]
      rw [upd_same] at hb; cases hb
      exact hs b Y (upd_same _ _ _)
    · rw [upd_ne _ _ e] at hb; exact h1 b o hb
  · have : k ≠ l := fun e => by subst e; rw [upd_same] at hkn; cases hkn
    rw [upd_ne _ _ this] at hkn
    exact h2.block k hk hkn
  · have : k ≠ l := fun e => by subst e; rw [upd_same] at hkn; cases hkn
    rw [upd_ne _ _ this] at hkn ⊢
    exact h2.know k hk hkn
/-- A block overwritten. -/
def set (σ : Hp) (b : Nat) (o : Blk) : Hp := upd σ b o
theorem set_same (σ : Hp) (b : Nat) (o o' : Blk) : set (upd σ b o) b o' = upd σ b o' := upd_upd _ _ _ _
theorem set_ne (σ : Hp) {b c : Nat} (o o' : Blk) (h : ¬ b = c) : set (upd σ c o) b o' = upd (set σ b o') c o := (upd_comm _ _ _ (Ne.symm h))
theorem none_set (σ : Hp) (a b : Nat) (o : Blk) : (set σ a o b = none) ↔ ((¬ b = a ∧ ¬ a = b) ∧ σ b = none) := none_upd σ a b o
theorem evN : type_of% (And.intro @none_upd (And.intro @none_set (And.intro @not_false_eq_true (And.intro @true_and @and_true)))) := And.intro @none_upd (And.intro @none_set (And.intro @not_false_eq_true (And.intro @true_and @and_true)))
theorem set_set (σ : Hp) (b : Nat) (o o' : Blk) : set (set σ b o) b o' = set σ b o' := upd_upd _ _ _ _
theorem Sub.set {σ τ : Hp} (h : Sub σ τ) {g : Nat} (hg : σ g = none) (o : Blk) : Sub σ (set τ g o) := Sub.drop hg h
theorem upd_at (σ : Hp) (b : Nat) (o : Blk) (k : Nat) : upd σ b o k = if k = b then some o else σ k := rfl
theorem set_at (σ : Hp) (b : Nat) (o : Blk) (k : Nat) : set σ b o k = if k = b then some o else σ k := rfl
end Go.Sp
