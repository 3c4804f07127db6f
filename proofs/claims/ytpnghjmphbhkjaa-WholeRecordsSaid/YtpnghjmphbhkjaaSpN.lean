/- What a call may turn, told by the kind of block. -/
import Derived.Test.YtpnghjmphbhkjaaSpM
namespace Go.Sp
set_option linter.unusedSimpArgs false
set_option linter.unusedVariables false
/-- What was known stays, but for blocks of the kind p. -/
def KSame (p : Blk → Prop) (σ σ' : Hp) : Prop := ∀ k o, σ k = some o → ¬ p o → σ' k = some o
def isCells (t : TypeId) : Blk → Prop | .cells _ t' => t' = t | _ => False
def isRow (E : TypeId) : Blk → Prop | .row _ _ E' => E' = E | _ => False
def isMp : Blk → Prop | .mp _ => True | _ => False
def isIm : Blk → Prop | .im _ => True | _ => False
def noneK : Blk → Prop := fun _ => False
theorem KSame.refl (p : Blk → Prop) (σ : Hp) : KSame p σ σ := fun _ _ h _ => h
theorem KSame.trans {p : Blk → Prop} {σ σ1 σ2 : Hp} (h : KSame p σ σ1) (k : KSame p σ1 σ2) : KSame p σ σ2 := fun i o ho hp => k i o (h i o ho hp) hp
theorem KSame.mono {p q : Blk → Prop} {σ σ' : Hp} (h : KSame p σ σ') (hpq : ∀ o, p o → q o) : KSame q σ σ' := fun k o ho hq => h k o ho fun hp => hq (hpq o hp)
theorem KSame.ofSame {p : Blk → Prop} {F : Nat → Prop} {σ σ' : Hp} (h : Same F σ σ') (hF : ∀ k o, F k → σ k = some o → p o) : KSame p σ σ' := fun k o ho hp => by
  rw [h k (by rw [ho]; simp) (fun f => hp (hF k o f ho))]; exact ho
theorem KSame.made {p : Blk → Prop} {σ σ' : Hp} (h : Same (fun _ => False) σ σ') : KSame p σ σ' := KSame.ofSame h fun _ _ f => f.elim
theorem KSame.new {p : Blk → Prop} {σ σ' : Hp} (h : KSame p σ σ') {b : Nat} (hb : σ b = none) (o : Blk) : KSame p σ (upd σ' b o) := fun k o' ho hp => by
  rw [upd_ne _ _ (fun e => by subst e; rw [hb] at ho; cases ho)]; exact h k o' ho hp
theorem KSame.turn {p : Blk → Prop} {σ σ' : Hp} (h : KSame p σ σ') {b : Nat} {X : Blk} (hb : σ b = some X) (hX : p X) (o : Blk) : KSame p σ (upd σ' b o) := fun k o' ho hp => by
  rw [upd_ne _ _ (fun e => by subst e; rw [hb] at ho; cases ho; exact hp hX)]; exact h k o' ho hp
theorem KSame.both {p : Blk → Prop} {σ σ' : Hp} (h : KSame p σ σ') {b : Nat} {X : Blk} (hX : p X) (Y : Blk) : KSame p (upd σ b X) (upd σ' b Y) := fun k o ho hp => by
  by_cases e : k = b
  · subst e; rw [upd_same] at ho; cases ho; exact absurd hX hp
  · rw [upd_ne _ _ e] at ho ⊢; exact h k o ho hp
/-- A heap of blocks that are only read. -/
def RoHeap (σ : Hp) : Prop := ∀ k o, σ k = some o → ∃ x, o = .ro x
theorem KSame.sub {p : Blk → Prop} {σ0 σ σ' : Hp} (h : KSame p σ σ') (h0 : RoHeap σ0) (hs : Sub σ0 σ) (hp : ∀ x, ¬ p (.ro x)) : Sub σ0 σ' := fun k => by
  cases hk : σ0 k with
  | none => exact .inl rfl
  | some o =>
    obtain ⟨x, rfl⟩ := h0 k o hk
    rcases hs k with e | e
    · rw [hk] at e; cases e
    · rw [hk] at e; exact .inr (h k _ e.symm (hp x)).symm
theorem RowsAt.ks {α : Type} {E sz : Nat} {f : α → List Value} {σ σ' : Hp} {v : Value} {l : List α} {p : Blk → Prop} (h : RowsAt E sz f σ v l) (hs : KSame p σ σ') (hp : ∀ cs r, ¬ p (.row cs r E)) : RowsAt E sz f σ' v l := by
  rcases h with h | ⟨b, c, rfl, hc, hb⟩
  · exact .inl h
  · exact .inr ⟨b, c, rfl, hc, hs _ _ hb (hp _ _)⟩
theorem Grew.ks {α : Type} {E sz : Nat} {f : α → List Value} {σ σ' : Hp} {v v' : Value} {l : List α} (h : Grew σ v σ' v') (hr : RowsAt E sz f σ v l) : KSame (isRow E) σ σ' := KSame.ofSame h.same fun k o hk ho => by
  rcases hr with ⟨rfl, _⟩ | ⟨b, c, rfl, _, hb⟩
  · cases hk
  · cases hk; rw [hb] at ho; cases ho; rfl
end Go.Sp
