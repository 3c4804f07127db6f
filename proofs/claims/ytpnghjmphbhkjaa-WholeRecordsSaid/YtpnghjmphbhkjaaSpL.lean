/- Words on blocks that are new, that stay, and that are laid off. -/
import Derived.Test.YtpnghjmphbhkjaaSpK
import Derived.Below
namespace Go.Sp
open Go.RowKit (Below)
/-- The block of v is not known to σ. -/
def New (σ : Hp) (v : Value) : Prop := ∀ k, blk v = some k → σ k = none
theorem RowsAt.blk_some {α : Type} {E sz : Nat} {f : α → List Value} {σ : Hp} {v : Value} {l : List α} (h : RowsAt E sz f σ v l) (hl : l ≠ []) : ∃ k, blk v = some k := by
  rcases h with ⟨rfl, rfl⟩ | ⟨b, c, rfl, _, _⟩
  · exact absurd rfl hl
  · exact ⟨b, rfl⟩
theorem Same.at {F : Nat → Prop} {σ σ' : Hp} {g : Nat} {o : Blk} (h : Same F σ σ') (hg : σ g = some o) (hf : ¬ F g) : σ' g = some o := (h g (by rw [hg]; simp) hf).trans hg
def off (σ : Hp) (g : Nat) : Hp := fun k => if k = g then none else σ k
theorem off_none (σ : Hp) (g : Nat) : off σ g g = none := by simp [off]
theorem off_upd {σ : Hp} {g : Nat} {o : Blk} (h : σ g = some o) : σ = upd (off σ g) g o := by
  funext k; by_cases e : k = g
  · subst e; simp [upd, h]
  · simp [upd, off, e]
/-- A contract that leaves all that was there as it was. -/
theorem acalls_below {P : Program} {f : FuncId} {args : Array Value} {σ : Hp} {R : Value → Prop} (h : ∀ w, Sat σ w → Calls P f args w fun e w' => ∃ v, e = .returned v ∧ R v ∧ Below w.heap.size w w') :
    ACalls P f args σ fun v σ' => R v ∧ σ' = σ := fun w hs => (h w hs).mono fun e w' ⟨v, he, hr, hb⟩ =>
  ⟨v, σ, he, fun b o hbo => by rw [hb.block b (hs.lt (by rw [hbo]; simp))]; exact hs b o hbo, ⟨hb.os, hb.tape, hb.output, hb.size, fun k hk _ => hb.block k hk, fun _ _ hn => hn⟩, hr, rfl⟩
theorem Sub.noneAt {τ σ : Hp} {b : Nat} (h : Sub τ σ) (hb : σ b = none) : τ b = none := (h b).elim id fun e => e.trans hb
theorem Sub.same {τ σ σ' : Hp} {F : Nat → Prop} (h : Sub τ σ) (s : Same F σ σ') (hF : ∀ k, F k → τ k = none) : Sub τ σ' := fun k => by
  rcases h k with e | e
  · exact .inl e
  · by_cases hf : F k
    · exact .inl (hF k hf)
    · by_cases hs : σ k = none
      · exact .inl (e.trans hs)
      · exact .inr (e.trans (s k hs hf).symm)
theorem RowsAt.ro {α : Type} {E sz : Nat} {f : α → List Value} (hf : ∀ x, (f x).length = sz) {σ : Hp} {v : Value} {l : List α} (h : RowsAt E sz f σ v l) : RoRows sz f σ v l := by
  rcases h with ⟨rfl, rfl⟩ | ⟨b, c, rfl, _, hb⟩
  · exact ⟨none, 0, rfl, fun i x hx => by simp at hx⟩
  · refine ⟨some ⟨b, 0, none⟩, c, rfl, fun i x hx => ⟨b, 0, rfl, ?_⟩⟩
    unfold rdn
    rw [hb]
    show seg _ (0 + i * sz) sz = _
    have := seg_flat hf hx 0 sz (by omega)
    rw [Nat.add_zero] at this
    rw [Nat.zero_add, this]
    have e := seg_all (f x)
    rw [hf] at e
    exact e
theorem RowsAt.offs {α : Type} {E sz : Nat} {f : α → List Value} {σ : Hp} {v : Value} {l : List α} (h : RowsAt E sz f σ v l) {g : Nat} (hg : blk v ≠ some g) : RowsAt E sz f (off σ g) v l :=
  h.keep fun k hk => by unfold off; rw [if_neg (fun e => hg (by rw [hk, e]))]
theorem off_sub (σ : Hp) (g : Nat) : Sub (off σ g) σ := fun k => by
  unfold off; by_cases e : k = g
  · exact .inl (by simp [e])
  · exact .inr (by simp [e])
theorem Same.ofOff {σ σ' : Hp} {g : Nat} (h : Same (fun _ => False) (off σ g) σ') : Same (fun k => k = g) σ σ' := fun k hk hf => by
  have e : off σ g k = σ k := by unfold off; rw [if_neg hf]
  rw [h k (by rw [e]; exact hk) (fun x => x), e]
theorem New.ofOff {α : Type} {E sz : Nat} {f : α → List Value} {σ σ' : Hp} {g : Nat} {v : Value} {l : List α} {cs : List Value} {t : TypeId} (h : New (off σ g) v) (hr : RowsAt E sz f σ' v l) (hg : σ' g = some (.cells cs t)) : New σ v := fun k hk => by
  have := h k hk
  unfold off at this
  split at this
  · rename_i e; subst e; exact absurd hk (hr.notCells hg)
  · exact this
theorem off_same {τ σ : Hp} {g : Nat} (hg : τ g = none) (h : Same (fun _ => False) τ σ) : Same (fun _ => False) τ (off σ g) := fun k hk hf => by
  have e : k ≠ g := fun e => by subst e; exact hk hg
  unfold off; rw [if_neg e]; exact h k hk hf
theorem Same.unUpd {τ σ : Hp} {g : Nat} {X : Blk} (hg : τ g = none) (h : Same (fun _ => False) (upd τ g X) σ) : Same (fun _ => False) τ σ := fun k hk hf => by
  have e : k ≠ g := fun e => by subst e; exact hk hg
  have := h k (by rw [upd_ne _ _ e]; exact hk) hf
  rw [this, upd_ne _ _ e]
theorem New.unUpd {τ : Hp} {g : Nat} {X : Blk} {v : Value} (h : New (upd τ g X) v) : New τ v := fun k hk => ((none_upd _ _ _ _).1 (h k hk)).2
theorem New.ne {τ : Hp} {g : Nat} {X : Blk} {v : Value} (h : New (upd τ g X) v) : blk v ≠ some g := fun e => by
  have := h g e; rw [upd_same] at this; cases this
theorem Same.sub {τ σ : Hp} (h : Same (fun _ => False) τ σ) : Sub τ σ := fun k => by
  by_cases e : τ k = none
  · exact .inl e
  · exact .inr (h k e (fun x => x)).symm
theorem RowsAt.ne {α : Type} {E sz : Nat} {f : α → List Value} {σ : Hp} {v : Value} {l : List α} (h : RowsAt E sz f σ v l) {g : Nat} (hg : σ g = none) : blk v ≠ some g := fun e => h.known e hg
/-- Two known blocks, laid open. -/
theorem open_2 {σ : Hp} {g b : Nat} {A B : Blk} (hg : σ g = some A) (hb : σ b = some B) (_hne : g ≠ b) : ∃ τ, σ = upd (upd τ b B) g A := ⟨σ, by rw [upd_self hb, upd_self hg]⟩
theorem seg_part {cs vs : List Value} {o n : Nat} (h : seg cs o n = some vs) (i m : Nat) (hm : i + m ≤ n) : seg cs (o + i) m = some ((vs.drop i).take m) := by
  unfold seg at h ⊢
  split at h
  · cases h
    rw [if_pos (by omega), List.drop_take, List.take_take, List.drop_drop, Nat.min_eq_left (by omega)]
  · cases h
theorem rdn_part {σ : Hp} {b o n : Nat} {vs : List Value} (h : rdn σ b o n = some vs) (i m : Nat) (hm : i + m ≤ n) : rdn σ b (o + i) m = some ((vs.drop i).take m) := by
  unfold rdn at *
  generalize σ b = q at *
  split at h
  · exact seg_part h i m hm
  · exact seg_part h i m hm
  · exact seg_part h i m hm
  · cases h
theorem rd_of_rdn {σ : Hp} {b o : Nat} {v : Value} (h : rdn σ b o 1 = some [v]) : rd σ b o = some v := by
  have key : ∀ cs : List Value, seg cs o 1 = some [v] → cs[o]? = some v := fun cs h => by
    unfold seg at h
    split at h
    · rename_i hl
      have e : (cs.drop o).take 1 = [v] := Option.some.inj h
      have : ((cs.drop o).take 1)[0]? = some v := by rw [e]; rfl
      rw [List.getElem?_take_of_lt (by omega), List.getElem?_drop] at this
      simpa using this
    · cases h
  unfold rdn at h
  unfold rd
  generalize σ b = q at *
  cases q with
  | none => cases h
  | some x =>
    cases x with
    | cells cs t => exact key _ h
    | row cs r t => exact key _ h
    | dead => cases h
    | ro o =>
      cases o with
      | cells cs t fr =>
        have := key _ h
        simpa using this
      | _ => cases h
    | mp l => cases h
    | im l => cases h
theorem rd_part {σ : Hp} {b o n : Nat} {vs : List Value} (h : rdn σ b o n = some vs) (i : Nat) {v : Value} (hv : vs[i]? = some v) : rd σ b (o + i) = some v := by
  have hl := rdn_len h
  have hi : i < vs.length := (List.getElem?_eq_some_iff.1 hv).1
  have := rdn_part h i 1 (by omega)
  refine rd_of_rdn (this.trans ?_)
  rw [List.drop_eq_getElem_cons hi]
  rw [List.getElem?_eq_getElem hi] at hv
  cases hv; rfl
/-- An element of rows that are only read. -/
theorem RoRows.get {α : Type} {sz : Nat} {f : α → List Value} {σ : Hp} {A : Option Addr} {n c : Nat} {l : List α} (h : RoRows sz f σ (.slice A n c) l) {i : Nat} (hi : i < l.length) : ∃ b o, A = some ⟨b, o, none⟩ ∧ rdn σ b (o + i * sz) sz = some (f l[i]) := by
  obtain ⟨A', c', e, h⟩ := h
  cases e
  exact h i _ (List.getElem?_eq_getElem hi)
theorem RoRows.len {α : Type} {sz : Nat} {f : α → List Value} {σ : Hp} {A : Option Addr} {n c : Nat} {l : List α} (h : RoRows sz f σ (.slice A n c) l) : n = l.length := by
  obtain ⟨A', c', e, _⟩ := h
  cases e; rfl
theorem off_upd_sub (τ : Hp) (m : Nat) (X Y : Blk) : Sub (off (upd τ m X) m) (upd τ m Y) := fun k => by
  by_cases e : k = m
  · exact .inl (by simp [off, e])
  · exact .inr (by simp [off, upd, e])
theorem off_ne (σ : Hp) {g k : Nat} (h : k ≠ g) : off σ g k = σ k := by simp [off, h]
theorem rdn_known {σ : Hp} {b o n : Nat} {vs : List Value} (h : rdn σ b o n = some vs) : σ b ≠ none := fun e => by unfold rdn at h; rw [e] at h; cases h
theorem rdn_apart {σ : Hp} {b o n k : Nat} {vs : List Value} (h : rdn σ b o n = some vs) (hk : σ k = none) : ¬ b = k := fun e => rdn_known h (by rw [e]; exact hk)
theorem open_3 {σ : Hp} {a b c : Nat} {A B C : Blk} (ha : σ a = some A) (hb : σ b = some B) (hc : σ c = some C) : ∃ τ, σ = upd (upd (upd τ c C) b B) a A := ⟨σ, by rw [upd_self hc, upd_self hb, upd_self ha]⟩
end Go.Sp
