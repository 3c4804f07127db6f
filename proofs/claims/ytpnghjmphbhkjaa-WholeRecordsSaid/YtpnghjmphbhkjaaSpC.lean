/- What a piece of code does to the known part of a heap. -/
import Derived.Test.YtpnghjmphbhkjaaSpF
namespace Go.Sp
open Go.RowKit
set_option linter.unusedSimpArgs false
set_option linter.unusedVariables false
def mops (P : Program) : List MO → (Sl → Hp → Prop) → Sl → Hp → Prop
  | [], K, s, σ => K s σ
  | o :: os, K, s, σ => if gd o.g s = true then mop P o.m (fun v σ' => mops P os K (putO s o.d v) σ') s σ else mops P os K (putO s o.d undef) σ
inductive C where
  | skip
  | reg (mos : List MO)
  | draw (xs : List DO)
  | drawx (xs : List DO)
  | seq (a b : C)
  | cond (x : Operand) (a b : C)
  | block (id : Nat) (c : C)
  | loop (c : C)
  | exit (id : Nat)
  | ret
def thn (K : Sl → Hp → Prop) (Q : Exit → Sl → Hp → Prop) : Exit → Sl → Hp → Prop
  | .normal => K
  | e => Q e
def inBlk (id : Nat) (Q : Exit → Sl → Hp → Prop) : Exit → Sl → Hp → Prop
  | .exit id' => if id' = id then Q .normal else Q (.exit id')
  | e => Q e
def mcode (P : Program) : C → (Exit → Sl → Hp → Prop) → Sl → Hp → Prop
  | .skip, Q, s, σ => Q .normal s σ
  | .reg mos, Q, s, σ => mops P mos (Q .normal) s σ
  | .draw xs, Q, s, σ => dmops P xs (fun s _ σ => Q .normal s σ) s σ σ
  | .drawx xs, Q, s, σ => ∃ σ₀, Sub σ₀ σ ∧ dmops P xs (fun s _ σ => Q .normal s σ) s σ₀ σ
  | .seq a b, Q, s, σ => mcode P a (thn (mcode P b Q) Q) s σ
  | .cond x a b, Q, s, σ => ∃ t, ev s x = .bool t ∧ if t = true then mcode P a Q s σ else mcode P b Q s σ
  | .block id c, Q, s, σ => mcode P c (inBlk id Q) s σ
  | .loop c, Q, s, σ => ∃ (J : Nat → Sl → Hp → Prop) (k : Nat), (∃ σ₁, Sub σ₁ σ ∧ J k s σ₁) ∧ ∀ k s' σ', J k s' σ' → mcode P c (thn (fun s'' σ'' => ∃ k', k' < k ∧ ∃ σ₁, Sub σ₁ σ'' ∧ J k' s'' σ₁) Q) s' σ'
  | .exit id, Q, s, σ => Q (.exit id) s σ
  | .ret, Q, s, σ => Q .ret s σ
def compC (P : Program) (us : List Nat) (n : Nat) : Code → Option C
  | .skip => some .skip
  | .region _ ops draw => if draw then (compDraw P us n ops).map (if us.contains 999999 then .drawx else .draw) else ((List.range ops.size).mapM (compAt P n ops)).map .reg
  | .seq a b => (compC P us n a).bind fun a => (compC P us n b).map fun b => .seq a b
  | .cond x a b => if inR n x then (compC P us n a).bind fun a => (compC P us n b).map fun b => .cond x a b else none
  | .block id c => (compC P us n c).map (.block id)
  | .loop c => (compC P us n c).map .loop
  | .exit id => some (.exit id)
  | .ret => some .ret
  | .label _ => some .skip
  | _ => none
variable {P : Program}
def Post (n : Nat) (w : World) (σ : Hp) (Q : Exit → Sl → Hp → Prop) : Exit → Act → World → Prop := fun e a' w' =>
  ∃ s' σ', Rel n a' s' ∧ Sat σ' w' ∧ (∀ w0 σ0, Fr w0 w σ0 σ → Fr w0 w' σ0 σ') ∧ Q e s' σ'
theorem mops_sound {n : Nat} {ops : Array Oper} : ∀ (l : List Nat) (mos : List MO), l.mapM (compAt P n ops) = some mos → ∀ {a : Act} {s : Sl} {σ : Hp} {w : World}, Rel n a s → Sat σ w → ∀ {K : Sl → Hp → Prop}, mops P mos K s σ →
    ∀ {Q : Exit → Act → World → Prop}, (∀ a' s' σ' w', Rel n a' s' → Sat σ' w' → (∀ w0 σ0, Fr w0 w σ0 σ → Fr w0 w' σ0 σ') → K s' σ' → Q .normal a' w') → wpOps P ops Q l a w := by
  intro l
  induction l with
  | nil =>
    intro mos hm a s σ w hr hs K h Q hq
    simp only [List.mapM_nil, Option.pure_def, Option.some.injEq] at hm
    subst hm
    exact hq _ _ _ _ hr hs (fun _ _ h => h) h
  | cons i l ih =>
    intro mos hm a s σ w hr hs K h Q hq
    simp only [List.mapM_cons, Option.bind_eq_bind, Option.bind_eq_some_iff, Option.pure_def, Option.some.injEq] at hm
    obtain ⟨mo, hmo, mos', hmos', rfl⟩ := hm
    simp only [compAt, Option.bind_eq_some_iff] at hmo
    obtain ⟨o, ho, hmo⟩ := hmo
    obtain ⟨hc, hd, hin⟩ := compOp_parts hmo
    simp only [wpOps, ho]
    rw [gd_wanted hmo hr]
    unfold mops at h
    split
    · rename_i hg
      rw [if_pos hg] at h
      refine .inl (mop_sound hc hin hr hs h fun v σ' w' hK hs' hf => ?_)
      rw [hd] at hK
      exact ih mos' hmos' (hr.put _ _) hs' hK fun a' s' σ'' w'' hr' hs'' hf' hK' => hq _ _ _ _ hr' hs'' (fun w0 σ0 h0 => hf' _ _ (hf _ _ h0)) hK'
    · rename_i hg
      rw [if_neg hg] at h
      rw [hd] at h
      exact ih mos' hmos' (hr.put _ _) hs h hq
theorem mcode_sound {us : List Nat} {n : Nat} (hmix : P.follows .mixedOrders = true) : ∀ (c : Code) (m : C), compC P us n c = some m → ∀ {a : Act} {s : Sl} {σ : Hp} {w : World}, Rel n a s → Sat σ w → ∀ {Q : Exit → Sl → Hp → Prop}, mcode P m Q s σ → c.wp P (Post n w σ Q) a w := by
  intro c
  induction c with
  | skip =>
    intro m hm a s σ w hr hs Q h
    cases hm
    exact wp_skip ⟨s, σ, hr, hs, fun _ _ h => h, h⟩
  | label l =>
    intro m hm a s σ w hr hs Q h
    cases hm
    exact wp_label ⟨s, σ, hr, hs, fun _ _ h => h, h⟩
  | exit id =>
    intro m hm a s σ w hr hs Q h
    cases hm
    exact wp_exit ⟨s, σ, hr, hs, fun _ _ h => h, h⟩
  | ret =>
    intro m hm a s σ w hr hs Q h
    cases hm
    exact wp_ret ⟨s, σ, hr, hs, fun _ _ h => h, h⟩
  | region id ops draw =>
    intro m hm a s σ w hr hs Q h
    simp only [compC] at hm
    split at hm
    · rename_i hd
      simp only [Option.map_eq_some_iff] at hm
      obtain ⟨xs, hxs, hm⟩ := hm
      have hd : draw = true := hd
      subst hd
      split at hm
      · subst hm
        obtain ⟨σ₀, h0, h⟩ := h
        exact draw_sound hmix hxs hr hs h0 h fun a' s' σ₀' σ' w' h1 h2 h3 h4 => ⟨s', σ', h1, h2, h3, h4⟩
      · subst hm
        exact draw_sound hmix hxs hr hs (Sub.refl σ) h fun a' s' σ₀' σ' w' h1 h2 h3 h4 => ⟨s', σ', h1, h2, h3, h4⟩
    · rename_i hd
      simp only [Option.map_eq_some_iff] at hm
      obtain ⟨mos, hmos, rfl⟩ := hm
      have hd : draw = false := by simpa using hd
      subst hd
      exact wp_region (mops_sound _ _ hmos hr hs h fun a' s' σ' w' h1 h2 h3 h4 => ⟨s', σ', h1, h2, h3, h4⟩)
  | seq x y ihx ihy =>
    intro m hm a s σ w hr hs Q h
    simp only [compC, Option.bind_eq_some_iff, Option.map_eq_some_iff] at hm
    obtain ⟨mx, hx, my, hy, rfl⟩ := hm
    refine wp_seq (wp_mono (ihx mx hx hr hs h) ?_)
    rintro e a' w' ⟨s', σ', h1, h2, h3, h4⟩
    cases e with
    | normal =>
      refine wp_mono (ihy my hy h1 h2 h4) ?_
      rintro e a'' w'' ⟨s'', σ'', k1, k2, k3, k4⟩
      exact ⟨s'', σ'', k1, k2, fun w0 σ0 h0 => k3 _ _ (h3 _ _ h0), k4⟩
    | _ => exact ⟨s', σ', h1, h2, h3, h4⟩
  | cond x y z ihy ihz =>
    intro m hm a s σ w hr hs Q h
    simp only [compC] at hm
    split at hm
    · rename_i hin
      simp only [Option.bind_eq_some_iff, Option.map_eq_some_iff] at hm
      obtain ⟨my, hy, mz, hz, rfl⟩ := hm
      obtain ⟨t, ht, h⟩ := h
      refine wp_cond (t := t) ((hr.ev hin).trans ht) ?_
      split
      · rename_i e; rw [if_pos e] at h; exact ihy my hy hr hs h
      · rename_i e; rw [if_neg e] at h; exact ihz mz hz hr hs h
    · cases hm
  | block id c ih =>
    intro m hm a s σ w hr hs Q h
    simp only [compC, Option.map_eq_some_iff] at hm
    obtain ⟨mc, hc, rfl⟩ := hm
    refine wp_block (wp_mono (ih mc hc hr hs h) ?_)
    rintro e a' w' ⟨s', σ', h1, h2, h3, h4⟩
    cases e with
    | exit id' =>
      by_cases e : id' = id
      · subst e; simp only [inBlk, if_true] at h4; simp only [Exit.inBlock, if_true]; exact ⟨s', σ', h1, h2, h3, h4⟩
      · simp only [inBlk, if_neg e] at h4; simp only [Exit.inBlock, if_neg e]; exact ⟨s', σ', h1, h2, h3, h4⟩
    | _ => exact ⟨s', σ', h1, h2, h3, h4⟩
  | loop c ih =>
    intro m hm a s σ w hr hs Q h
    simp only [compC, Option.map_eq_some_iff] at hm
    obtain ⟨mc, hc, rfl⟩ := hm
    obtain ⟨J, k, ⟨σ₁, hs1, h0⟩, hround⟩ := h
    refine wp_loop_ghost (fun n' a' w' => ∃ s' σ', Rel n a' s' ∧ Sat σ' w' ∧ (∀ w0 σ0, Fr w0 w σ0 σ → Fr w0 w' σ0 σ') ∧ J n' s' σ') k ⟨s, σ₁, hr, hs.sub hs1, fun _ _ h => h.sub hs1, h0⟩ ?_
    rintro n' a' w' ⟨s', σ', h1, h2, h3, h4⟩
    refine wp_mono (ih mc hc h1 h2 (hround n' s' σ' h4)) ?_
    rintro e a'' w'' ⟨s'', σ'', k1, k2, k3, k4⟩
    cases e with
    | normal =>
      obtain ⟨n'', hlt, σ₃, hs3, hJ⟩ := k4
      exact ⟨n'', hlt, s'', σ₃, k1, k2.sub hs3, fun w0 σ0 h0 => (k3 _ _ (h3 _ _ h0)).sub hs3, hJ⟩
    | _ => exact ⟨s'', σ'', k1, k2, fun w0 σ0 h0 => k3 _ _ (h3 _ _ h0), k4⟩
  | _ => intro m hm; cases hm
/-- The results, as they stand in slots and cells. -/
inductive RV where
  | tmp (t : Nat)
  | one (a : Nat)
  | agg (a sz : Nat)
def compRV (P : Program) (n : Nat) : ResultVar → Option RV
  | .tmp t => if t < n then some (.tmp t) else none
  | .cell a t =>
    if a < n then
      match P.underlying t, P.info? t with
      | some (.struct _), some i => some (.agg a i.size)
      | some (.array _ _), _ => none
      | some _, _ => some (.one a)
      | none, _ => none
    else none
def rval (s : Sl) (σ : Hp) : RV → Option Value
  | .tmp t => some (s t)
  | .one a => match s a with | .pointer (some ⟨b, off, none⟩) => rd σ b off | _ => none
  | .agg a sz => match s a with | .pointer (some ⟨b, off, none⟩) => (rdn σ b off sz).map fun vs => .agg vs.toArray | _ => none
def rvals (s : Sl) (σ : Hp) : List RV → Option (List Value)
  | [] => some []
  | r :: rs => (rval s σ r).bind fun v => (rvals s σ rs).map fun vs => v :: vs
def whole : List Value → Value
  | [v] => v
  | vs => .tuple vs.toArray
end Go.Sp
