/- A region that draws its order: told in the text's order, it holds in every one. -/
import Derived.Test.YtpnghjmphbhkjaaSpB
import Derived.Deep.LoopGhost
namespace Go.Sp
open Go.RowKit
set_option linter.unusedSimpArgs false
set_option linter.unusedVariables false
variable {P : Program}
structure MO where
  d : Option Nat
  m : M
  g : Option (Nat × Bool)
/-- An operation with a place, always done. -/
def rO (d : Nat) (m : M) : MO := ⟨some d, m, none⟩
def compOp (P : Program) (n : Nat) (ops : Array Oper) (o : Oper) : Option MO :=
  if inO n o.dst = true ∧ mIn n o = true then
    match comp P o with
    | some m =>
      match o.guard with
      | none => some ⟨o.dst, m, none⟩
      | some (j, want) =>
        match (ops[j]?).bind (·.dst) with
        | some d => if d < n then some ⟨o.dst, m, some (d, want)⟩ else none
        | none => none
    | none => none
  else none
def compAt (P : Program) (n : Nat) (ops : Array Oper) (i : Nat) : Option MO := (ops[i]?).bind (compOp P n ops)
def gd : Option (Nat × Bool) → Sl → Bool
  | none, _ => true
  | some (d, want), s => match s d with | .bool b => b == want | _ => false
theorem gd_wanted {n : Nat} {ops : Array Oper} {o : Oper} {mo : MO} (hc : compOp P n ops o = some mo) {a : Act} {s : Sl} (hr : Rel n a s) : Region.wanted o (yielded ops a.tmps) = gd mo.g s := by
  unfold compOp at hc
  split at hc
  · split at hc
    · split at hc
      · rename_i hg; cases hc; simp [Region.wanted, hg, gd]
      · rename_i j want hg
        split at hc
        · rename_i d hd
          split at hc
          · rename_i hdn
            cases hc
            have hsd := hr.2.2 d hdn
            have hsz : d < a.tmps.size := by rw [hr.1]; exact hdn
            simp only [Region.wanted, hg, gd, yielded, hd, Option.bind_some, ← hsd, Array.getElem?_eq_getElem hsz, Array.getD_eq_getD_getElem?, Option.getD_some]
            cases a.tmps[d] <;> first | rfl | (rename_i b; cases b <;> cases want <;> rfl)
          · cases hc
        · cases hc
    · cases hc
  · cases hc
theorem compOp_parts {n : Nat} {ops : Array Oper} {o : Oper} {mo : MO} (hc : compOp P n ops o = some mo) : comp P o = some mo.m ∧ mo.d = o.dst ∧ mIn n o = true := by
  unfold compOp at hc
  split at hc
  · rename_i hin
    split at hc
    · rename_i m hm
      split at hc
      · cases hc; exact ⟨hm, rfl, hin.2⟩
      · split at hc
        · split at hc
          · cases hc; exact ⟨hm, rfl, hin.2⟩
          · cases hc
        · cases hc
    · cases hc
  · cases hc
def opR : Operand → List Nat
  | .tmp t => [t]
  | _ => []
/-- The slots that an operation reads. -/
def M.rds : M → List Nat
  | .raw op _ => op.operands.toList.flatMap opR
  | .mv x => opR x
  | .pick c a b => opR c ++ (opR a ++ opR b)
  | .nilc x => opR x
  | .fa _ x => opR x
  | .ia _ x i => opR x ++ opR i
  | .bin _ x y => opR x ++ opR y
  | .eqs _ _ x y => opR x ++ opR y
  | .nt x => opR x
  | .ext _ x => opR x
  | .len _ x => opR x
  | .bld _ ps => ps.flatMap fun p => opR p.2.2
  | .conv _ x => opR x
  | .ixs x i => opR x ++ opR i
  | .mx _ x y => opR x ++ opR y
  | .eqa _ _ x y => opR x ++ opR y
  | .fld _ _ x => opR x
  | .new _ _ => []
  | .box _ x => opR x
  | .lit _ _ _ _ ps => ps.flatMap fun p => opR p.2.2
  | .ld _ x => opR x
  | .st _ a x => opR a ++ opR x
  | .call _ args => args.flatMap opR
  | .app _ _ _ x y => opR x ++ opR y
  | .mkmap _ => []
  | .mks _ _ _ _ x => opR x
  | .look _ _ x i => opR x ++ opR i
  | .mset _ x i v => opR x ++ (opR i ++ opR v)
  | .fnl _ xs => xs.flatMap opR
  | .bys x => opR x
  | .callv x args => opR x ++ args.flatMap opR
theorem ev_put {s : Sl} {d : Nat} {v : Value} {x : Operand} (h : d ∉ opR x) : ev (put s d v) x = ev s x := by
  cases x with
  | tmp t => simp [opR] at h; simp [ev, put, Ne.symm h]
  | _ => rfl
theorem fillO_put {s : Sl} {d : Nat} {v : Value} : ∀ (ps : List (Nat × Nat × Operand)) (z : List Value), (d ∉ ps.flatMap fun p => opR p.2.2) → fillO (put s d v) z ps = fillO s z ps
  | [], z, _ => rfl
  | (off, sz, x) :: r, z, h => by
    simp only [List.flatMap_cons, List.mem_append, not_or] at h
    simp only [fillO, ev_put h.1]
    split
    · exact fillO_put r _ h.2
    · rfl
theorem args_put {s : Sl} {d : Nat} {v : Value} : ∀ (xs : List Operand), (d ∉ xs.flatMap opR) → xs.map (ev (put s d v)) = xs.map (ev s)
  | [], _ => rfl
  | x :: xs, h => by
    simp only [List.flatMap_cons, List.mem_append, not_or] at h
    simp only [List.map_cons, ev_put h.1, args_put xs h.2]
def M.raws : M → Bool
  | .raw (.select _ _) _ => false
  | _ => true
theorem mop_put {m : M} (hm : m.raws = true) {K : Value → Hp → Prop} {s : Sl} {σ : Hp} {d : Nat} {v : Value} (h : d ∉ m.rds) : mop P m K (put s d v) σ = mop P m K s σ := by
  cases m with
  | raw op ty =>
    have hx : ∀ x ∈ op.operands, ev (put s d v) x = ev s x := fun x hx => ev_put fun hd => h (by
      simp only [M.rds, List.mem_flatMap]; exact ⟨x, by simpa using hx, hd⟩)
    have : execOp (ev (put s d v)) (mkO op ty) = execOp (ev s) (mkO op ty) := execOp_congr _ (fun cs b e => by
      have e : op = .select cs b := e
      subst e; cases hm) hx
    simp only [mop, this]
  | call f args => simp only [mop, args_put args h]
  | callv x args => simp only [M.rds, List.mem_append, not_or] at h; simp only [mop, ev_put h.1, args_put args h.2]
  | bld z ps => simp only [mop, fillO_put ps z h]
  | lit E n size z ps => simp only [mop, fillO_put ps z h]
  | ld sz x => cases sz <;> simp only [mop, ev_put h]
  | new T z => rfl
  | pick c a b => simp only [M.rds, List.mem_append, not_or] at h; simp only [mop, ev_put h.1, ev_put h.2.1, ev_put h.2.2]
  | ia size x i => simp only [M.rds, List.mem_append, not_or] at h; simp only [mop, ev_put h.1, ev_put h.2]
  | bin op x y => simp only [M.rds, List.mem_append, not_or] at h; simp only [mop, ev_put h.1, ev_put h.2]
  | eqs neg k x y => simp only [M.rds, List.mem_append, not_or] at h; simp only [mop, ev_put h.1, ev_put h.2]
  | ixs x y => simp only [M.rds, List.mem_append, not_or] at h; simp only [mop, ev_put h.1, ev_put h.2]
  | mx u x y => simp only [M.rds, List.mem_append, not_or] at h; simp only [mop, ev_put h.1, ev_put h.2]
  | eqa n ks x y => simp only [M.rds, List.mem_append, not_or] at h; simp only [mop, ev_put h.1, ev_put h.2]
  | st sz x y => simp only [M.rds, List.mem_append, not_or] at h; simp only [mop, ev_put h.1, ev_put h.2]
  | app E size bytes x y => simp only [M.rds, List.mem_append, not_or] at h; simp only [mop, ev_put h.1, ev_put h.2]
  | mkmap num => rfl
  | fnl g xs => simp only [mop, args_put xs h]
  | look ok z x i => simp only [M.rds, List.mem_append, not_or] at h; simp only [mop, ev_put h.1, ev_put h.2]
  | mset q x i v => simp only [M.rds, List.mem_append, not_or] at h; simp only [mop, ev_put h.1, ev_put h.2.1, ev_put h.2.2]
  | _ => simp only [mop, ev_put h]
theorem onPtr_mono {v : Value} {k k' : Nat → Nat → Prop} (h : onPtr v k) (hk : ∀ b o, k b o → k' b o) : onPtr v k' := by
  obtain ⟨b, o, rfl, h⟩ := onPtr_elim h; exact hk _ _ h
theorem onBool_mono {v : Value} {k k' : Bool → Prop} (h : onBool v k) (hk : ∀ b, k b → k' b) : onBool v k' := by
  obtain ⟨b, rfl, h⟩ := onBool_elim h; exact hk _ h
theorem onSome_mono {α : Type} {v : Option α} {k k' : α → Prop} (h : onSome v k) (hk : ∀ a, k a → k' a) : onSome v k' := by
  obtain ⟨a, rfl, h⟩ := onSome_elim h; exact hk _ h
theorem onI64_elim {v : Value} {k : Int → Prop} (h : onI64 v k) : ∃ n, v = .int .i64 n ∧ k n := by
  unfold onI64 at h; split at h
  · exact ⟨_, rfl, h⟩
  · exact h.elim
theorem onTuple_elim {v : Value} {k : Array Value → Prop} (h : onTuple v k) : ∃ vs, v = .tuple vs ∧ k vs := by
  unfold onTuple at h; split at h
  · exact ⟨_, rfl, h⟩
  · exact h.elim
theorem onInt_mono {v : Value} {k k' : IntKind → Int → Prop} (h : onInt v k) (hk : ∀ q n, k q n → k' q n) : onInt v k' := by
  obtain ⟨q, n, rfl, h⟩ := onInt_elim h; exact hk _ _ h
theorem onStr_mono {v : Value} {k k' : ByteArray → Prop} (h : onStr v k) (hk : ∀ b, k b → k' b) : onStr v k' := by
  obtain ⟨b, rfl, h⟩ := onStr_elim h; exact hk _ h
theorem onI64_mono {v : Value} {k k' : Int → Prop} (h : onI64 v k) (hk : ∀ b, k b → k' b) : onI64 v k' := by
  obtain ⟨b, rfl, h⟩ := onI64_elim h; exact hk _ h
theorem onSlice_mono {v : Value} {k k' : Nat → Nat → Nat → Prop} (h : onSlice v k) (hk : ∀ b o n, k b o n → k' b o n) : onSlice v k' := by
  obtain ⟨b, o, n, c, rfl, h⟩ := onSlice_elim h; exact hk _ _ _ h
theorem onMap_mono {v : Value} {k k' : Nat → Prop} (h : onMap v k) (hk : ∀ b, k b → k' b) : onMap v k' := by
  obtain ⟨b, rfl, h⟩ := onMap_elim h; exact hk _ h
theorem appK_mono {E size bytes : Nat} {vx vy : Value} {K K' : Value → Hp → Prop} {σ : Hp} (h : appK E size bytes vx vy K σ) (hk : ∀ v σ', K v σ' → K' v σ') : appK E size bytes vx vy K' σ := by
  rcases h with ⟨A0, m, c, hy, hm, h⟩ | ⟨b, off, m, c, ys, hy, hrd, h1, h⟩
  · rcases h with ⟨hx, hK⟩ | ⟨b, n, cap, hx, hle, hK⟩
    · exact .inl ⟨A0, m, c, hy, hm, .inl ⟨hx, hk _ _ hK⟩⟩
    · exact .inl ⟨A0, m, c, hy, hm, .inr ⟨b, n, cap, hx, hle, hk _ _ hK⟩⟩
  · rcases h with ⟨hm, hx, hK⟩ | ⟨hm, hx, hb, h63, hK⟩ | ⟨g, n, cap, xs, hx, hg, hxl, hle, hb, h63, hK⟩
    · exact .inr ⟨b, off, m, c, ys, hy, hrd, h1, .inl ⟨hm, hx, hk _ _ hK⟩⟩
    · exact .inr ⟨b, off, m, c, ys, hy, hrd, h1, .inr (.inl ⟨hm, hx, hb, h63, fun b' c' h2 h3 => hk _ _ (hK b' c' h2 h3)⟩)⟩
    · exact .inr ⟨b, off, m, c, ys, hy, hrd, h1, .inr (.inr ⟨g, n, cap, xs, hx, hg, hxl, hle, hb, h63, fun b' c' h2 h3 => hk _ _ (hK b' c' h2 h3)⟩)⟩
theorem mop_mono {m : M} {K K' : Value → Hp → Prop} {s : Sl} {σ : Hp} (h : mop P m K s σ) (hk : ∀ v σ', K v σ' → K' v σ') : mop P m K' s σ := by
  cases m with
  | raw op ty => obtain ⟨v, h1, h2⟩ := h; exact ⟨v, h1, hk _ _ h2⟩
  | mv x => exact hk _ _ h
  | pick c a b => exact onBool_mono h fun _ h => hk _ _ h
  | nilc x => exact onPtr_mono h fun _ _ h => hk _ _ h
  | fa off x => exact onPtr_mono h fun _ _ h => hk _ _ h
  | ia size x i =>
    obtain ⟨b, o, n, c, e, h⟩ := onSlice_elim h
    obtain ⟨j, e2, h⟩ := onI64_elim h
    simp only [mop, e, e2, onSlice_mk, onI64_mk]; exact ⟨h.1, hk _ _ h.2⟩
  | bin op x y => exact onSome_mono h fun _ h => hk _ _ h
  | eqs neg k x y => exact onSome_mono h fun _ h => hk _ _ h
  | nt x => exact onBool_mono h fun _ h => hk _ _ h
  | ext i x =>
    obtain ⟨vs, e, h⟩ := onTuple_elim h
    simp only [mop, e, onTuple_mk]; exact onSome_mono h fun _ h => hk _ _ h
  | len t x => exact onSome_mono h fun _ h => hk _ _ h
  | bld z ps => exact onSome_mono h fun _ h => hk _ _ h
  | conv k x => exact onInt_mono h fun _ _ h => hk _ _ h
  | ixs x i => exact onStr_mono h fun _ h => onI64_mono h fun _ h => ⟨h.1, hk _ _ h.2⟩
  | mx u x y => exact onInt_mono h fun _ _ h => onInt_mono h fun _ _ h => hk _ _ h
  | eqa n ks x y => exact onSome_mono h fun _ h => hk _ _ h
  | fld n off x => exact onSome_mono h fun _ h => hk _ _ h
  | new T z => exact fun b hb => hk _ _ (h b hb)
  | box T x => exact fun b hb => hk _ _ (h b hb)
  | lit E n size z ps => exact onSome_mono h fun _ h b hb => hk _ _ (h b hb)
  | ld sz x => cases sz with
    | none => exact onPtr_mono h fun _ _ h => onSome_mono h fun _ h => hk _ _ h
    | some n => exact onPtr_mono h fun _ _ h => onSome_mono h fun _ h => hk _ _ h
  | st sz a x => exact onPtr_mono h fun _ _ h => ⟨h.1, h.2.1, onSome_mono h.2.2 fun _ h => hk _ _ h⟩
  | call f args => obtain ⟨R, h1, h2⟩ := h; exact ⟨R, h1, fun v σ' hR hw => hk _ _ (h2 v σ' hR hw)⟩
  | callv x args => obtain ⟨f, cs, e1, e2, R, h1, h2⟩ := h; exact ⟨f, cs, e1, e2, R, h1, fun v σ' hR hw => hk _ _ (h2 v σ' hR hw)⟩
  | app E size bytes x y => exact appK_mono h hk
  | mkmap num => exact fun b hb => hk _ _ (h b hb)
  | look q z x i => exact onSome_mono h fun _ h => hk _ _ h
  | mset q x i v => exact onSome_mono h fun _ h => hk _ _ h
  | mks E size bytes z x => obtain ⟨j, e, h1, h2⟩ := onI64_el h; simp only [mop, e, onI64_mk]; exact ⟨h1, fun b hb => hk _ _ (h2 b hb)⟩
  | fnl g xs => exact onSome_mono h fun _ h => hk _ _ h
  | bys x => exact onSlice_mono h fun _ _ _ h => onSome_mono h fun _ h => onSome_mono h fun _ h => hk _ _ h
/-- What an operation is to a region that draws: a value of the slots alone; one of the heap as the region found it; a call that only answers; a call that makes; something new; a change of what the region has made; a change. -/
inductive Kn where
  | p | l | c | g | f | w | m | r | u
  deriving DecidableEq
/-- The kinds behind which less is known of the heap as the region found it. -/
def Kn.isM : Kn → Bool
  | .m | .u => true
  | _ => false
theorem notM {k : Kn} (h : ¬ k.isM = true) : k.isM = false := by cases hk : k.isM <;> simp_all
def M.isP : M → Bool
  | .raw (.select _ _) _ => false
  | .raw _ _ | .mv _ | .pick _ _ _ | .nilc _ | .fa _ _ | .ia _ _ _ | .bin _ _ _ | .eqs _ _ _ _ | .nt _ | .ext _ _ | .len _ _ | .bld _ _ | .conv _ _ | .ixs _ _ | .mx _ _ _ | .eqa _ _ _ _ | .fld _ _ _ | .fnl _ _ => true
  | _ => false
def M.isL : M → Bool | .ld _ _ => true | .look _ _ _ _ => true | .bys _ => true | _ => false
def M.isC : M → Bool | .call _ _ => true | _ => false
def M.isR : M → Bool | .ld _ _ => true | .bys _ => true | _ => false
theorem isR_L {m : M} (h : m.isR = true) : m.isL = true := by cases m <;> first | rfl | cases h
def M.isF : M → Bool | .new _ _ | .box _ _ | .lit _ _ _ _ _ | .mkmap _ => true | _ => false
def M.isW : M → Bool | .st _ _ _ | .app _ _ _ _ _ => true | _ => false
def fits (P : Program) : Kn → M → Bool
  | .p, m => m.isP
  | .l, m => m.isL
  | .c, .call f _ => (P.inits.idxOf? f).isNone
  | .c, .callv _ _ => true
  | .c, _ => false
  | .g, m => m.isC
  | .f, m => m.isF
  | .w, m => m.isW
  | .r, m => m.isR
  | .u, m => m.isC
  | .m, m => m.raws
/-- What a call has made is laid beside what there is. -/
def mrg (σ₀ σ₁ σ : Hp) : Hp := fun k => match σ₀ k, σ₁ k with | none, some o => some o | _, _ => σ k
/-- What both know alike. -/
noncomputable def meet (σ₀ σ : Hp) : Hp := fun k => open Classical in if σ₀ k = σ k then σ₀ k else none
theorem meet_sub (σ₀ σ : Hp) : Sub (meet σ₀ σ) σ := fun k => by
  unfold meet
  by_cases h : σ₀ k = σ k
  · rw [if_pos h]; exact .inr h
  · rw [if_neg h]; exact .inl rfl
theorem meet_at {σ₀ σ : Hp} {a : Nat} (h : meet σ₀ σ a ≠ none) : meet σ₀ σ a = σ₀ a := by
  unfold meet at h ⊢
  by_cases e : σ₀ a = σ a
  · rw [if_pos e]
  · rw [if_neg e] at h; exact absurd rfl h
def dm (P : Program) (k : Kn) (m : M) (K : Value → Hp → Hp → Prop) (s : Sl) (σ₀ σ : Hp) : Prop :=
  match k with
  | .p => mop P m (fun v _ => K v σ₀ σ) s σ₀
  | .l => mop P m (fun v _ => K v σ₀ σ) s σ₀
  | .c => match m with
    | .call f args => ∃ v, ACalls P f (args.map (ev s)).toArray σ₀ (fun v' σ' => v' = v ∧ σ' = σ₀) ∧ K v σ₀ σ
    | .callv x args => ∃ f cs, ev s x = .func (.func f) #[] cs ∧ okF P f = true ∧ ∃ v, ACalls P f (args.map (ev s) ++ cs.toList).toArray σ₀ (fun v' σ' => v' = v ∧ σ' = σ₀) ∧ K v σ₀ σ
    | _ => False
  | .g => match m with
    | .call f args => ∃ R, ACalls P f (args.map (ev s)).toArray σ₀ R ∧ ∀ v σ₁, R v σ₁ → (∃ w, Sat σ₁ w) → Sub σ₀ σ₁ ∧ ((∀ k, σ₀ k = none → σ₁ k ≠ none → σ k = none) → K v σ₀ (mrg σ₀ σ₁ σ))
    | _ => False
  | .f => mop P m (fun v σ' => K v σ₀ σ') s σ
  | .w => mop P m (fun v σ' => Sub σ₀ σ' ∧ K v σ₀ σ') s σ
  | .r => mop P m (fun v _ => K v σ₀ σ) s σ
  | .u => mop P m (fun v σ' => K v (meet σ₀ σ') σ') s σ
  | .m => mop P m (fun v σ' => K v σ' σ') s σ
theorem dm_mono {k : Kn} {m : M} {K K' : Value → Hp → Hp → Prop} {s : Sl} {σ₀ σ : Hp} (h : dm P k m K s σ₀ σ) (hk : ∀ v σ₀' σ', (k.isM = false → σ₀' = σ₀) → K v σ₀' σ' → K' v σ₀' σ') : dm P k m K' s σ₀ σ := by
  cases k with
  | p => simp only [dm] at h ⊢; exact mop_mono h fun v _ h => hk _ _ _ (fun _ => rfl) h
  | l => simp only [dm] at h ⊢; exact mop_mono h fun v _ h => hk _ _ _ (fun _ => rfl) h
  | f => simp only [dm] at h ⊢; exact mop_mono h fun v _ h => hk _ _ _ (fun _ => rfl) h
  | r => simp only [dm] at h ⊢; exact mop_mono h fun v _ h => hk _ _ _ (fun _ => rfl) h
  | w => simp only [dm] at h ⊢; exact mop_mono h fun v _ h => ⟨h.1, hk _ _ _ (fun _ => rfl) h.2⟩
  | m => simp only [dm] at h ⊢; exact mop_mono h fun v _ h => hk _ _ _ (fun h => by cases h) h
  | u => simp only [dm] at h ⊢; exact mop_mono h fun v _ h => hk _ _ _ (fun h => by cases h) h
  | c =>
    cases m with
    | call f args => obtain ⟨v, h1, h2⟩ := h; exact ⟨v, h1, hk _ _ _ (fun _ => rfl) h2⟩
    | callv x args => obtain ⟨f, cs, e1, e2, v, h1, h2⟩ := h; exact ⟨f, cs, e1, e2, v, h1, hk _ _ _ (fun _ => rfl) h2⟩
    | _ => exact h.elim
  | g =>
    cases m with
    | call f args => obtain ⟨R, h1, h2⟩ := h; exact ⟨R, h1, fun v σ₁ hR hw => ⟨(h2 v σ₁ hR hw).1, fun hd => hk _ _ _ (fun _ => rfl) ((h2 v σ₁ hR hw).2 hd)⟩⟩
    | _ => exact h.elim
theorem isP_raws {m : M} (h : m.isP = true) : m.raws = true := by
  cases m with
  | raw op ty => cases op <;> first | rfl | cases h
  | _ => rfl
theorem fits_raws {k : Kn} {m : M} (h : fits P k m = true) : m.raws = true := by
  cases k with
  | p => exact isP_raws h
  | m => exact h
  | c => cases m <;> first | rfl | cases h
  | _ => cases m <;> first | rfl | cases h
theorem dm_put {k : Kn} {m : M} (hf : fits P k m = true) {K : Value → Hp → Hp → Prop} {s : Sl} {σ₀ σ : Hp} {d : Nat} {v : Value} (h : d ∉ m.rds) : dm P k m K (put s d v) σ₀ σ = dm P k m K s σ₀ σ := by
  have hr := fits_raws hf
  cases k with
  | c =>
    cases m with
    | call f args => simp only [dm, args_put args h]
    | callv x args => simp only [M.rds, List.mem_append, not_or] at h; simp only [dm, ev_put h.1, args_put args h.2]
    | _ => rfl
  | g =>
    cases m with
    | call f args => simp only [dm, args_put args h]
    | _ => rfl
  | _ => simp only [dm, mop_put hr h]
/-- A value of the slots. -/
theorem pv_spec {m : M} (hm : m.isP = true) {φ : Value → Prop} {s : Sl} {σ : Hp} (h : mop P m (fun v _ => φ v) s σ) : ∃ v, φ v ∧ ∀ (ψ : Value → Prop) (σ' : Hp), mop P m (fun v _ => ψ v) s σ' ↔ ψ v := by
  cases m with
  | raw op ty =>
    obtain ⟨v, h1, h2⟩ := h
    refine ⟨v, h2, fun ψ σ' => ⟨fun ⟨v', h3, h4⟩ => ?_, fun h4 => ⟨v, h1, h4⟩⟩⟩
    have := (h1 default).symm.trans (h3 default)
    cases this; exact h4
  | mv x => exact ⟨_, h, fun ψ σ' => Iff.rfl⟩
  | pick c a b => obtain ⟨t, e, h⟩ := onBool_elim h; exact ⟨_, h, fun ψ σ' => by simp only [mop, e, onBool_mk]⟩
  | nilc x => obtain ⟨b, o, e, h⟩ := onPtr_elim h; exact ⟨_, h, fun ψ σ' => by simp only [mop, e, onPtr_mk]⟩
  | fa off x => obtain ⟨b, o, e, h⟩ := onPtr_elim h; exact ⟨_, h, fun ψ σ' => by simp only [mop, e, onPtr_mk]⟩
  | ia size x i =>
    obtain ⟨b, o, n, c, e, h⟩ := onSlice_elim h
    obtain ⟨j, e2, h⟩ := onI64_elim h
    exact ⟨_, h.2, fun ψ σ' => by simp only [mop, e, e2, onSlice_mk, onI64_mk]; exact ⟨fun k => k.2, fun k => ⟨h.1, k⟩⟩⟩
  | bin op x y => obtain ⟨v, e, h⟩ := onSome_elim h; exact ⟨_, h, fun ψ σ' => by simp only [mop, e, onSome_some]⟩
  | eqs neg k x y => obtain ⟨v, e, h⟩ := onSome_elim h; exact ⟨_, h, fun ψ σ' => by simp only [mop, e, onSome_some]⟩
  | nt x => obtain ⟨t, e, h⟩ := onBool_elim h; exact ⟨_, h, fun ψ σ' => by simp only [mop, e, onBool_mk]⟩
  | ext i x =>
    obtain ⟨vs, e, h⟩ := onTuple_elim h
    obtain ⟨v, e2, h⟩ := onSome_elim h
    exact ⟨_, h, fun ψ σ' => by simp only [mop, e, e2, onTuple_mk, onSome_some]⟩
  | len t x => obtain ⟨v, e, h⟩ := onSome_elim h; exact ⟨_, h, fun ψ σ' => by simp only [mop, e, onSome_some]⟩
  | bld z ps => obtain ⟨v, e, h⟩ := onSome_elim h; exact ⟨_, h, fun ψ σ' => by simp only [mop, e, onSome_some]⟩
  | conv k x => obtain ⟨q, v, e, h⟩ := onInt_elim h; exact ⟨_, h, fun ψ σ' => by simp only [mop, e, onInt_mk]⟩
  | ixs x i =>
    obtain ⟨b, e, h⟩ := onStr_elim h
    obtain ⟨j, e2, h⟩ := onI64_elim h
    exact ⟨_, h.2, fun ψ σ' => by simp only [mop, e, e2, onStr_mk, onI64_mk]; exact ⟨fun k => k.2, fun k => ⟨h.1, k⟩⟩⟩
  | mx u x y =>
    obtain ⟨q, v, e, h⟩ := onInt_elim h
    obtain ⟨q', v', e2, h⟩ := onInt_elim h
    exact ⟨_, h, fun ψ σ' => by simp only [mop, e, e2, onInt_mk]⟩
  | eqa n ks x y => obtain ⟨v, e, h⟩ := onSome_elim h; exact ⟨_, h, fun ψ σ' => by simp only [mop, e, onSome_some]⟩
  | fld n off x => obtain ⟨v, e, h⟩ := onSome_elim h; exact ⟨_, h, fun ψ σ' => by simp only [mop, e, onSome_some]⟩
  | fnl g xs => obtain ⟨v, e, h⟩ := onSome_elim h; exact ⟨_, h, fun ψ σ' => by simp only [mop, e, onSome_some]⟩
  | _ => cases hm
theorem lv_spec {m : M} (hm : m.isL = true) {φ : Value → Prop} {s : Sl} {σ : Hp} (h : mop P m (fun v _ => φ v) s σ) : ∃ v, φ v ∧ ∀ (ψ : Value → Prop), mop P m (fun v _ => ψ v) s σ ↔ ψ v := by
  cases m with
  | ld sz x =>
    cases sz with
    | none =>
      obtain ⟨b, o, e, h⟩ := onPtr_elim h
      obtain ⟨v, e2, h⟩ := onSome_elim h
      exact ⟨_, h, fun ψ => by simp only [mop, e, e2, onPtr_mk, onSome_some]⟩
    | some n =>
      obtain ⟨b, o, e, h⟩ := onPtr_elim h
      obtain ⟨v, e2, h⟩ := onSome_elim h
      exact ⟨_, h, fun ψ => by simp only [mop, e, e2, onPtr_mk, onSome_some]⟩
  | look q z x i =>
    obtain ⟨v, e, h⟩ := onSome_elim h
    exact ⟨_, h, fun ψ => by simp only [mop, e, onSome_some]⟩
  | bys x =>
    obtain ⟨b, o, n, c, e, h⟩ := onSlice_elim h
    obtain ⟨vs, e2, h⟩ := onSome_elim h
    obtain ⟨ys, e3, h⟩ := onSome_elim h
    exact ⟨_, h, fun ψ => by simp only [mop, e, e2, e3, onSlice_mk, onSome_some]⟩
  | _ => cases hm
theorem runN_ended {m : Machine} {o : Outcome} {w : World} : ∀ {n k : Nat}, runN P n m = .ended o w → runN P (n + k) m = .ended o w := by
  intro n k h
  rw [runN_add, h]
theorem cv_det {f : FuncId} {args : Array Value} {σ₀ : Hp} {w : World} (hi : P.inits.idxOf? f = none) (hs : Sat σ₀ w) {v v' : Value}
    (h : ACalls P f args σ₀ fun u σ' => u = v ∧ σ' = σ₀) (h' : ACalls P f args σ₀ fun u σ' => u = v' ∧ σ' = σ₀) : v = v' := by
  have get : ∀ {v : Value}, (ACalls P f args σ₀ fun u σ' => u = v ∧ σ' = σ₀) → ∃ n w', runN P n (lone (Frame.enter P f args .normal) [] w) = .ended (.done v) w' := fun {v} h => by
    have hc := (h w hs).mono (R' := fun | .returned u, _ => u = v | _, _ => False) (fun e w' ⟨u, σ', he, _, _, hu, _⟩ => by subst he; exact hu)
    obtain ⟨n, u, w', hrun, rfl⟩ := Calls.done (R := fun u _ => u = v) hc hi
    exact ⟨n, w', hrun⟩
  obtain ⟨n, w1, h1⟩ := get h
  obtain ⟨n', w2, h2⟩ := get h'
  have e1 := runN_ended (k := n') h1
  have e2 := runN_ended (k := n) h2
  rw [Nat.add_comm] at e2
  rw [e1] at e2
  cases e2; rfl
theorem okF_init {f : FuncId} (h : okF P f = true) : P.inits.idxOf? f = none := by
  unfold okF at h
  simp only [Bool.and_eq_true] at h
  simpa using h.1
theorem fits_c {m : M} (h : fits P .c m = true) : (∃ f args, m = .call f args ∧ P.inits.idxOf? f = none) ∨ ∃ x args, m = .callv x args := by
  cases m with
  | call f args => exact .inl ⟨f, args, rfl, by simpa [fits] using h⟩
  | callv x args => exact .inr ⟨x, args, rfl⟩
  | _ => cases h
/-- The kinds that only yield a value. -/
def Kn.isV : Kn → Bool
  | .p | .l | .c => true
  | _ => false
theorem v_spec {k : Kn} {m : M} (hv : k.isV = true) (hf : fits P k m = true) {K : Value → Hp → Hp → Prop} {s : Sl} {σ₀ σ : Hp} {w : World} (hs : k = .c → Sat σ₀ w) (h : dm P k m K s σ₀ σ) :
    ∃ v, ∀ (K' : Value → Hp → Hp → Prop) (σ₀' σ' : Hp), (k ≠ .p → σ₀' = σ₀) → (dm P k m K' s σ₀' σ' ↔ K' v σ₀' σ') := by
  cases k with
  | p =>
    obtain ⟨v, _, hv⟩ := pv_spec hf h
    exact ⟨v, fun K' σ₀' σ' _ => hv (fun v => K' v σ₀' σ') σ₀'⟩
  | l =>
    obtain ⟨v, _, hv⟩ := lv_spec hf h
    exact ⟨v, fun K' σ₀' σ' e => by rw [e (by simp)]; exact hv (fun v => K' v σ₀ σ')⟩
  | c =>
    rcases fits_c hf with ⟨f, args, rfl, hi⟩ | ⟨x, args, rfl⟩
    · obtain ⟨v, h1, h2⟩ := h
      refine ⟨v, fun K' σ₀' σ' e => ?_⟩
      rw [e (by simp)]
      exact ⟨fun ⟨v', h3, h4⟩ => by rw [cv_det hi (hs rfl) h1 h3]; exact h4, fun h4 => ⟨v, h1, h4⟩⟩
    · obtain ⟨f, cs, e1, e2, v, h1, h2⟩ := h
      refine ⟨v, fun K' σ₀' σ' e => ?_⟩
      rw [e (by simp)]
      refine ⟨fun ⟨f', cs', e3, e4, v', h3, h4⟩ => ?_, fun h4 => ⟨f, cs, e1, e2, v, h1, h4⟩⟩
      rw [e1] at e3; cases e3
      rw [cv_det (okF_init e2) (hs rfl) h1 h3]; exact h4
  | _ => cases hv
theorem mop_live {m : M} {K : Value → Hp → Prop} {s : Sl} {σ : Hp} {w : World} (hs : Sat σ w) (h : mop P m K s σ) : ∃ v σ', K v σ' := by
  have hn := hs.none_of_le (Nat.le_refl _)
  cases m with
  | raw op ty => obtain ⟨v, _, h⟩ := h; exact ⟨_, _, h⟩
  | mv x => exact ⟨_, _, h⟩
  | pick c a b => obtain ⟨_, _, h⟩ := onBool_elim h; exact ⟨_, _, h⟩
  | nilc x => obtain ⟨_, _, _, h⟩ := onPtr_elim h; exact ⟨_, _, h⟩
  | fa off x => obtain ⟨_, _, _, h⟩ := onPtr_elim h; exact ⟨_, _, h⟩
  | ia size x i => obtain ⟨_, _, _, _, _, h⟩ := onSlice_elim h; obtain ⟨_, _, h⟩ := onI64_elim h; exact ⟨_, _, h.2⟩
  | bin op x y => obtain ⟨_, _, h⟩ := onSome_elim h; exact ⟨_, _, h⟩
  | eqs neg k x y => obtain ⟨_, _, h⟩ := onSome_elim h; exact ⟨_, _, h⟩
  | nt x => obtain ⟨_, _, h⟩ := onBool_elim h; exact ⟨_, _, h⟩
  | ext i x => obtain ⟨_, _, h⟩ := onTuple_elim h; obtain ⟨_, _, h⟩ := onSome_elim h; exact ⟨_, _, h⟩
  | len t x => obtain ⟨_, _, h⟩ := onSome_elim h; exact ⟨_, _, h⟩
  | bld z ps => obtain ⟨_, _, h⟩ := onSome_elim h; exact ⟨_, _, h⟩
  | conv k x => obtain ⟨_, _, _, h⟩ := onInt_elim h; exact ⟨_, _, h⟩
  | ixs x i => obtain ⟨_, _, h⟩ := onStr_elim h; obtain ⟨_, _, h⟩ := onI64_elim h; exact ⟨_, _, h.2⟩
  | mx u x y => obtain ⟨_, _, _, h⟩ := onInt_elim h; obtain ⟨_, _, _, h⟩ := onInt_elim h; exact ⟨_, _, h⟩
  | eqa n ks x y => obtain ⟨_, _, h⟩ := onSome_elim h; exact ⟨_, _, h⟩
  | fld n off x => obtain ⟨_, _, h⟩ := onSome_elim h; exact ⟨_, _, h⟩
  | new T z => exact ⟨_, _, h _ hn⟩
  | box T x => exact ⟨_, _, h _ hn⟩
  | lit E n size z ps => obtain ⟨_, _, h⟩ := onSome_elim h; exact ⟨_, _, h _ hn⟩
  | ld sz x => cases sz with
    | none => obtain ⟨_, _, _, h⟩ := onPtr_elim h; obtain ⟨_, _, h⟩ := onSome_elim h; exact ⟨_, _, h⟩
    | some n => obtain ⟨_, _, _, h⟩ := onPtr_elim h; obtain ⟨_, _, h⟩ := onSome_elim h; exact ⟨_, _, h⟩
  | st sz a x => obtain ⟨_, _, _, h⟩ := onPtr_elim h; obtain ⟨_, _, h⟩ := onSome_elim h.2.2; exact ⟨_, _, h⟩
  | call f args =>
    obtain ⟨R, h1, h2⟩ := h
    obtain ⟨e, w', fr, ⟨v, σ', _, hs', _, hR⟩, _⟩ := h1 w hs []
    exact ⟨_, _, h2 v σ' hR ⟨_, hs'⟩⟩
  | callv x args =>
    obtain ⟨f, cs, _, _, R, h1, h2⟩ := h
    obtain ⟨e, w', fr, ⟨v, σ', _, hs', _, hR⟩, _⟩ := h1 w hs []
    exact ⟨_, _, h2 v σ' hR ⟨_, hs'⟩⟩
  | mkmap num => exact ⟨_, _, h _ hn⟩
  | mks E size bytes z x => obtain ⟨j, e, h1, h2⟩ := onI64_el h; exact ⟨_, _, h2 _ hn⟩
  | fnl g xs => obtain ⟨_, _, h⟩ := onSome_elim h; exact ⟨_, _, h⟩
  | bys x => obtain ⟨_, _, _, _, _, h⟩ := onSlice_elim h; obtain ⟨_, _, h⟩ := onSome_elim h; obtain ⟨_, _, h⟩ := onSome_elim h; exact ⟨_, _, h⟩
  | look q z x i => obtain ⟨_, _, h⟩ := onSome_elim h; exact ⟨_, _, h⟩
  | mset q x i v => obtain ⟨_, _, h⟩ := onSome_elim h; exact ⟨_, _, h⟩
  | app E size bytes x y =>
    rcases h with ⟨A0, m, c, hy, hm, h⟩ | ⟨b, off, m, c, ys, hy, hrd, h1, h⟩
    · rcases h with ⟨hx, hK⟩ | ⟨b, n, cap, hx, hle, hK⟩ <;> exact ⟨_, _, hK⟩
    · rcases h with ⟨hm, hx, hK⟩ | ⟨hm, hx, hb, h63, hK⟩ | ⟨g, n, cap, xs, hx, hg, hxl, hle, hb, h63, hK⟩
      · exact ⟨_, _, hK⟩
      · exact ⟨_, _, hK _ _ hn (Nat.le_refl _)⟩
      · exact ⟨_, _, hK _ _ (.inl rfl) (Nat.le_refl _)⟩
theorem dm_live {k : Kn} {m : M} {K : Value → Hp → Hp → Prop} {s : Sl} {σ₀ σ : Hp} {w : World} (hs : Sat σ w) (hsub : Sub σ₀ σ) (h : dm P k m K s σ₀ σ) : ∃ v σ₀' σ', (k.isM = false → σ₀' = σ₀) ∧ K v σ₀' σ' := by
  have hs0 := hs.sub hsub
  cases k with
  | p => simp only [dm] at h; obtain ⟨_, _, h⟩ := mop_live hs0 h; exact ⟨_, _, _, fun _ => rfl, h⟩
  | l => simp only [dm] at h; obtain ⟨_, _, h⟩ := mop_live hs0 h; exact ⟨_, _, _, fun _ => rfl, h⟩
  | f => simp only [dm] at h; obtain ⟨_, _, h⟩ := mop_live hs h; exact ⟨_, _, _, fun _ => rfl, h⟩
  | r => simp only [dm] at h; obtain ⟨_, _, h⟩ := mop_live hs h; exact ⟨_, _, _, fun _ => rfl, h⟩
  | w => simp only [dm] at h; obtain ⟨_, _, h⟩ := mop_live hs h; exact ⟨_, _, _, fun _ => rfl, h.2⟩
  | m => simp only [dm] at h; obtain ⟨_, _, h⟩ := mop_live hs h; exact ⟨_, _, _, (fun h => by cases h), h⟩
  | u => simp only [dm] at h; obtain ⟨_, _, h⟩ := mop_live hs h; exact ⟨_, _, _, (fun h => by cases h), h⟩
  | c =>
    cases m with
    | call f args => obtain ⟨v, h1, h2⟩ := h; exact ⟨_, _, _, fun _ => rfl, h2⟩
    | callv x args => obtain ⟨_, _, _, _, v, h1, h2⟩ := h; exact ⟨_, _, _, fun _ => rfl, h2⟩
    | _ => exact h.elim
  | g =>
    cases m with
    | call f args =>
      obtain ⟨R, h1, h2⟩ := h
      obtain ⟨e, w', fr, ⟨v, σ', _, hs', hf, hR⟩, _⟩ := h1 w hs0 []
      refine ⟨_, _, _, fun _ => rfl, (h2 v σ' hR ⟨_, hs'⟩).2 fun k hk hk' => ?_⟩
      by_cases hlt : k < w.heap.size
      · exact absurd (hf.know k hlt hk) hk'
      · exact hs.none_of_le (by omega)
    | _ => exact h.elim
structure DO where
  mo : MO
  k : Kn
def DO.rds (x : DO) : List Nat := x.mo.m.rds ++ (match x.mo.g with | some (d, _) => [d] | none => [])
def dmv (P : Program) (x : DO) (K : Value → Hp → Hp → Prop) (s : Sl) (σ₀ σ : Hp) : Prop := if gd x.mo.g s = true then dm P x.k x.mo.m K s σ₀ σ else K undef σ₀ σ
def dm1 (P : Program) (x : DO) (K : Sl → Hp → Hp → Prop) (s : Sl) (σ₀ σ : Hp) : Prop := dmv P x (fun v σ₀' σ' => K (putO s x.mo.d v) σ₀' σ') s σ₀ σ
theorem gd_put {g : Option (Nat × Bool)} {s : Sl} {d : Nat} {v : Value} (h : d ∉ (match g with | some (d, _) => [d] | none => [])) : gd g (put s d v) = gd g s := by
  cases g with
  | none => rfl
  | some q =>
    obtain ⟨e, want⟩ := q
    have : e ≠ d := fun h' => h (by simp [h'])
    simp [gd, put, this]
theorem dmv_put {x : DO} (hf : fits P x.k x.mo.m = true) {K : Value → Hp → Hp → Prop} {s : Sl} {σ₀ σ : Hp} {d : Option Nat} {v : Value} (h : ∀ e, d = some e → e ∉ x.rds) : dmv P x K (putO s d v) σ₀ σ = dmv P x K s σ₀ σ := by
  cases d with
  | none => rfl
  | some d =>
    have h := h d rfl
    simp only [DO.rds, List.mem_append, not_or] at h
    simp only [putO, dmv, gd_put h.2, dm_put hf h.1]
theorem dmv_mono {x : DO} {K K' : Value → Hp → Hp → Prop} {s : Sl} {σ₀ σ : Hp} (h : dmv P x K s σ₀ σ) (hk : ∀ v σ₀' σ', (¬ (gd x.mo.g s = true ∧ x.k.isM = true) → σ₀' = σ₀) → K v σ₀' σ' → K' v σ₀' σ') : dmv P x K' s σ₀ σ := by
  unfold dmv at *
  split
  · rename_i hg
    rw [if_pos hg] at h
    exact dm_mono h fun v σ₀' σ' he hK => hk v σ₀' σ' (fun hn => he (notM fun e => hn ⟨hg, e⟩)) hK
  · rename_i hg
    rw [if_neg hg] at h
    exact hk _ _ _ (fun _ => rfl) h
theorem dmv_live {x : DO} {K : Value → Hp → Hp → Prop} {s : Sl} {σ₀ σ : Hp} {w : World} (hs : Sat σ w) (hsub : Sub σ₀ σ) (h : dmv P x K s σ₀ σ) : ∃ v σ₀' σ', (¬ (gd x.mo.g s = true ∧ x.k.isM = true) → σ₀' = σ₀) ∧ K v σ₀' σ' := by
  unfold dmv at h
  split at h
  · rename_i hg
    obtain ⟨v, a, b, e, hK⟩ := dm_live hs hsub h
    exact ⟨v, a, b, fun hn => e (notM fun e => hn ⟨hg, e⟩), hK⟩
  · exact ⟨_, _, _, fun _ => rfl, h⟩
theorem dv_spec {x : DO} {s : Sl} (hv : gd x.mo.g s = true → x.k.isV = true) (hf : fits P x.k x.mo.m = true) {K : Value → Hp → Hp → Prop} {σ₀ σ : Hp} {w : World} (hs : x.k = .c → Sat σ₀ w) (h : dmv P x K s σ₀ σ) :
    ∃ v, ∀ (K' : Value → Hp → Hp → Prop) (σ₀' σ' : Hp), (gd x.mo.g s = true → x.k ≠ .p → σ₀' = σ₀) → (dmv P x K' s σ₀' σ' ↔ K' v σ₀' σ') := by
  by_cases hg : gd x.mo.g s = true
  · simp only [dmv, hg, if_true] at h ⊢
    obtain ⟨v, hv⟩ := v_spec (hv hg) hf hs h
    exact ⟨v, fun K' σ₀' σ' e => hv K' σ₀' σ' (e trivial)⟩
  · exact ⟨undef, fun K' σ₀' σ' _ => by simp only [dmv, hg, if_false]; exact Iff.rfl⟩
def Apart (x y : DO) : Prop := (∀ d, x.mo.d = some d → d ∉ y.rds) ∧ (∀ d, y.mo.d = some d → d ∉ x.rds) ∧ (∀ d, x.mo.d = some d → y.mo.d ≠ some d)
theorem putO_comm (s : Sl) {a b : Option Nat} (u v : Value) (h : ∀ d, a = some d → b ≠ some d) : putO (putO s a u) b v = putO (putO s b v) a u := by
  cases a with
  | none => rfl
  | some d =>
    cases b with
    | none => rfl
    | some e =>
      have hne : d ≠ e := fun e' => h d rfl (by rw [e'])
      funext i
      simp only [putO, put]
      by_cases h1 : i = d
      · subst h1; simp [hne]
      · by_cases h2 : i = e
        · subst h2; simp [h1]
        · simp [h1, h2]
variable {x y : DO} {K : Sl → Hp → Hp → Prop} {s : Sl} {σ₀ σ : Hp} {w : World}
theorem swap_vy (ha : Apart x y) (hfx : fits P x.k x.mo.m = true) (hfy : fits P y.k y.mo.m = true) (hv : gd x.mo.g s = true → x.k.isV = true) (hm : gd x.mo.g s = true → gd y.mo.g s = true → y.k.isM = true → x.k = .p) (hs : Sat σ w) (hsub : Sub σ₀ σ)
    (h : dm1 P x (dm1 P y K) s σ₀ σ) : dm1 P y (dm1 P x K) s σ₀ σ := by
  obtain ⟨v, hv⟩ := dv_spec hv hfx (fun _ => hs.sub hsub) h
  have h2 : dm1 P y K (putO s x.mo.d v) σ₀ σ := (hv (fun v σ₀' σ' => dm1 P y K (putO s x.mo.d v) σ₀' σ') σ₀ σ (fun _ _ => rfl)).1 h
  unfold dm1 at h2
  rw [dmv_put hfy ha.1] at h2
  unfold dm1
  refine dmv_mono h2 fun u σ₀' σ' he hK => ?_
  rw [dmv_put hfx ha.2.1]
  refine (hv _ σ₀' σ' fun hg hp => he fun ⟨hgy, hky⟩ => hp (hm hg hgy hky)).2 ?_
  rw [← putO_comm s v u ha.2.2]; exact hK
theorem swap_yv (ha : Apart y x) (hfx : fits P x.k x.mo.m = true) (hfy : fits P y.k y.mo.m = true) (hv : gd x.mo.g s = true → x.k.isV = true) (hm : gd x.mo.g s = true → gd y.mo.g s = true → y.k.isM = true → x.k = .p) (hs : Sat σ w) (hsub : Sub σ₀ σ)
    (h : dm1 P y (dm1 P x K) s σ₀ σ) : dm1 P x (dm1 P y K) s σ₀ σ := by
  unfold dm1 at h
  obtain ⟨u, σ₁, σ', he, hx⟩ := dmv_live hs hsub h
  rw [dmv_put hfx ha.1] at hx
  have hval : ∃ v, ∀ (K' : Value → Hp → Hp → Prop) (σ₀' σ' : Hp), (gd x.mo.g s = true → x.k ≠ .p → σ₀' = σ₀) → (dmv P x K' s σ₀' σ' ↔ K' v σ₀' σ') := by
    by_cases hc : gd x.mo.g s = true ∧ x.k ≠ .p
    · have e : σ₁ = σ₀ := he fun ⟨hgy, hky⟩ => hc.2 (hm hc.1 hgy hky)
      subst e
      exact dv_spec hv hfx (fun _ => hs.sub hsub) hx
    · have hcc : x.k = .c → gd x.mo.g s = true → False := fun e hg => hc ⟨hg, by rw [e]; simp⟩
      by_cases hg : gd x.mo.g s = true
      · have hp : x.k = .p := Classical.byContradiction fun hn => hc ⟨hg, hn⟩
        obtain ⟨v, hv⟩ := dv_spec (w := w) hv hfx (fun e => by rw [hp] at e; cases e) hx
        exact ⟨v, fun K' σ₀' σ' _ => hv K' σ₀' σ' fun _ hn => absurd hp hn⟩
      · exact ⟨undef, fun K' σ₀' σ' _ => by simp only [dmv, hg, if_false]; exact Iff.rfl⟩
  obtain ⟨v, hv⟩ := hval
  unfold dm1
  refine (hv _ σ₀ σ fun _ _ => rfl).2 ?_
  rw [dmv_put hfy ha.2.1]
  refine dmv_mono h fun u σ₀' σ' he hK => ?_
  rw [dmv_put hfx ha.1] at hK
  have := (hv _ σ₀' σ' fun hg hp => he fun ⟨hgy, hky⟩ => hp (hm hg hgy hky)).1 hK
  rw [← putO_comm s u v ha.2.2]; exact this
theorem f_spec {m : M} (hm : m.isF = true) {K : Value → Hp → Prop} {s : Sl} {σ : Hp} (h : mop P m K s σ) : ∃ (mk : Nat → Value) (o : Blk), ∀ (K' : Value → Hp → Prop) (σ' : Hp), mop P m K' s σ' ↔ ∀ b, σ' b = none → K' (mk b) (upd σ' b o) := by
  cases m with
  | new T z => exact ⟨_, _, fun K' σ' => Iff.rfl⟩
  | box T x => exact ⟨_, _, fun K' σ' => Iff.rfl⟩
  | lit E n size z ps =>
    obtain ⟨cs, e, h⟩ := onSome_elim h
    exact ⟨fun b => .slice (some ⟨b, 0, none⟩) n n, .row cs cs.length E, fun K' σ' => by simp only [mop, e, onSome_some]⟩
  | mkmap num => exact ⟨fun b => .map (some b), _, fun K' σ' => Iff.rfl⟩
  | _ => cases hm
theorem swap_ff (ha : Apart x y) (hfx : fits P x.k x.mo.m = true) (hfy : fits P y.k y.mo.m = true) (hgx : gd x.mo.g s = true) (hgy : gd y.mo.g s = true) (hkx : x.k = .f) (hky : y.k = .f) (hs : Sat σ w)
    (h : dm1 P x (dm1 P y K) s σ₀ σ) : dm1 P y (dm1 P x K) s σ₀ σ := by
  have hcx : ∀ (K : Value → Hp → Hp → Prop) σ₀ σ, dmv P x K s σ₀ σ = mop P x.mo.m (fun v σ' => K v σ₀ σ') s σ := fun K σ₀ σ => by simp only [dmv, hgx, if_true, hkx, dm]
  have hcy : ∀ (K : Value → Hp → Hp → Prop) σ₀ σ, dmv P y K s σ₀ σ = mop P y.mo.m (fun v σ' => K v σ₀ σ') s σ := fun K σ₀ σ => by simp only [dmv, hgy, if_true, hky, dm]
  have hfx' : x.mo.m.isF = true := by rw [hkx] at hfx; exact hfx
  have hfy' : y.mo.m.isF = true := by rw [hky] at hfy; exact hfy
  unfold dm1 at h ⊢
  rw [hcx] at h
  obtain ⟨mk1, o1, h1⟩ := f_spec hfx' h
  have h := (h1 _ _).1 h
  have hy0 := h _ (hs.none_of_le (Nat.le_refl _))
  rw [dmv_put hfy ha.1, hcy] at hy0
  obtain ⟨mk2, o2, h2⟩ := f_spec hfy' hy0
  rw [hcy]
  refine (h2 _ _).2 fun b2 hb2 => ?_
  rw [dmv_put hfx ha.2.1, hcx]
  refine (h1 _ _).2 fun b1 hb1 => ?_
  have hne : b1 ≠ b2 := fun e => by subst e; rw [upd_same] at hb1; cases hb1
  rw [upd_ne _ _ hne] at hb1
  have := h b1 hb1
  rw [dmv_put hfy ha.1, hcy] at this
  have := (h2 _ _).1 this b2 (by rw [upd_ne _ _ (Ne.symm hne)]; exact hb2)
  rw [upd_comm _ _ _ (Ne.symm hne), ← putO_comm s _ _ ha.2.2]; exact this
theorem wr_upd {σ σ1 : Hp} {b tb off : Nat} {vs : List Value} {o : Blk} (hb : σ b = none) (h : wr σ tb off vs = some σ1) : wr (upd σ b o) tb off vs = some (upd σ1 b o) ∧ σ1 b = none := by
  have hne : tb ≠ b := fun e => by
    subst e; unfold wr at h; rw [hb] at h; cases h
  unfold wr at h ⊢
  rw [upd_ne _ _ hne]
  cases hx : σ tb with
  | none => rw [hx] at h; cases h
  | some q =>
    rw [hx] at h
    cases q with
    | cells cs t =>
      dsimp only at h ⊢
      split at h
      · rename_i hle; cases h; rw [if_pos hle]; exact ⟨by rw [upd_comm _ _ _ (Ne.symm hne)], by rw [upd_ne _ _ (Ne.symm hne)]; exact hb⟩
      · cases h
    | row cs r t =>
      dsimp only at h ⊢
      split at h
      · rename_i hle; cases h; rw [if_pos hle]; exact ⟨by rw [upd_comm _ _ _ (Ne.symm hne)], by rw [upd_ne _ _ (Ne.symm hne)]; exact hb⟩
      · cases h
    | dead => cases h
    | ro x => cases h
    | mp l => cases h
    | im l => cases h
theorem rdn_upd_none {σ : Hp} {b tb off n : Nat} {ys : List Value} {o : Blk} (hb : σ b = none) (h : rdn σ tb off n = some ys) : rdn (upd σ b o) tb off n = some ys := by
  have hne : tb ≠ b := fun e => by
    subst e; unfold rdn at h; rw [hb] at h; cases h
  unfold rdn at h ⊢
  rw [upd_ne _ _ hne]; exact h
theorem w_upd {m : M} (hm : m.isW = true) {K1 K2 : Value → Hp → Prop} {s : Sl} {σ : Hp} {b : Nat} {o : Blk} (hb : σ b = none) (h : mop P m K1 s σ) (hk : ∀ v σ1, K1 v σ1 → σ1 b = none → K2 v (upd σ1 b o)) : mop P m K2 s (upd σ b o) := by
  cases m with
  | st sz a x =>
    obtain ⟨tb, off, e, h1, h2, h⟩ := onPtr_elim h
    obtain ⟨σ1, hw, hK⟩ := onSome_elim h
    obtain ⟨hw2, hn⟩ := wr_upd (o := o) hb hw
    simp only [mop, e, onPtr_mk, hw2, onSome_some]
    exact ⟨h1, h2, hk _ _ hK hn⟩
  | app E size bytes x y =>
    rcases h with ⟨A0, m, c, hy, hm, h⟩ | ⟨b0, off, m, c, ys, hy, hrd, h1, h⟩
    · rcases h with ⟨hx, hK⟩ | ⟨b', n, cap, hx, hle, hK⟩
      · exact .inl ⟨A0, m, c, hy, hm, .inl ⟨hx, hk _ _ hK hb⟩⟩
      · exact .inl ⟨A0, m, c, hy, hm, .inr ⟨b', n, cap, hx, hle, hk _ _ hK hb⟩⟩
    · have hrd' := rdn_upd_none (o := o) hb hrd
      rcases h with ⟨hm, hx, hK⟩ | ⟨hm, hx, hb2, h63, hK⟩ | ⟨g, n, cap, xs, hx, hg, hxl, hle, hb2, h63, hK⟩
      · exact .inr ⟨b0, off, m, c, ys, hy, hrd', h1, .inl ⟨hm, hx, hk _ _ hK hb⟩⟩
      · refine .inr ⟨b0, off, m, c, ys, hy, hrd', h1, .inr (.inl ⟨hm, hx, hb2, h63, fun b' c' h2 h3 => ?_⟩)⟩
        have hne : b' ≠ b := fun e => by subst e; rw [upd_same] at h2; cases h2
        rw [upd_ne _ _ hne] at h2
        rw [upd_comm _ _ _ (Ne.symm hne)]
        exact hk _ _ (hK b' c' h2 h3) (by rw [upd_ne _ _ (Ne.symm hne)]; exact hb)
      · have hgb : g ≠ b := fun e => by subst e; rw [hb] at hg; cases hg
        refine .inr ⟨b0, off, m, c, ys, hy, hrd', h1, .inr (.inr ⟨g, n, cap, xs, hx, by rw [upd_ne _ _ hgb]; exact hg, hxl, hle, hb2, h63, fun b' c' h2 h3 => ?_⟩)⟩
        have hne : b' ≠ b := fun e => by
          rcases h2 with h2 | h2
          · exact hgb (h2.symm.trans e)
          · subst e; rw [upd_same] at h2; cases h2
        have h2' : b' = g ∨ σ b' = none := h2.imp id fun h => by rw [upd_ne _ _ hne] at h; exact h
        rw [upd_comm _ _ _ (Ne.symm hgb), upd_comm _ _ _ (Ne.symm hne)]
        exact hk _ _ (hK b' c' h2' h3) (by rw [upd_ne _ _ (Ne.symm hne), upd_ne _ _ (Ne.symm hgb)]; exact hb)
  | _ => cases hm
theorem swap_wf (ha : Apart x y) (hfx : fits P x.k x.mo.m = true) (hfy : fits P y.k y.mo.m = true) (hgx : gd x.mo.g s = true) (hgy : gd y.mo.g s = true) (hkx : x.k = .w) (hky : y.k = .f) (hs : Sat σ w) (hsub : Sub σ₀ σ)
    (h : dm1 P x (dm1 P y K) s σ₀ σ) : dm1 P y (dm1 P x K) s σ₀ σ := by
  have hcx : ∀ (K : Value → Hp → Hp → Prop) σ₀ σ, dmv P x K s σ₀ σ = mop P x.mo.m (fun v σ' => Sub σ₀ σ' ∧ K v σ₀ σ') s σ := fun K σ₀ σ => by simp only [dmv, hgx, if_true, hkx, dm]
  have hcy : ∀ (K : Value → Hp → Hp → Prop) σ₀ σ, dmv P y K s σ₀ σ = mop P y.mo.m (fun v σ' => K v σ₀ σ') s σ := fun K σ₀ σ => by simp only [dmv, hgy, if_true, hky, dm]
  have hfx' : x.mo.m.isW = true := by rw [hkx] at hfx; exact hfx
  have hfy' : y.mo.m.isF = true := by rw [hky] at hfy; exact hfy
  unfold dm1 at h ⊢
  rw [hcx] at h
  obtain ⟨v0, σ1, _, hy0⟩ := mop_live hs h
  rw [dmv_put hfy ha.1, hcy] at hy0
  obtain ⟨mk2, o2, h2⟩ := f_spec hfy' hy0
  rw [hcy]
  refine (h2 _ _).2 fun b hb => ?_
  rw [dmv_put hfx ha.2.1, hcx]
  refine w_upd hfx' hb h fun v σ1 hK hn => ?_
  obtain ⟨hsub1, hK⟩ := hK
  rw [dmv_put hfy ha.1, hcy] at hK
  have := (h2 _ _).1 hK b hn
  refine ⟨fun i => ?_, by rw [← putO_comm s _ _ ha.2.2]; exact this⟩
  by_cases e : i = b
  · subst e; left; rcases hsub i with h | h
    · exact h
    · exact h.trans hb
  · rw [upd_ne _ _ e]; exact hsub1 i
/-- A call, asked of what the region found, holds over what there is now. -/
theorem acalls_frame {f : FuncId} {args : Array Value} {R : Value → Hp → Prop} (hsub : Sub σ₀ σ) (h : ACalls P f args σ₀ R) (hgrow : ∀ v σ₁, R v σ₁ → (∃ w, Sat σ₁ w) → Sub σ₀ σ₁) :
    ACalls P f args σ fun v σ' => ∃ σ₁, R v σ₁ ∧ (∃ w, Sat σ₁ w) ∧ (∀ k, σ₀ k = none → σ₁ k ≠ none → σ k = none) ∧ σ' = mrg σ₀ σ₁ σ := fun w hs => by
  refine (h w (hs.sub hsub)).mono ?_
  rintro e w' ⟨v, σ₁, he, hs', hf, hR⟩
  have hg := hgrow v σ₁ hR ⟨_, hs'⟩
  have hdis : ∀ k, σ₀ k = none → σ₁ k ≠ none → σ k = none := fun k hk hk' => by
    by_cases hlt : k < w.heap.size
    · exact absurd (hf.know k hlt hk) hk'
    · exact hs.none_of_le (by omega)
  refine ⟨v, mrg σ₀ σ₁ σ, he, fun b o hb => ?_, ⟨hf.os, hf.tape, hf.output, hf.size, fun k hk hn => ?_, fun k hk hn => ?_⟩, σ₁, hR, ⟨_, hs'⟩, hdis, rfl⟩
  · simp only [mrg] at hb
    split at hb
    · rename_i o' _ h1; cases hb; exact hs' b _ h1
    · rename_i hnot
      cases h0 : σ₀ b with
      | none =>
        have h1 : σ₁ b = none := by
          cases h1 : σ₁ b with
          | none => rfl
          | some o' => exact absurd h1 (hnot o' h0)
        have hlt := hs.lt (b := b) (by rw [hb]; simp)
        rw [hf.block b hlt h0]; exact hs b o hb
      | some o0 =>
        have e1 : σ b = some o0 := by
          rcases hsub b with e | e
          · rw [e] at h0; cases h0
          · rw [← e]; exact h0
        have e2 : σ₁ b = some o0 := by
          rcases hg b with e | e
          · rw [e] at h0; cases h0
          · rw [← e]; exact h0
        rw [e1] at hb; cases hb
        exact hs' b _ e2
  · have h0 : σ₀ k = none := by
      rcases hsub k with e | e
      · exact e
      · rw [e]; exact hn
    exact hf.block k hk h0
  · have h0 : σ₀ k = none := by
      rcases hsub k with e | e
      · exact e
      · rw [e]; exact hn
    have h1 := hf.know k hk h0
    simp only [mrg, h0, h1]; exact hn
theorem swap_gf (ha : Apart x y) (hfx : fits P x.k x.mo.m = true) (hfy : fits P y.k y.mo.m = true) (hgx : gd x.mo.g s = true) (hgy : gd y.mo.g s = true) (hkx : x.k = .g) (hky : y.k = .f) (hs : Sat σ w) (hsub : Sub σ₀ σ)
    (h : dm1 P x (dm1 P y K) s σ₀ σ) : dm1 P y (dm1 P x K) s σ₀ σ := by
  have hcy : ∀ (K : Value → Hp → Hp → Prop) σ₀ σ, dmv P y K s σ₀ σ = mop P y.mo.m (fun v σ' => K v σ₀ σ') s σ := fun K σ₀ σ => by simp only [dmv, hgy, if_true, hky, dm]
  have hfx' : x.mo.m.isC = true := by rw [hkx] at hfx; exact hfx
  have hfy' : y.mo.m.isF = true := by rw [hky] at hfy; exact hfy
  obtain ⟨f, args, hm⟩ : ∃ f args, x.mo.m = .call f args := by
    cases hx : x.mo.m <;> rw [hx] at hfx' <;> first | exact ⟨_, _, rfl⟩ | cases hfx'
  have hcx : ∀ (K : Value → Hp → Hp → Prop) σ₀ σ, dmv P x K s σ₀ σ = ∃ R, ACalls P f (args.map (ev s)).toArray σ₀ R ∧ ∀ v σ₁, R v σ₁ → (∃ w, Sat σ₁ w) → Sub σ₀ σ₁ ∧ ((∀ k, σ₀ k = none → σ₁ k ≠ none → σ k = none) → K v σ₀ (mrg σ₀ σ₁ σ)) := fun K σ₀ σ => by
    simp only [dmv, hgx, if_true, hkx, hm, dm]
  unfold dm1 at h ⊢
  rw [hcx] at h
  obtain ⟨R, hR, h⟩ := h
  obtain ⟨v0, σ', ⟨σ₁, hR1, hS1, hd1, _⟩⟩ := mop_live (P := P) (m := .call f args) (s := s) (K := fun v σ' => ∃ σ₁, R v σ₁ ∧ (∃ w, Sat σ₁ w) ∧ (∀ k, σ₀ k = none → σ₁ k ≠ none → σ k = none) ∧ σ' = mrg σ₀ σ₁ σ) hs
    ⟨_, acalls_frame hsub hR (fun v σ₁ a b => (h v σ₁ a b).1), fun v σ' a _ => a⟩
  have hy0 := (h v0 σ₁ hR1 hS1).2 hd1
  rw [dmv_put hfy ha.1, hcy] at hy0
  obtain ⟨mk2, o2, h2⟩ := f_spec hfy' hy0
  rw [hcy]
  refine (h2 _ _).2 fun b hb => ?_
  rw [dmv_put hfx ha.2.1, hcx]
  refine ⟨R, hR, fun v σ₂ a hS => ⟨(h v σ₂ a hS).1, fun hd => ?_⟩⟩
  have hb0 : σ₀ b = none := by
    rcases hsub b with e | e
    · exact e
    · rw [e]; exact hb
  have hb2 : σ₂ b = none := Classical.byContradiction fun e => by
    have := hd b hb0 e
    rw [upd_same] at this; cases this
  have hd' : ∀ k, σ₀ k = none → σ₂ k ≠ none → σ k = none := fun k k0 k2 => by
    have := hd k k0 k2
    by_cases e : k = b
    · subst e; exact hb
    · rwa [upd_ne _ _ e] at this
  have hK := (h v σ₂ a hS).2 hd'
  rw [dmv_put hfy ha.1, hcy] at hK
  have hmb : mrg σ₀ σ₂ σ b = none := by unfold mrg; rw [hb0, hb2]; exact hb
  have := (h2 _ _).1 hK b hmb
  have e : mrg σ₀ σ₂ (upd σ b o2) = upd (mrg σ₀ σ₂ σ) b o2 := by
    funext k
    by_cases e : k = b
    · subst e; rw [upd_same]; unfold mrg; rw [hb0, hb2, upd_same]
    · rw [upd_ne _ _ e]; unfold mrg; rw [upd_ne _ _ e]
  rw [e, ← putO_comm s _ _ ha.2.2]
  exact this
/-- What only reads, reads at one place that its slots tell. -/
theorem r_spec {m : M} (hm : m.isR = true) {s : Sl} : (∀ (K : Value → Hp → Prop) (σ' : Hp), ¬ mop P m K s σ') ∨ ∃ (a : Nat) (val : Option Blk → Option Value), val none = none ∧ ∀ (K : Value → Hp → Prop) (σ' : Hp), mop P m K s σ' ↔ ∃ v, val (σ' a) = some v ∧ K v σ' := by
  cases m with
  | ld sz x =>
    by_cases hx : ∃ b o, ev s x = .pointer (some ⟨b, o, none⟩)
    · obtain ⟨b, o, e⟩ := hx
      right
      cases sz with
      | none =>
        refine ⟨b, fun q => rd (fun _ => q) b o, rfl, fun K σ' => ?_⟩
        have e2 : rd (fun _ => σ' b) b o = rd σ' b o := rfl
        simp only [mop, e, onPtr_mk, e2]
        cases rd σ' b o <;> simp [onSome]
      | some n =>
        refine ⟨b, fun q => (rdn (fun _ => q) b o n).map fun vs => .agg vs.toArray, rfl, fun K σ' => ?_⟩
        have e2 : rdn (fun _ => σ' b) b o n = rdn σ' b o n := rfl
        simp only [mop, e, onPtr_mk, e2]
        cases rdn σ' b o n <;> simp [onSome]
    · left
      intro K σ' h
      cases sz <;> (obtain ⟨b, o, e, _⟩ := onPtr_elim h; exact hx ⟨b, o, e⟩)
  | bys x =>
    by_cases hx : ∃ b o n c, ev s x = .slice (some ⟨b, o, none⟩) n c
    · obtain ⟨b, o, n, c, e⟩ := hx
      right
      refine ⟨b, fun q => ((rdn (fun _ => q) b o n).bind u8s).map fun ys => .string (strOfNums ys), rfl, fun K σ' => ?_⟩
      have e2 : rdn (fun _ => σ' b) b o n = rdn σ' b o n := rfl
      simp only [mop, e, onSlice_mk, e2]
      cases rdn σ' b o n with
      | none => simp [onSome]
      | some vs => cases hu : u8s vs <;> simp [onSome, hu]
    · left
      intro K σ' h
      obtain ⟨b, o, n, c, e, _⟩ := onSlice_elim h
      exact hx ⟨b, o, n, c, e⟩
  | _ => cases hm
theorem l_spec {m : M} (hm : m.isL = true) {s : Sl} : (∀ (K : Value → Hp → Prop) (σ' : Hp), ¬ mop P m K s σ') ∨ (∃ v, ∀ (K : Value → Hp → Prop) (σ' : Hp), mop P m K s σ' ↔ K v σ') ∨
    ∃ (a : Nat) (val : Option Blk → Option Value), val none = none ∧ ∀ (K : Value → Hp → Prop) (σ' : Hp), mop P m K s σ' ↔ ∃ v, val (σ' a) = some v ∧ K v σ' := by
  by_cases hr : m.isR = true
  · rcases r_spec (P := P) (s := s) hr with h | h
    · exact .inl h
    · exact .inr (.inr h)
  · cases m with
    | look q z x i =>
      by_cases hx : ∃ b, ev s x = .map (some b)
      · obtain ⟨b, e⟩ := hx
        refine .inr (.inr ⟨b, fun o => o.bind (bread q z (ev s i)), rfl, fun K σ' => ?_⟩)
        simp only [mop, e, mreadV]
        cases (σ' b).bind (bread q z (ev s i)) <;> simp [onSome]
      · have hc : ∀ σ', mreadV σ' (ev s x) q z (ev s i) = mreadV (fun _ => none) (ev s x) q z (ev s i) := fun σ' => by
          unfold mreadV
          split
          · rfl
          · rename_i b e; exact absurd ⟨b, e⟩ hx
          · rfl
        cases hv : mreadV (fun _ => none) (ev s x) q z (ev s i) with
        | none => exact .inl fun K σ' h => by simp only [mop, hc σ', hv, onSome] at h
        | some v => exact .inr (.inl ⟨v, fun K σ' => by simp only [mop, hc σ', hv, onSome_some]⟩)
    | ld sz x => exact absurd rfl hr
    | bys x => exact absurd rfl hr
    | _ => cases hm
theorem swap_fr (ha : Apart x y) (hfx : fits P x.k x.mo.m = true) (hfy : fits P y.k y.mo.m = true) (hgx : gd x.mo.g s = true) (hgy : gd y.mo.g s = true) (hkx : x.k = .f) (hky : y.k = .r) (hs : Sat σ w)
    (h : dm1 P x (dm1 P y K) s σ₀ σ) : dm1 P y (dm1 P x K) s σ₀ σ := by
  have hcx : ∀ (K : Value → Hp → Hp → Prop) σ₀ σ, dmv P x K s σ₀ σ = mop P x.mo.m (fun v σ' => K v σ₀ σ') s σ := fun K σ₀ σ => by simp only [dmv, hgx, if_true, hkx, dm]
  have hcy : ∀ (K : Value → Hp → Hp → Prop) σ₀ σ, dmv P y K s σ₀ σ = mop P y.mo.m (fun v _ => K v σ₀ σ) s σ := fun K σ₀ σ => by simp only [dmv, hgy, if_true, hky, dm]
  have hfx' : x.mo.m.isF = true := by rw [hkx] at hfx; exact hfx
  have hfy' : y.mo.m.isR = true := by rw [hky] at hfy; exact hfy
  unfold dm1 at h ⊢
  rw [hcx] at h
  obtain ⟨mk1, o1, h1⟩ := f_spec hfx' h
  have h := (h1 _ _).1 h
  rw [hcy]
  rcases r_spec (P := P) (s := s) hfy' with hno | ⟨a, val, hv0, hval⟩
  · have hy0 := h _ (hs.none_of_le (Nat.le_refl _))
    rw [dmv_put hfy ha.1, hcy] at hy0
    exact absurd hy0 (hno _ _)
  · obtain ⟨b0, hb0, hne0⟩ : ∃ b0, σ b0 = none ∧ a ≠ b0 := by
      by_cases e : a = w.heap.size
      · exact ⟨w.heap.size + 1, hs.none_of_le (by omega), by omega⟩
      · exact ⟨w.heap.size, hs.none_of_le (Nat.le_refl _), e⟩
    have hy0 := h b0 hb0
    rw [dmv_put hfy ha.1, hcy] at hy0
    obtain ⟨v, hv, _⟩ := (hval _ _).1 hy0
    rw [upd_ne _ _ hne0] at hv
    refine (hval _ _).2 ⟨v, hv, ?_⟩
    rw [dmv_put hfx ha.2.1, hcx]
    refine (h1 _ _).2 fun b hb => ?_
    have hne : a ≠ b := fun e => by rw [e, hb, hv0] at hv; cases hv
    have hy := h b hb
    rw [dmv_put hfy ha.1, hcy] at hy
    obtain ⟨v', hv', hK⟩ := (hval _ _).1 hy
    rw [upd_ne _ _ hne, hv] at hv'
    cases hv'
    rw [← putO_comm s _ _ ha.2.2]; exact hK
theorem swap_rf (ha : Apart x y) (hfx : fits P x.k x.mo.m = true) (hfy : fits P y.k y.mo.m = true) (hgx : gd x.mo.g s = true) (hgy : gd y.mo.g s = true) (hkx : x.k = .r) (hky : y.k = .f) (hs : Sat σ w)
    (h : dm1 P x (dm1 P y K) s σ₀ σ) : dm1 P y (dm1 P x K) s σ₀ σ := by
  have hcx : ∀ (K : Value → Hp → Hp → Prop) σ₀ σ, dmv P x K s σ₀ σ = mop P x.mo.m (fun v _ => K v σ₀ σ) s σ := fun K σ₀ σ => by simp only [dmv, hgx, if_true, hkx, dm]
  have hcy : ∀ (K : Value → Hp → Hp → Prop) σ₀ σ, dmv P y K s σ₀ σ = mop P y.mo.m (fun v σ' => K v σ₀ σ') s σ := fun K σ₀ σ => by simp only [dmv, hgy, if_true, hky, dm]
  have hfx' : x.mo.m.isR = true := by rw [hkx] at hfx; exact hfx
  have hfy' : y.mo.m.isF = true := by rw [hky] at hfy; exact hfy
  unfold dm1 at h ⊢
  rw [hcx] at h
  rcases r_spec (P := P) (s := s) hfx' with hno | ⟨a, val, hv0, hval⟩
  · exact absurd h (hno _ _)
  · obtain ⟨v, hv, h⟩ := (hval _ _).1 h
    rw [dmv_put hfy ha.1, hcy] at h
    obtain ⟨mk2, o2, h2⟩ := f_spec hfy' h
    have h := (h2 _ _).1 h
    rw [hcy]
    refine (h2 _ _).2 fun b hb => ?_
    have hne : a ≠ b := fun e => by rw [e, hb, hv0] at hv; cases hv
    rw [dmv_put hfx ha.2.1, hcx]
    refine (hval _ _).2 ⟨v, by rw [upd_ne _ _ hne]; exact hv, ?_⟩
    rw [← putO_comm s _ _ ha.2.2]; exact h b hb
theorem swap_rr (ha : Apart x y) (hfx : fits P x.k x.mo.m = true) (hfy : fits P y.k y.mo.m = true) (hgx : gd x.mo.g s = true) (hgy : gd y.mo.g s = true) (hkx : x.k = .r) (hky : y.k = .r)
    (h : dm1 P x (dm1 P y K) s σ₀ σ) : dm1 P y (dm1 P x K) s σ₀ σ := by
  have hcx : ∀ (K : Value → Hp → Hp → Prop) σ₀ σ, dmv P x K s σ₀ σ = mop P x.mo.m (fun v _ => K v σ₀ σ) s σ := fun K σ₀ σ => by simp only [dmv, hgx, if_true, hkx, dm]
  have hcy : ∀ (K : Value → Hp → Hp → Prop) σ₀ σ, dmv P y K s σ₀ σ = mop P y.mo.m (fun v _ => K v σ₀ σ) s σ := fun K σ₀ σ => by simp only [dmv, hgy, if_true, hky, dm]
  have hfx' : x.mo.m.isR = true := by rw [hkx] at hfx; exact hfx
  have hfy' : y.mo.m.isR = true := by rw [hky] at hfy; exact hfy
  unfold dm1 at h ⊢
  rw [hcx] at h
  rcases r_spec (P := P) (s := s) hfx' with hno | ⟨a, val, _, hval⟩
  · exact absurd h (hno _ _)
  · obtain ⟨v, hv, h⟩ := (hval _ _).1 h
    rw [dmv_put hfy ha.1, hcy] at h
    rcases r_spec (P := P) (s := s) hfy' with hno | ⟨a2, val2, _, hval2⟩
    · exact absurd h (hno _ _)
    · obtain ⟨v2, hv2, h⟩ := (hval2 _ _).1 h
      rw [hcy]
      refine (hval2 _ _).2 ⟨v2, hv2, ?_⟩
      rw [dmv_put hfx ha.2.1, hcx]
      refine (hval _ _).2 ⟨v, hv, ?_⟩
      rw [← putO_comm s _ _ ha.2.2]; exact h
theorem sat_more (hs : Sat σ w) (a : Nat) : ∃ w', Sat σ w' ∧ a < w'.heap.size := by
  refine ⟨{ w with heap := w.heap ++ Array.replicate (a + 1) default }, fun b o hb => ?_, by simp; omega⟩
  have hlt := hs.lt (b := b) (by rw [hb]; simp)
  show o.at (w.heap ++ Array.replicate (a + 1) default)[b]?
  rw [Array.getElem?_append_left hlt]
  exact hs b o hb
theorem swap_gr (ha : Apart x y) (hfx : fits P x.k x.mo.m = true) (hfy : fits P y.k y.mo.m = true) (hgx : gd x.mo.g s = true) (hgy : gd y.mo.g s = true) (hkx : x.k = .g) (hky : y.k = .r) (hs : Sat σ w) (hsub : Sub σ₀ σ)
    (h : dm1 P x (dm1 P y K) s σ₀ σ) : dm1 P y (dm1 P x K) s σ₀ σ := by
  have hcy : ∀ (K : Value → Hp → Hp → Prop) σ₀ σ, dmv P y K s σ₀ σ = mop P y.mo.m (fun v _ => K v σ₀ σ) s σ := fun K σ₀ σ => by simp only [dmv, hgy, if_true, hky, dm]
  have hfx' : x.mo.m.isC = true := by rw [hkx] at hfx; exact hfx
  have hfy' : y.mo.m.isR = true := by rw [hky] at hfy; exact hfy
  obtain ⟨f, args, hm⟩ : ∃ f args, x.mo.m = .call f args := by
    cases hx : x.mo.m <;> rw [hx] at hfx' <;> first | exact ⟨_, _, rfl⟩ | cases hfx'
  have hcx : ∀ (K : Value → Hp → Hp → Prop) σ₀ σ, dmv P x K s σ₀ σ = ∃ R, ACalls P f (args.map (ev s)).toArray σ₀ R ∧ ∀ v σ₁, R v σ₁ → (∃ w, Sat σ₁ w) → Sub σ₀ σ₁ ∧ ((∀ k, σ₀ k = none → σ₁ k ≠ none → σ k = none) → K v σ₀ (mrg σ₀ σ₁ σ)) := fun K σ₀ σ => by
    simp only [dmv, hgx, if_true, hkx, hm, dm]
  unfold dm1 at h ⊢
  rw [hcx] at h
  obtain ⟨R, hR, h⟩ := h
  rw [hcy]
  rcases r_spec (P := P) (s := s) hfy' with hno | ⟨a, val, hv0, hval⟩
  · obtain ⟨v0, σ', ⟨σ₁, hR1, hS1, hd1, _⟩⟩ := mop_live (P := P) (m := .call f args) (s := s) (K := fun v σ' => ∃ σ₁, R v σ₁ ∧ (∃ w, Sat σ₁ w) ∧ (∀ k, σ₀ k = none → σ₁ k ≠ none → σ k = none) ∧ σ' = mrg σ₀ σ₁ σ) hs
      ⟨_, acalls_frame hsub hR (fun v σ₁ a b => (h v σ₁ a b).1), fun v σ' a _ => a⟩
    have hy0 := (h v0 σ₁ hR1 hS1).2 hd1
    rw [dmv_put hfy ha.1, hcy] at hy0
    exact absurd hy0 (hno _ _)
  · obtain ⟨w', hs', hlt⟩ := sat_more hs a
    obtain ⟨e, w'', fr, ⟨v0, σ₁, _, hs1, hf, hR1⟩, _⟩ := hR w' (hs'.sub hsub) []
    have hd1 : ∀ k, σ₀ k = none → σ₁ k ≠ none → σ k = none := fun k hk hk' => by
      by_cases hlt : k < w'.heap.size
      · exact absurd (hf.know k hlt hk) hk'
      · exact hs'.none_of_le (by omega)
    have hy0 := (h v0 σ₁ hR1 ⟨_, hs1⟩).2 hd1
    rw [dmv_put hfy ha.1, hcy] at hy0
    obtain ⟨v, hv, _⟩ := (hval _ _).1 hy0
    have ea : mrg σ₀ σ₁ σ a = σ a := by
      unfold mrg
      cases h0 : σ₀ a with
      | none => rw [hf.know a hlt h0]
      | some o => rfl
    rw [ea] at hv
    refine (hval _ _).2 ⟨v, hv, ?_⟩
    rw [dmv_put hfx ha.2.1, hcx]
    refine ⟨R, hR, fun v2 σ₂ hR2 hS => ⟨(h v2 σ₂ hR2 hS).1, fun hd => ?_⟩⟩
    have hK := (h v2 σ₂ hR2 hS).2 hd
    rw [dmv_put hfy ha.1, hcy] at hK
    obtain ⟨v', hv', hK⟩ := (hval _ _).1 hK
    have eb : mrg σ₀ σ₂ σ a = σ a := by
      unfold mrg
      cases h0 : σ₀ a with
      | none =>
        cases h2 : σ₂ a with
        | none => rfl
        | some o => rw [hd a h0 (by rw [h2]; simp), hv0] at hv; cases hv
      | some o => rfl
    rw [eb, hv] at hv'
    cases hv'
    rw [← putO_comm s _ _ ha.2.2]; exact hK
theorem swap_ul (ha : Apart x y) (hfx : fits P x.k x.mo.m = true) (hfy : fits P y.k y.mo.m = true) (hgx : gd x.mo.g s = true) (hgy : gd y.mo.g s = true) (hkx : x.k = .u) (hky : y.k = .l) (hs : Sat σ w)
    (h : dm1 P x (dm1 P y K) s σ₀ σ) : dm1 P y (dm1 P x K) s σ₀ σ := by
  have hcx : ∀ (K : Value → Hp → Hp → Prop) σ₀ σ, dmv P x K s σ₀ σ = mop P x.mo.m (fun v σ' => K v (meet σ₀ σ') σ') s σ := fun K σ₀ σ => by simp only [dmv, hgx, if_true, hkx, dm]
  have hcy : ∀ (K : Value → Hp → Hp → Prop) σ₀ σ, dmv P y K s σ₀ σ = mop P y.mo.m (fun v _ => K v σ₀ σ) s σ₀ := fun K σ₀ σ => by simp only [dmv, hgy, if_true, hky, dm]
  have hfy' : y.mo.m.isL = true := by rw [hky] at hfy; exact hfy
  unfold dm1 at h ⊢
  rw [hcx] at h
  rw [hcy]
  obtain ⟨v0, σ1, h0⟩ := mop_live hs h
  rw [dmv_put hfy ha.1, hcy] at h0
  rcases l_spec (P := P) (s := s) hfy' with hno | ⟨v, hval⟩ | ⟨a, val, hv0, hval⟩
  · exact absurd h0 (hno _ _)
  · refine (hval _ _).2 ?_
    rw [dmv_put hfx ha.2.1, hcx]
    refine mop_mono h fun u σ' h2 => ?_
    rw [dmv_put hfy ha.1, hcy] at h2
    have hK := (hval _ _).1 h2
    rw [← putO_comm s _ _ ha.2.2]; exact hK
  · obtain ⟨v, hv, _⟩ := (hval _ _).1 h0
    have hne : meet σ₀ σ1 a ≠ none := fun e => by rw [e, hv0] at hv; cases hv
    rw [meet_at hne] at hv
    refine (hval _ _).2 ⟨v, hv, ?_⟩
    rw [dmv_put hfx ha.2.1, hcx]
    refine mop_mono h fun u σ' h2 => ?_
    rw [dmv_put hfy ha.1, hcy] at h2
    obtain ⟨v', hv', hK⟩ := (hval _ _).1 h2
    have hne' : meet σ₀ σ' a ≠ none := fun e => by rw [e, hv0] at hv'; cases hv'
    rw [meet_at hne', hv] at hv'
    cases hv'
    rw [← putO_comm s _ _ ha.2.2]; exact hK
/-- Some world holds it. -/
def Satb (σ : Hp) : Prop := (∃ N, ∀ k, N ≤ k → σ k = none) ∧ ∀ k o, σ k = some o → ∃ x, o.at (some x)
theorem Sat.satb (h : Sat σ w) : Satb σ := by
  refine ⟨⟨w.heap.size, fun k hk => h.none_of_le hk⟩, fun k o hk => ?_⟩
  have := h k o hk
  cases hx : w.heap[k]? with
  | none => rw [hx] at this; have := Blk.at_some this; cases this
  | some x => rw [hx] at this; exact ⟨x, this⟩
theorem Satb.sat (h : Satb σ) : ∃ w, Sat σ w := by
  obtain ⟨⟨N, hN⟩, hx⟩ := h
  have hc : ∀ k : Nat, ∃ x : Obj, ∀ o, σ k = some o → o.at (some x) := fun k => by
    cases hk : σ k with
    | none => exact ⟨default, fun o h => by cases h⟩
    | some o => obtain ⟨x, hx⟩ := hx k o hk; exact ⟨x, fun o' h => by cases h; exact hx⟩
  let f : Nat → Obj := fun k => Classical.choose (hc k)
  have hf : ∀ k o, σ k = some o → o.at (some (f k)) := fun k => Classical.choose_spec (hc k)
  refine ⟨{ (default : World) with heap := Array.ofFn (n := N) fun i => f i.val }, fun b o hb => ?_⟩
  have hlt : b < N := by
    rcases Nat.lt_or_ge b N with h | h
    · exact h
    · rw [hN b h] at hb; cases hb
  show o.at (Array.ofFn (n := N) fun i => f i.val)[b]?
  rw [Array.getElem?_ofFn, dif_pos hlt]; exact hf b o hb
theorem Satb.upd (h : Satb σ) {b : Nat} {o : Blk} (ho : ∃ x, o.at (some x)) : Satb (Sp.upd σ b o) := by
  obtain ⟨⟨N, hN⟩, hx⟩ := h
  refine ⟨⟨max N (b + 1), fun k hk => by rw [upd_ne _ _ (by omega)]; exact hN k (by omega)⟩, fun k o' hk => ?_⟩
  by_cases e : k = b
  · subst e; rw [upd_same] at hk; cases hk; exact ho
  · rw [upd_ne _ _ e] at hk; exact hx k o' hk
theorem Satb.mrg {σ₁ : Hp} (h : Satb σ) (h1 : Satb σ₁) : Satb (Sp.mrg σ₀ σ₁ σ) := by
  obtain ⟨⟨N, hN⟩, hx⟩ := h
  obtain ⟨⟨N1, hN1⟩, hx1⟩ := h1
  refine ⟨⟨max N N1, fun k hk => ?_⟩, fun k o hk => ?_⟩
  · simp only [Sp.mrg, hN k (by omega), hN1 k (by omega)]; cases σ₀ k <;> rfl
  · simp only [Sp.mrg] at hk
    split at hk
    · rename_i o' _ h1; cases hk; exact hx1 k _ h1
    · exact hx k o hk
theorem Satb.wr {σ1 : Hp} (h : Satb σ) {b off : Nat} {vs : List Value} (hw : Sp.wr σ b off vs = some σ1) : Satb σ1 := by
  unfold Sp.wr at hw
  cases hb : σ b with
  | none => rw [hb] at hw; cases hw
  | some q =>
    rw [hb] at hw
    obtain ⟨x, hx⟩ := h.2 b q hb
    cases q with
    | cells cs t =>
      dsimp only at hw
      split at hw
      · cases hw; exact h.upd ⟨_, rfl⟩
      · cases hw
    | row cs r t =>
      dsimp only at hw
      split at hw
      · rename_i hle
        cases hw
        obtain ⟨rest, hl, _⟩ := hx
        exact h.upd ⟨_, rest, by rw [splice_len hle]; exact hl, rfl⟩
      · cases hw
    | dead => cases hw
    | ro x => cases hw
    | mp l => cases hw
    | im l => cases hw
theorem seg_len {cs vs : List Value} {off n : Nat} (h : seg cs off n = some vs) : vs.length = n := (seg_get h).1
theorem rdn_len {b off n : Nat} {vs : List Value} (h : rdn σ b off n = some vs) : vs.length = n := by
  unfold rdn at h
  split at h
  · exact seg_len h
  · exact seg_len h
  · exact seg_len h
  · cases h
theorem row_real {cs : List Value} {r : Nat} {t : TypeId} (h : cs.length ≤ r) : ∃ x, (Blk.row cs r t).at (some x) :=
  ⟨_, List.replicate (r - cs.length) default, by rw [List.length_replicate]; omega, rfl⟩
theorem turn_real {q : LT} {k v : Value} {o o' : Blk} (h : bturn q k v o = some o') : ∃ x, o'.at (some x) := by
  unfold bturn at h
  split at h <;> (try split at h) <;> cases h <;> exact ⟨_, _, _, rfl, ents_real _ _⟩
theorem mop_mono_sat {m : M} {K K' : Value → Hp → Prop} (hs : Satb σ) (h : mop P m K s σ) (hk : ∀ v σ', Satb σ' → K v σ' → K' v σ') : mop P m K' s σ := by
  cases m with
  | new T z => exact fun b hb => hk _ _ (hs.upd ⟨_, rfl⟩) (h b hb)
  | box T x => exact fun b hb => hk _ _ (hs.upd ⟨_, rfl⟩) (h b hb)
  | lit E n size z ps => exact onSome_mono h fun cs h b hb => hk _ _ (hs.upd (row_real (Nat.le_refl _))) (h b hb)
  | st sz a x =>
    obtain ⟨tb, off, e, h1, h2, h⟩ := onPtr_elim h
    obtain ⟨σ1, hw, hK⟩ := onSome_elim h
    simp only [mop, e, onPtr_mk, hw, onSome_some]
    exact ⟨h1, h2, hk _ _ (hs.wr hw) hK⟩
  | call f args => obtain ⟨R, h1, h2⟩ := h; exact ⟨R, h1, fun v σ' hR hw => hk _ _ (hw.elim fun _ h => h.satb) (h2 v σ' hR hw)⟩
  | callv x args => obtain ⟨f, cs, e1, e2, R, h1, h2⟩ := h; exact ⟨f, cs, e1, e2, R, h1, fun v σ' hR hw => hk _ _ (hw.elim fun _ h => h.satb) (h2 v σ' hR hw)⟩
  | app E size bytes x y =>
    rcases h with ⟨A0, m, c, hy, hm, h⟩ | ⟨b, off, m, c, ys, hy, hrd, h1, h⟩
    · rcases h with ⟨hx, hK⟩ | ⟨b, n, cap, hx, hle, hK⟩
      · exact .inl ⟨A0, m, c, hy, hm, .inl ⟨hx, hk _ _ hs hK⟩⟩
      · exact .inl ⟨A0, m, c, hy, hm, .inr ⟨b, n, cap, hx, hle, hk _ _ hs hK⟩⟩
    · have hyl := rdn_len hrd
      rcases h with ⟨hm, hx, hK⟩ | ⟨hm, hx, hb, h63, hK⟩ | ⟨g, n, cap, xs, hx, hg, hxl, hle, hb, h63, hK⟩
      · exact .inr ⟨b, off, m, c, ys, hy, hrd, h1, .inl ⟨hm, hx, hk _ _ hs hK⟩⟩
      · exact .inr ⟨b, off, m, c, ys, hy, hrd, h1, .inr (.inl ⟨hm, hx, hb, h63, fun b' c' h2 h3 => hk _ _ (hs.upd (row_real (by rw [hyl]; exact Nat.mul_le_mul_right _ h3))) (hK b' c' h2 h3)⟩)⟩
      · refine .inr ⟨b, off, m, c, ys, hy, hrd, h1, .inr (.inr ⟨g, n, cap, xs, hx, hg, hxl, hle, hb, h63, fun b' c' h2 h3 => hk _ _ (Satb.upd (hs.upd ?_) (row_real ?_)) (hK b' c' h2 h3)⟩)⟩
        · exact ⟨default, rfl⟩
        · rw [List.length_append, hxl, hyl, ← Nat.add_mul]; exact Nat.mul_le_mul_right _ h3
  | mkmap num => exact fun b hb => hk _ _ (hs.upd (by cases num <;> exact ⟨_, _, _, rfl, ents_real _ _⟩)) (h b hb)
  | mks E size bytes z x => obtain ⟨j, e, h1, h2⟩ := onI64_el h; simp only [mop, e, onI64_mk]; exact ⟨h1, fun b hb => hk _ _ (hs.upd (row_real (by simp [h1.2.2.2]))) (h2 b hb)⟩
  | fnl g xs => exact onSome_mono h fun _ h => hk _ _ hs h
  | bys x => exact onSlice_mono h fun _ _ _ h => onSome_mono h fun _ h => onSome_mono h fun _ h => hk _ _ hs h
  | look q z x i => exact onSome_mono h fun _ h => hk _ _ hs h
  | mset q x i v =>
    obtain ⟨σ', e, h⟩ := onSome_elim h
    simp only [mop, e, onSome_some]
    obtain ⟨b, o, o', _, _, ho, rfl⟩ := mturn_elim e
    exact hk _ _ (hs.upd (turn_real ho)) h
  | raw op ty => obtain ⟨v, h1, h2⟩ := h; exact ⟨v, h1, hk _ _ hs h2⟩
  | mv x => exact hk _ _ hs h
  | pick c a b => exact onBool_mono h fun _ h => hk _ _ hs h
  | nilc x => exact onPtr_mono h fun _ _ h => hk _ _ hs h
  | fa off x => exact onPtr_mono h fun _ _ h => hk _ _ hs h
  | ia size x i =>
    obtain ⟨b, o, n, c, e, h⟩ := onSlice_elim h
    obtain ⟨j, e2, h⟩ := onI64_elim h
    simp only [mop, e, e2, onSlice_mk, onI64_mk]; exact ⟨h.1, hk _ _ hs h.2⟩
  | bin op x y => exact onSome_mono h fun _ h => hk _ _ hs h
  | eqs neg k x y => exact onSome_mono h fun _ h => hk _ _ hs h
  | nt x => exact onBool_mono h fun _ h => hk _ _ hs h
  | ext i x =>
    obtain ⟨vs, e, h⟩ := onTuple_elim h
    simp only [mop, e, onTuple_mk]; exact onSome_mono h fun _ h => hk _ _ hs h
  | len t x => exact onSome_mono h fun _ h => hk _ _ hs h
  | bld z ps => exact onSome_mono h fun _ h => hk _ _ hs h
  | conv k x => exact onInt_mono h fun _ _ h => hk _ _ hs h
  | ixs x i => exact onStr_mono h fun _ h => onI64_mono h fun _ h => ⟨h.1, hk _ _ hs h.2⟩
  | mx u x y => exact onInt_mono h fun _ _ h => onInt_mono h fun _ _ h => hk _ _ hs h
  | eqa n ks x y => exact onSome_mono h fun _ h => hk _ _ hs h
  | fld n off x => exact onSome_mono h fun _ h => hk _ _ hs h
  | ld sz x => cases sz with
    | none => exact onPtr_mono h fun _ _ h => onSome_mono h fun _ h => hk _ _ hs h
    | some n => exact onPtr_mono h fun _ _ h => onSome_mono h fun _ h => hk _ _ hs h
theorem mop_f_none {m : M} (hm : m.isF = true) {K K' : Value → Hp → Prop} (h : mop P m K s σ) (hk : ∀ v σ', (∀ k, σ k ≠ none → σ' k = σ k) → K v σ' → K' v σ') : mop P m K' s σ := by
  have key : ∀ (b : Nat) (o : Blk), σ b = none → ∀ k, σ k ≠ none → upd σ b o k = σ k := fun b o hb k hk => upd_ne _ _ fun e => hk (by rw [e]; exact hb)
  cases m with
  | new T z => exact fun b hb => hk _ _ (key b _ hb) (h b hb)
  | box T x => exact fun b hb => hk _ _ (key b _ hb) (h b hb)
  | lit E n size z ps => exact onSome_mono h fun cs h b hb => hk _ _ (key b _ hb) (h b hb)
  | mkmap num => exact fun b hb => hk _ _ (key b _ hb) (h b hb)
  | _ => cases hm
theorem dm_mono_sat {k : Kn} {m : M} (hf : fits P k m = true) {K K' : Value → Hp → Hp → Prop} (hs : Satb σ) (hsub : Sub σ₀ σ) (h : dm P k m K s σ₀ σ) (hk : ∀ v σ₀' σ', Satb σ' → Sub σ₀' σ' → K v σ₀' σ' → K' v σ₀' σ') : dm P k m K' s σ₀ σ := by
  cases k with
  | p => simp only [dm] at h ⊢; exact mop_mono h fun v _ h => hk _ _ _ hs hsub h
  | l => simp only [dm] at h ⊢; exact mop_mono h fun v _ h => hk _ _ _ hs hsub h
  | r => simp only [dm] at h ⊢; exact mop_mono h fun v _ h => hk _ _ _ hs hsub h
  | u => simp only [dm] at h ⊢; exact mop_mono_sat hs h fun v σ' h1 h => hk _ _ _ h1 (meet_sub _ _) h
  | f =>
    simp only [dm] at h ⊢
    have h := mop_mono_sat (K' := fun v σ' => Satb σ' ∧ K v σ₀ σ') hs h fun v σ' h1 h2 => ⟨h1, h2⟩
    exact mop_f_none hf h fun v σ' hk' h => hk _ _ _ h.1 (fun i => (hsub i).elim .inl fun e => by
      by_cases hn : σ i = none
      · left; rw [e]; exact hn
      · right; rw [hk' i hn]; exact e) h.2
  | w => simp only [dm] at h ⊢; exact mop_mono_sat hs h fun v σ' h1 h => ⟨h.1, hk _ _ _ h1 h.1 h.2⟩
  | m => simp only [dm] at h ⊢; exact mop_mono_sat hs h fun v σ' h1 h => hk _ _ _ h1 (Sub.refl _) h
  | c =>
    cases m with
    | call f args => obtain ⟨v, h1, h2⟩ := h; exact ⟨v, h1, hk _ _ _ hs hsub h2⟩
    | callv x args => obtain ⟨f, cs, e1, e2, v, h1, h2⟩ := h; exact ⟨f, cs, e1, e2, v, h1, hk _ _ _ hs hsub h2⟩
    | _ => exact h.elim
  | g =>
    cases m with
    | call f args =>
      obtain ⟨R, h1, h2⟩ := h
      refine ⟨R, h1, fun v σ₁ hR hw => ⟨(h2 v σ₁ hR hw).1, fun hd => hk _ _ _ (hs.mrg (hw.elim fun _ h => h.satb)) (fun i => ?_) ((h2 v σ₁ hR hw).2 hd)⟩⟩
      cases hi : σ₀ i with
      | none => exact .inl rfl
      | some o =>
        right
        simp only [mrg, hi]
        rcases hsub i with e | e
        · rw [hi] at e; cases e
        · rw [← e, hi]
    | _ => exact h.elim
theorem dm1_mono_sat {x : DO} (hf : fits P x.k x.mo.m = true) {K K' : Sl → Hp → Hp → Prop} (hs : Satb σ) (hsub : Sub σ₀ σ) (h : dm1 P x K s σ₀ σ) (hk : ∀ s' σ₀' σ', Satb σ' → Sub σ₀' σ' → K s' σ₀' σ' → K' s' σ₀' σ') : dm1 P x K' s σ₀ σ := by
  unfold dm1 dmv at *
  split
  · rename_i hg; rw [if_pos hg] at h
    exact dm_mono_sat hf hs hsub h fun v a b h1 h2 h3 => hk _ _ _ h1 h2 h3
  · rename_i hg; rw [if_neg hg] at h
    exact hk _ _ _ hs hsub h
def okKinds : Kn → Kn → Bool
  | .p, _ => true
  | _, .p => true
  | .m, _ => false
  | _, .m => false
  | .u, .l => true
  | .u, _ => false
  | _, .u => false
  | .l, _ => true
  | .c, _ => true
  | _, .l => true
  | _, .c => true
  | .f, .f => true
  | .w, .f => true
  | .g, .f => true
  | .f, .r => true
  | .r, .f => true
  | .g, .r => true
  | .r, .r => true
  | _, _ => false
def notIn (d : Option Nat) (l : List Nat) : Bool := match d with | some d => !l.contains d | none => true
def okPair (x y : DO) : Bool := notIn x.mo.d y.rds && notIn y.mo.d x.rds && (x.mo.d.isNone || x.mo.d != y.mo.d) && okKinds x.k y.k
theorem okPair_apart (h : okPair x y = true) : Apart x y := by
  simp only [okPair, Bool.and_eq_true] at h
  obtain ⟨⟨⟨h1, h2⟩, h3⟩, _⟩ := h
  refine ⟨fun d hd => ?_, fun d hd => ?_, fun d hd e => ?_⟩
  · rw [hd] at h1; simpa [notIn] using h1
  · rw [hd] at h2; simpa [notIn] using h2
  · rw [hd, e] at h3; simp at h3
theorem okM1 : ∀ a b : Kn, okKinds a b = true → b.isM = true → a.isV = true → a = .p := by
  intro a b; cases a <;> cases b <;> simp [okKinds, Kn.isM, Kn.isV]
theorem okM2 : ∀ a b : Kn, okKinds a b = true → a.isM = true → b.isV = true → ¬ (a = .u ∧ b = .l) → b = .p := by
  intro a b; cases a <;> cases b <;> simp [okKinds, Kn.isM, Kn.isV]
theorem swap_all (hok : okPair x y = true) (hfx : fits P x.k x.mo.m = true) (hfy : fits P y.k y.mo.m = true) (hs : Satb σ) (hsub : Sub σ₀ σ)
    (h : dm1 P x (dm1 P y K) s σ₀ σ) : dm1 P y (dm1 P x K) s σ₀ σ := by
  obtain ⟨w, hs⟩ := hs.sat
  have ha := okPair_apart hok
  have hkk : okKinds x.k y.k = true := by simp only [okPair, Bool.and_eq_true] at hok; exact hok.2
  by_cases hgx : gd x.mo.g s = true
  · by_cases hgy : gd y.mo.g s = true
    · by_cases hul : x.k = .u ∧ y.k = .l
      · exact swap_ul ha hfx hfy hgx hgy hul.1 hul.2 hs h
      cases hx : x.k.isV with
      | true =>
        refine swap_vy ha hfx hfy (fun _ => hx) (fun _ _ hm => ?_) hs hsub h
        exact okM1 _ _ hkk hm hx
      | false =>
        cases hy : y.k.isV with
        | true =>
          refine swap_yv ha hfy hfx (fun _ => hy) (fun _ _ hm => ?_) hs hsub h
          exact okM2 _ _ hkk hm hy hul
        | false =>
          have : (x.k = .f ∧ y.k = .f) ∨ (x.k = .w ∧ y.k = .f) ∨ (x.k = .g ∧ y.k = .f) ∨ (x.k = .f ∧ y.k = .r) ∨ (x.k = .r ∧ y.k = .f) ∨ (x.k = .g ∧ y.k = .r) ∨ (x.k = .r ∧ y.k = .r) := by
            cases hxk : x.k <;> rw [hxk] at hkk hx <;> cases hyk : y.k <;> rw [hyk] at hkk hy <;> simp_all [okKinds, Kn.isV]
          rcases this with ⟨h1, h2⟩ | ⟨h1, h2⟩ | ⟨h1, h2⟩ | ⟨h1, h2⟩ | ⟨h1, h2⟩ | ⟨h1, h2⟩ | ⟨h1, h2⟩
          · exact swap_ff ha hfx hfy hgx hgy h1 h2 hs h
          · exact swap_wf ha hfx hfy hgx hgy h1 h2 hs hsub h
          · exact swap_gf ha hfx hfy hgx hgy h1 h2 hs hsub h
          · exact swap_fr ha hfx hfy hgx hgy h1 h2 hs h
          · exact swap_rf ha hfx hfy hgx hgy h1 h2 hs h
          · exact swap_gr ha hfx hfy hgx hgy h1 h2 hs hsub h
          · exact swap_rr ha hfx hfy hgx hgy h1 h2 h
    · exact swap_yv ha hfy hfx (fun h => absurd h hgy) (fun h => absurd h hgy) hs hsub h
  · exact swap_vy ha hfx hfy (fun h => absurd h hgx) (fun h => absurd h hgx) hs hsub h
def dmops (P : Program) : List DO → (Sl → Hp → Hp → Prop) → Sl → Hp → Hp → Prop
  | [], K, s, σ₀, σ => K s σ₀ σ
  | x :: xs, K, s, σ₀, σ => dm1 P x (dmops P xs K) s σ₀ σ
theorem to_front : ∀ (A : List DO) (B : List DO), (∀ a ∈ A, okPair a x = true) → (∀ a ∈ A, fits P a.k a.mo.m = true) → fits P x.k x.mo.m = true → ∀ {s : Sl} {σ₀ σ : Hp}, Satb σ → Sub σ₀ σ →
    dmops P (A ++ x :: B) K s σ₀ σ → dm1 P x (dmops P (A ++ B) K) s σ₀ σ
  | [], B, _, _, _, _, _, _, _, _, h => h
  | a :: A, B, hok, hfa, hfx, s, σ₀, σ, hs, hsub, h => by
    have ih := fun {s : Sl} {σ₀ σ : Hp} => to_front A B (fun b hb => hok b (by simp [hb])) (fun b hb => hfa b (by simp [hb])) hfx (s := s) (σ₀ := σ₀) (σ := σ)
    exact swap_all (hok a (by simp)) (hfa a (by simp)) hfx hs hsub (dm1_mono_sat (hfa a (by simp)) hs hsub h fun s' a b h1 h2 h3 => ih h1 h2 h3)
theorem rd_sub {b off : Nat} {v : Value} (hsub : Sub σ₀ σ) (h : rd σ₀ b off = some v) : rd σ b off = some v := by
  unfold rd at h ⊢
  rcases hsub b with e | e
  · rw [e] at h; cases h
  · rw [← e]; exact h
theorem rdn_sub {b off n : Nat} {v : List Value} (hsub : Sub σ₀ σ) (h : rdn σ₀ b off n = some v) : rdn σ b off n = some v := by
  unfold rdn at h ⊢
  rcases hsub b with e | e
  · rw [e] at h; cases h
  · rw [← e]; exact h
theorem mread_sub {m : Value} {q : LQ} {z k v : Value} (hsub : Sub σ₀ σ) (h : mreadV σ₀ m q z k = some v) : mreadV σ m q z k = some v := by
  unfold mreadV at h ⊢
  split at h
  · exact h
  · obtain ⟨o, ho, hv⟩ := Option.bind_eq_some_iff.1 h
    rcases hsub _ with e | e
    · rw [e] at ho; cases ho
    · rw [← e, ho]; exact hv
  · cases h
theorem ml_sub {b : Nat} {l : List (ByteArray × Value)} (hsub : Sub σ₀ σ) (h : ml σ₀ b = some l) : ml σ b = some l := by
  have h1 := ml_elim h
  rcases hsub b with e | e
  · rw [e] at h1; cases h1
  · unfold ml; rw [← e, h1]
/-- Told as the plain operation. -/
theorem dm_mop {k : Kn} {m : M} (hf : fits P k m = true) {K : Value → Hp → Hp → Prop} (hsub : Sub σ₀ σ) (h : dm P k m K s σ₀ σ) : mop P m (fun v σ' => ∃ σ₀', Sub σ₀' σ' ∧ K v σ₀' σ') s σ := by
  cases k with
  | p =>
    simp only [dm] at h
    obtain ⟨v, hK, hv⟩ := pv_spec hf h
    have hpure : ∀ (K' : Value → Hp → Prop), (∃ _ : m.isP = true, K' v σ) → mop P m K' s σ := fun K' ⟨hp, hK'⟩ => by
      have h2 := (hv (fun u => u = v) σ).2 rfl
      cases m with
      | raw op ty => obtain ⟨u, h1, rfl⟩ := h2; exact ⟨_, h1, hK'⟩
      | mv x => have h2 : ev s x = v := h2; simp only [mop, h2]; exact hK'
      | pick c a b => obtain ⟨t, e, h2⟩ := onBool_elim h2; simp only [mop, e, onBool_mk]; rw [h2]; exact hK'
      | nilc x => obtain ⟨b, o, e, h2⟩ := onPtr_elim h2; simp only [mop, e, onPtr_mk]; rw [h2]; exact hK'
      | fa off x => obtain ⟨b, o, e, h2⟩ := onPtr_elim h2; simp only [mop, e, onPtr_mk]; rw [h2]; exact hK'
      | ia size x i =>
        obtain ⟨b, o, n, c, e, h2⟩ := onSlice_elim h2
        obtain ⟨j, e2, h2⟩ := onI64_elim h2
        simp only [mop, e, e2, onSlice_mk, onI64_mk]; rw [h2.2]; exact ⟨h2.1, hK'⟩
      | bin op x y => obtain ⟨u, e, h2⟩ := onSome_elim h2; simp only [mop, e, onSome_some]; rw [h2]; exact hK'
      | eqs neg k x y => obtain ⟨u, e, h2⟩ := onSome_elim h2; simp only [mop, e, onSome_some]; rw [h2]; exact hK'
      | nt x => obtain ⟨t, e, h2⟩ := onBool_elim h2; simp only [mop, e, onBool_mk]; rw [h2]; exact hK'
      | ext i x =>
        obtain ⟨vs, e, h2⟩ := onTuple_elim h2
        obtain ⟨u, e2, h2⟩ := onSome_elim h2
        simp only [mop, e, e2, onTuple_mk, onSome_some]; rw [h2]; exact hK'
      | len t x => obtain ⟨u, e, h2⟩ := onSome_elim h2; simp only [mop, e, onSome_some]; rw [h2]; exact hK'
      | bld z ps => obtain ⟨u, e, h2⟩ := onSome_elim h2; simp only [mop, e, onSome_some]; rw [h2]; exact hK'
      | conv k x => obtain ⟨q, u, e, h2⟩ := onInt_elim h2; simp only [mop, e, onInt_mk]; rw [h2]; exact hK'
      | ixs x i =>
        obtain ⟨b, e, h2⟩ := onStr_elim h2
        obtain ⟨j, e2, h2⟩ := onI64_elim h2
        simp only [mop, e, e2, onStr_mk, onI64_mk]; rw [h2.2]; exact ⟨h2.1, hK'⟩
      | mx u x y =>
        obtain ⟨q, a, e, h2⟩ := onInt_elim h2
        obtain ⟨q', b, e2, h2⟩ := onInt_elim h2
        simp only [mop, e, e2, onInt_mk]; rw [h2]; exact hK'
      | eqa n ks x y => obtain ⟨u, e, h2⟩ := onSome_elim h2; simp only [mop, e, onSome_some]; rw [h2]; exact hK'
      | fld n off x => obtain ⟨u, e, h2⟩ := onSome_elim h2; simp only [mop, e, onSome_some]; rw [h2]; exact hK'
      | fnl g xs => obtain ⟨u, e, h2⟩ := onSome_elim h2; simp only [mop, e, onSome_some]; rw [h2]; exact hK'
      | _ => cases hp
    exact hpure _ ⟨hf, σ₀, hsub, hK⟩
  | l =>
    cases m with
    | ld sz x =>
      cases sz with
      | none =>
        obtain ⟨b, o, e, h⟩ := onPtr_elim h
        obtain ⟨v, e2, h⟩ := onSome_elim h
        simp only [mop, e, onPtr_mk, rd_sub hsub e2, onSome_some]; exact ⟨σ₀, hsub, h⟩
      | some n =>
        obtain ⟨b, o, e, h⟩ := onPtr_elim h
        obtain ⟨v, e2, h⟩ := onSome_elim h
        simp only [mop, e, onPtr_mk, rdn_sub hsub e2, onSome_some]; exact ⟨σ₀, hsub, h⟩
    | look q z x i =>
      obtain ⟨v, e, h⟩ := onSome_elim h
      simp only [mop, mread_sub hsub e, onSome_some]; exact ⟨σ₀, hsub, h⟩
    | bys x =>
      obtain ⟨b, o, n, c, e, h⟩ := onSlice_elim h
      obtain ⟨vs, e2, h⟩ := onSome_elim h
      obtain ⟨ys, e3, h⟩ := onSome_elim h
      simp only [mop, e, e3, onSlice_mk, rdn_sub hsub e2, onSome_some]; exact ⟨σ₀, hsub, h⟩
    | _ => cases hf
  | c =>
    rcases fits_c hf with ⟨f, args, rfl, hi⟩ | ⟨x, args, rfl⟩
    · obtain ⟨v, h1, h2⟩ := h
      refine ⟨_, acalls_frame hsub h1 (fun v' σ₁ hR _ => by rw [hR.2]; exact Sub.refl _), ?_⟩
      rintro v' σ' ⟨σ₁, ⟨rfl, rfl⟩, _, _, rfl⟩ _
      refine ⟨σ₁, ?_, ?_⟩ <;> (have e : mrg σ₁ σ₁ σ = σ := by funext i; simp only [mrg]; split <;> simp_all)
      · rw [e]; exact hsub
      · rw [e]; exact h2
    · obtain ⟨f, cs, e1, e2, v, h1, h2⟩ := h
      refine ⟨f, cs, e1, e2, _, acalls_frame hsub h1 (fun v' σ₁ hR _ => by rw [hR.2]; exact Sub.refl _), ?_⟩
      rintro v' σ' ⟨σ₁, ⟨rfl, rfl⟩, _, _, rfl⟩ _
      refine ⟨σ₁, ?_, ?_⟩ <;> (have e : mrg σ₁ σ₁ σ = σ := by funext i; simp only [mrg]; split <;> simp_all)
      · rw [e]; exact hsub
      · rw [e]; exact h2
  | g =>
    cases m with
    | call f args =>
      obtain ⟨R, h1, h2⟩ := h
      refine ⟨_, acalls_frame hsub h1 (fun v' σ₁ hR hw => (h2 v' σ₁ hR hw).1), ?_⟩
      rintro v' σ' ⟨σ₁, hR, hw, hd, rfl⟩ _
      refine ⟨σ₀, fun i => ?_, (h2 v' σ₁ hR hw).2 hd⟩
      cases hi : σ₀ i with
      | none => exact .inl rfl
      | some o =>
        right
        simp only [mrg, hi]
        rcases hsub i with e | e
        · rw [hi] at e; cases e
        · rw [← e, hi]
    | _ => exact h.elim
  | f =>
    simp only [dm] at h
    exact mop_f_none hf h fun v σ' hk' h => ⟨σ₀, fun i => (hsub i).elim .inl fun e => by
      by_cases hn : σ i = none
      · left; rw [e]; exact hn
      · right; rw [hk' i hn]; exact e, h⟩
  | w => simp only [dm] at h; exact mop_mono h fun v σ' h => ⟨σ₀, h.1, h.2⟩
  | u => simp only [dm] at h; exact mop_mono h fun v σ' h => ⟨_, meet_sub _ _, h⟩
  | r =>
    simp only [dm] at h
    rcases r_spec (P := P) (s := s) hf with hno | ⟨a, val, _, hv⟩
    · exact absurd h (hno _ _)
    · obtain ⟨v, hv1, h⟩ := (hv _ _).1 h
      exact (hv _ _).2 ⟨v, hv1, σ₀, hsub, h⟩
  | m => simp only [dm] at h; exact mop_mono h fun v σ' h => ⟨σ', Sub.refl _, h⟩
/-- Which operations each one waits for, as bits. -/
def bitsOf (acc : List Nat) (o : Oper) : Nat := o.after.toList.foldl (fun b e => if Region.binds .any e = true then b ||| 2 ^ e.on ||| acc.getD e.on 0 else b) 0
def ancL (ops : Array Oper) : Nat → List Nat
  | 0 => []
  | k + 1 => ancL ops k ++ [match ops[k]? with | some o => bitsOf (ancL ops k) o | none => 0]
theorem ancL_len (ops : Array Oper) : ∀ k, (ancL ops k).length = k
  | 0 => rfl
  | k + 1 => by simp [ancL, ancL_len ops k]
theorem bits_test {acc : List Nat} {j : Nat} : ∀ (l : List Edge) (b0 : Nat), (l.foldl (fun b e => if Region.binds .any e = true then b ||| 2 ^ e.on ||| acc.getD e.on 0 else b) b0).testBit j = true →
    b0.testBit j = true ∨ ∃ e ∈ l, Region.binds .any e = true ∧ (j = e.on ∨ (acc.getD e.on 0).testBit j = true)
  | [], b0, h => .inl h
  | e :: l, b0, h => by
    simp only [List.foldl_cons] at h
    rcases bits_test l _ h with h | ⟨e', he, h1, h2⟩
    · split at h
      · rename_i hb
        simp only [Nat.testBit_or, Bool.or_eq_true, Nat.testBit_two_pow] at h
        rcases h with (h | h) | h
        · exact .inl h
        · exact .inr ⟨e, by simp, hb, .inl (by have h := of_decide_eq_true h; exact h.symm)⟩
        · exact .inr ⟨e, by simp, hb, .inr h⟩
      · exact .inl h
    · exact .inr ⟨e', by simp [he], h1, h2⟩
def Preds (ops : Array Oper) (listed : Array Bool) (i : Nat) : Prop := ∀ o, ops[i]? = some o → ∀ e ∈ o.after.toList, Region.binds .any e = true → listed.getD e.on false = true
def Closed (ops : Array Oper) (listed : Array Bool) : Prop := ∀ i, listed.getD i false = true → Preds ops listed i
theorem anc_listed {ops : Array Oper} {listed : Array Bool} (hc : Closed ops listed) {j : Nat} : ∀ (k i : Nat), i < k → ((ancL ops k).getD i 0).testBit j = true → Preds ops listed i → listed.getD j false = true
  | 0, i, h, _, _ => absurd h (by omega)
  | k + 1, i, h, ht, hp => by
    simp only [ancL] at ht
    by_cases hik : i < k
    · rw [List.getD_eq_getElem?_getD, List.getElem?_append_left (by rw [ancL_len]; exact hik), ← List.getD_eq_getElem?_getD] at ht
      exact anc_listed hc k i hik ht hp
    · have e : i = k := by omega
      subst e
      rw [List.getD_eq_getElem?_getD, List.getElem?_append_right (by rw [ancL_len]; exact Nat.le_refl _), ancL_len, Nat.sub_self] at ht
      simp only [List.getElem?_cons_zero, Option.getD_some] at ht
      cases ho : ops[i]? with
      | none => rw [ho] at ht; simp at ht
      | some o =>
        rw [ho] at ht
        rcases bits_test _ _ ht with h0 | ⟨e, he, hb, h1⟩
        · simp at h0
        · have hl := hp o ho e he hb
          rcases h1 with h1 | h1
          · rw [h1]; exact hl
          · have hlt : e.on < i := by
              rcases Nat.lt_or_ge e.on i with h | h
              · exact h
              · rw [List.getD_eq_getElem?_getD, List.getElem?_eq_none (by rw [ancL_len]; exact h)] at h1; simp at h1
            exact anc_listed hc i e.on hlt h1 (hc e.on hl)
def ordered (an : List Nat) (i j : Nat) : Bool := if i < j then (an.getD j 0).testBit i else (an.getD i 0).testBit j
/-- Bytes read as a text, of a row that the region itself makes. -/
def srcF (mos : List MO) (m : M) : Bool := match m with | .bys (.tmp t) => mos.any fun q => q.m.isF && q.d == some t | _ => false
/-- Is it a call of one of these? -/
def callsOf (us : List Nat) (m : M) : Bool := match m with | .call f _ => us.contains f | _ => false
/-- Is it a read that is named as one of what the region makes? (3000000 and its place.) -/
def late (us : List Nat) (mos : List MO) (i : Nat) : Bool := match mos[i]? with | some q => (match q.d with | some d => us.contains (3000000 + d) | none => false) | none => false
def kindAt (us : List Nat) (an : List Nat) (mos : List MO) (i : Nat) (m : M) : Kn :=
  if m.isP then .p else if m.isL then (if srcF mos m || late us mos i then .r else .l) else if m.isF then .f
  else if (List.range mos.length).all fun j => j == i || (match mos[j]? with | some q => q.m.isP | none => true) || ordered an i j then .m
  else if m.isW then .w
  else if callsOf us m then .u
  else if m.isC && (List.range mos.length).all fun j => j == i || (match mos[j]? with | some q => q.m.isP || q.m.isL || (q.m.isF && decide (i < j)) | none => true) || ordered an i j then .g
  else .c
def drawOk (P : Program) (ops : Array Oper) (an : List Nat) (xs : List DO) : Bool :=
  xs.length == ops.size && (List.range ops.size).all fun i =>
    match ops[i]?, xs[i]? with
    | some o, some x => fits P x.k x.mo.m && o.after.toList.all (fun e => decide (e.on < i) || !Region.binds .any e) && (List.range i).all fun j =>
        (an.getD i 0).testBit j || (match xs[j]? with | some y => okPair y x | none => false)
    | _, _ => false
def compDraw (P : Program) (us : List Nat) (n : Nat) (ops : Array Oper) : Option (List DO) :=
  ((List.range ops.size).mapM (compAt P n ops)).bind fun mos =>
    let an := ancL ops ops.size
    let xs := mos.zipIdx.map fun p => (⟨p.1, kindAt us an mos p.2 p.1.m⟩ : DO)
    if drawOk P ops an xs = true then some xs else none
/-- What is left of a list of operations. -/
def left (listed : Array Bool) (N : Nat) : List Nat := (List.range N).filter fun i => !listed.getD i true
theorem mapM_get {α β : Type} {f : α → Option β} : ∀ (l : List α) (r : List β), l.mapM f = some r → ∀ (i : Nat) (a : α), l[i]? = some a → ∃ b, r[i]? = some b ∧ f a = some b
  | [], r, _, i, a, h => by simp at h
  | x :: l, r, hm, i, a, h => by
    simp only [List.mapM_cons, Option.bind_eq_bind, Option.bind_eq_some_iff, Option.pure_def, Option.some.injEq] at hm
    obtain ⟨b, hb, r', hr, rfl⟩ := hm
    cases i with
    | zero => simp only [List.getElem?_cons_zero, Option.some.injEq] at h; subst h; exact ⟨b, rfl, hb⟩
    | succ i => simp only [List.getElem?_cons_succ] at h ⊢; exact mapM_get l r' hr i a h
theorem mem_left {listed : Array Bool} {N i : Nat} : i ∈ left listed N ↔ i < N ∧ listed.getD i true = false := by
  simp [left, List.mem_filter]
/-- The least of what is left, taken out. -/
theorem left_split {listed : Array Bool} {N i : Nat} (hN : listed.size = N) (hi : i ∈ left listed N) : ∃ A B, left listed N = A ++ i :: B ∧ left (listed.setIfInBounds i true) N = A ++ B ∧ (∀ a ∈ A, a < i ∧ listed.getD a true = false) := by
  obtain ⟨hlt, hl⟩ := mem_left.1 hi
  have hr : List.range N = List.range i ++ i :: (List.range (N - i - 1)).map (fun j => i + 1 + j) := by
    conv => lhs; rw [show N = i + ((N - i - 1) + 1) by omega]
    rw [List.range_add, List.range_succ_eq_map]
    simp [Function.comp_def, Nat.add_assoc, Nat.add_comm 1]
  have hne : ∀ j, j ≠ i → (listed.setIfInBounds i true).getD j true = listed.getD j true := fun j hj => by
    simp only [Array.getD_eq_getD_getElem?, Array.getElem?_setIfInBounds, if_neg (Ne.symm hj)]
  have heq : (listed.setIfInBounds i true).getD i true = true := by
    simp only [Array.getD_eq_getD_getElem?, Array.getElem?_setIfInBounds, if_true]
    split <;> rfl
  refine ⟨(List.range i).filter fun j => !listed.getD j true, ((List.range (N - i - 1)).map (fun j => i + 1 + j)).filter fun j => !listed.getD j true, ?_, ?_, fun a ha => ?_⟩
  · unfold left; rw [hr, List.filter_append, List.filter_cons, hl]; rfl
  · unfold left; rw [hr, List.filter_append, List.filter_cons, heq]
    simp only [Bool.not_true, Bool.false_eq_true, if_false]
    congr 1
    · exact List.filter_congr fun j hj => by rw [hne j (by have := List.mem_range.1 hj; omega)]
    · exact List.filter_congr fun j hj => by
        obtain ⟨k, _, rfl⟩ := List.mem_map.1 hj
        rw [hne _ (by omega)]
  · simp only [List.mem_filter, List.mem_range, Bool.not_eq_true'] at ha; exact ha
theorem draw_any {n : Nat} {ops : Array Oper} {xs : List DO} (hm : (List.range ops.size).mapM (compAt P n ops) = some (xs.map (·.mo))) (hok : drawOk P ops (ancL ops ops.size) xs = true) {K : Sl → Hp → Hp → Prop} {Q : Exit → Act → World → Prop} :
    ∀ (fuel : Nat) (listed : Array Bool), listed.size = ops.size → (left listed ops.size).length = fuel → Closed ops listed → ∀ {a : Act} {s : Sl} {σ₀ σ : Hp} {w : World}, Rel n a s → Sat σ w → Sub σ₀ σ →
    dmops P ((left listed ops.size).map fun i => xs.getD i ⟨⟨none, .mv (.tmp 0), none⟩, .p⟩) K s σ₀ σ →
    (∀ a' s' σ₀' σ' w', Rel n a' s' → Sat σ' w' → (∀ w0 σ1, Fr w0 w σ1 σ → Fr w0 w' σ1 σ') → K s' σ₀' σ' → Q .normal a' w') → wpAny P .any ops Q fuel listed a w := by
  have hlen : xs.length = ops.size := by simp only [drawOk, Bool.and_eq_true, beq_iff_eq] at hok; exact hok.1
  have hall : ∀ i o, ops[i]? = some o → ∃ x, xs[i]? = some x ∧ compOp P n ops o = some x.mo ∧ fits P x.k x.mo.m = true ∧ (∀ e ∈ o.after.toList, e.on < i ∨ Region.binds .any e = false) ∧
      (∀ j, j < i → ((ancL ops ops.size).getD i 0).testBit j = true ∨ ∃ y, xs[j]? = some y ∧ okPair y x = true) := fun i o ho => by
    have hi : i < ops.size := (Array.getElem?_eq_some_iff.1 ho).1
    obtain ⟨mo, h1, h2⟩ := mapM_get _ _ hm i i (by simp [hi])
    simp only [drawOk, Bool.and_eq_true] at hok
    have h3 := List.all_eq_true.1 hok.2 i (List.mem_range.2 hi)
    rw [ho] at h3
    have hx : ∃ x, xs[i]? = some x := ⟨xs[i], List.getElem?_eq_getElem (by omega)⟩
    obtain ⟨x, hx⟩ := hx
    rw [hx] at h3
    simp only [Bool.and_eq_true, List.all_eq_true, Bool.or_eq_true, decide_eq_true_eq, Bool.not_eq_true', List.mem_range] at h3
    rw [List.getElem?_map, hx] at h1
    simp only [Option.map_some, Option.some.injEq] at h1
    refine ⟨x, hx, ?_, h3.1.1, h3.1.2, fun j hj => (h3.2 j hj).imp id fun h => ?_⟩
    · simp only [compAt, ho, Option.bind_some] at h2; rw [h2, h1]
    · cases hy : xs[j]? with
      | none => rw [hy] at h; cases h
      | some y => rw [hy] at h; exact ⟨y, rfl, h⟩
  intro fuel
  induction fuel with
  | zero =>
    intro listed hsz hf hc a s σ₀ σ w hr hs hsub h hq
    have hnil : left listed ops.size = [] := List.eq_nil_of_length_eq_zero hf
    rw [hnil] at h
    refine ⟨?_, hq _ _ _ _ _ hr hs (fun _ _ h => h) h⟩
    refine List.filter_eq_nil_iff.2 fun i hi hrdy => ?_
    simp only [Bool.and_eq_true] at hrdy
    have : i ∈ left listed ops.size := mem_left.2 ⟨List.mem_range.1 hi, by simpa using hrdy.1⟩
    rw [hnil] at this; cases this
  | succ fuel ih =>
    intro listed hsz hf hc a s σ₀ σ w hr hs hsub h hq
    refine ⟨fun hnone => ?_, fun i hi => ?_⟩
    · -- something is left, so something is ready
      exfalso
      cases hl : left listed ops.size with
      | nil => rw [hl] at hf; cases hf
      | cons i L =>
        have hi : i ∈ left listed ops.size := by rw [hl]; simp
        obtain ⟨hlt, hul⟩ := mem_left.1 hi
        have ho : ops[i]? = some ops[i] := Array.getElem?_eq_getElem hlt
        obtain ⟨x, _, _, _, hpre, _⟩ := hall i _ ho
        have hin : i ∈ Region.ready .any ops listed := by
          refine List.mem_filter.2 ⟨List.mem_range.2 hlt, ?_⟩
          simp only [hul, ho, Option.map_some, Option.getD_some, Bool.not_false, Bool.true_and]
          rw [← Array.all_toList]
          refine List.all_eq_true.2 fun e he => ?_
          rcases hpre e he with h1 | h1
          · have hel : listed.getD e.on true = true := by
              cases hh : listed.getD e.on true with
              | true => rfl
              | false =>
                obtain ⟨A, B, hAB, _, hA⟩ := left_split hsz hi
                rw [hl] at hAB
                cases A with
                | nil =>
                  have hm : e.on ∈ left listed ops.size := mem_left.2 ⟨by omega, hh⟩
                  have hpw : (left listed ops.size).Pairwise (· < ·) := List.Pairwise.filter _ List.pairwise_lt_range
                  rw [hl] at hm hpw
                  rcases List.mem_cons.1 hm with h2 | h2
                  · omega
                  · have := (List.pairwise_cons.1 hpw).1 _ h2; omega
                | cons b A =>
                  simp only [List.cons_append, List.cons.injEq] at hAB
                  have := hA b (by simp)
                  omega
            have hlt2 : e.on < listed.size := by rw [hsz]; omega
            have : listed.getD e.on false = true := by
              rw [Array.getD_eq_getD_getElem?, Array.getElem?_eq_getElem hlt2] at hel ⊢; exact hel
            rw [this]; simp
          · rw [h1]; rfl
        rw [hnone] at hin; cases hin
    · obtain ⟨hir, hrdy⟩ := List.mem_filter.1 hi
      simp only [Bool.and_eq_true] at hrdy
      have hlt := List.mem_range.1 hir
      have ho : ops[i]? = some ops[i] := Array.getElem?_eq_getElem hlt
      have hil : i ∈ left listed ops.size := mem_left.2 ⟨hlt, by simpa using hrdy.1⟩
      have hpre : Preds ops listed i := fun o ho' e he hb => by
        have h2 := hrdy.2
        rw [ho'] at h2
        simp only [Option.map_some, Option.getD_some] at h2
        rw [← Array.all_toList] at h2
        have := List.all_eq_true.1 h2 e he
        rw [hb] at this; simpa using this
      obtain ⟨A, B, hAB, hAB', hA⟩ := left_split hsz hil
      obtain ⟨x, hx, hcx, hfx, _, hpairs⟩ := hall i _ ho
      have hxd : xs.getD i ⟨⟨none, .mv (.tmp 0), none⟩, .p⟩ = x := by rw [List.getD_eq_getElem?_getD, hx]; rfl
      rw [hAB, List.map_append, List.map_cons, hxd] at h
      have hpair : ∀ y ∈ A.map (fun i => xs.getD i ⟨⟨none, .mv (.tmp 0), none⟩, .p⟩), okPair y x = true ∧ fits P y.k y.mo.m = true := fun y hy => by
        obtain ⟨j, hj, rfl⟩ := List.mem_map.1 hy
        obtain ⟨hji, hjl⟩ := hA j hj
        have hoj : ops[j]? = some ops[j] := Array.getElem?_eq_getElem (by omega)
        obtain ⟨y, hy, _, hfy, _, _⟩ := hall j _ hoj
        have hyd : xs.getD j ⟨⟨none, .mv (.tmp 0), none⟩, .p⟩ = y := by rw [List.getD_eq_getElem?_getD, hy]; rfl
        rw [hyd]
        refine ⟨?_, hfy⟩
        rcases hpairs j hji with hb | ⟨y', hy', hok'⟩
        · have := anc_listed hc ops.size i hlt hb hpre
          have hlt2 : j < listed.size := by omega
          rw [Array.getD_eq_getD_getElem?, Array.getElem?_eq_getElem hlt2] at this hjl
          simp only [Option.getD_some] at this hjl
          rw [this] at hjl; cases hjl
        · rw [hy] at hy'; cases hy'; exact hok'
      have hfront := to_front (P := P) (x := x) (K := K) _ _ (fun y hy => (hpair y hy).1) (fun y hy => (hpair y hy).2) hfx hs.satb hsub h
      have hc' : Closed ops (listed.setIfInBounds i true) := fun k hk o ho' e he hb => by
        have hmono : ∀ k, listed.getD k false = true → (listed.setIfInBounds i true).getD k false = true := fun k hk => by
          rw [Array.getD_eq_getD_getElem?, Array.getElem?_setIfInBounds]
          split
          · split
            · rfl
            · rename_i h1 h2; rw [← h1, Array.getD_eq_getD_getElem?, Array.getElem?_eq_none (by omega)] at hk; cases hk
          · rw [← Array.getD_eq_getD_getElem?]; exact hk
        by_cases e' : k = i
        · subst e'; exact hmono _ (hpre o ho' e he hb)
        · rw [Array.getD_eq_getD_getElem?, Array.getElem?_setIfInBounds, if_neg (Ne.symm e'), ← Array.getD_eq_getD_getElem?] at hk
          exact hmono _ (hc k hk o ho' e he hb)
      have hrest : ∀ {a' : Act} {s' : Sl} {σ₀' σ' : Hp} {w' : World}, Rel n a' s' → Sat σ' w' → Sub σ₀' σ' → (∀ w0 σ1, Fr w0 w σ1 σ → Fr w0 w' σ1 σ') → dmops P (A.map (fun i => xs.getD i ⟨⟨none, .mv (.tmp 0), none⟩, .p⟩) ++ B.map (fun i => xs.getD i ⟨⟨none, .mv (.tmp 0), none⟩, .p⟩)) K s' σ₀' σ' →
          wpAny P .any ops Q fuel (listed.setIfInBounds i true) a' w' := fun {a' s' σ₀' σ' w'} h1 h2 h3 h4 h5 => by
        refine ih _ (by simpa using hsz) ?_ hc' h1 h2 h3 (by rw [hAB', List.map_append]; exact h5) fun a'' s'' σ₀'' σ'' w'' k1 k2 k3 k4 => hq _ _ _ _ _ k1 k2 (fun w0 σ1 h0 => k3 _ _ (h4 _ _ h0)) k4
        rw [hAB] at hf; rw [hAB']
        simp only [List.length_append, List.length_cons] at hf ⊢; omega
      obtain ⟨hcm, hd, hin⟩ := compOp_parts hcx
      unfold wpOp
      simp only [ho]
      rw [gd_wanted hcx hr]
      unfold dm1 dmv at hfront
      split
      · rename_i hg
        rw [if_pos hg] at hfront
        refine .inl (mop_sound hcm hin hr hs (dm_mop hfx hsub hfront) fun v σ' w' hK hs' hf' => ?_)
        obtain ⟨σ₀', hsub', hK⟩ := hK
        rw [hd] at hK
        exact hrest (hr.put _ _) hs' hsub' hf' hK
      · rename_i hg
        rw [if_neg hg] at hfront
        rw [hd] at hfront
        exact hrest (hr.put _ _) hs hsub (fun _ _ h => h) hfront
theorem left_all (N : Nat) : left (Array.replicate N false) N = List.range N := by
  unfold left
  refine List.filter_eq_self.2 fun i hi => ?_
  have := List.mem_range.1 hi
  simp [Array.getD_eq_getD_getElem?, Array.getElem?_replicate, this]
theorem range_getD {α : Type} (xs : List α) (d : α) (N : Nat) (h : xs.length = N) : ((List.range N).map fun i => xs.getD i d) = xs := by
  subst h
  apply List.ext_getElem?
  intro i
  by_cases hi : i < xs.length
  · rw [List.getElem?_map, List.getElem?_range hi]
    simp only [Option.map_some, List.getD_eq_getElem?_getD, List.getElem?_eq_getElem hi, Option.getD_some]
  · rw [List.getElem?_eq_none (by simpa using hi), List.getElem?_eq_none (by simpa using hi)]
theorem draw_sound {us : List Nat} {n id : Nat} {ops : Array Oper} {xs : List DO} (hmix : P.follows .mixedOrders = true) (hc : compDraw P us n ops = some xs) {K : Sl → Hp → Hp → Prop} {Q : Exit → Act → World → Prop}
    {a : Act} {s : Sl} {σ₀ σ : Hp} {w : World} (hr : Rel n a s) (hs : Sat σ w) (h0 : Sub σ₀ σ) (h : dmops P xs K s σ₀ σ)
    (hq : ∀ a' s' σ₀' σ' w', Rel n a' s' → Sat σ' w' → (∀ w0 σ1, Fr w0 w σ1 σ → Fr w0 w' σ1 σ') → K s' σ₀' σ' → Q .normal a' w') : (Code.region id ops true).wp P Q a w := by
  simp only [compDraw, Option.bind_eq_some_iff] at hc
  obtain ⟨mos, hm, hc⟩ := hc
  split at hc
  · rename_i hok
    cases hc
    have hmap : (mos.zipIdx.map fun p => (⟨p.1, kindAt us (ancL ops ops.size) mos p.2 p.1.m⟩ : DO)).map (·.mo) = mos := by
      rw [List.map_map]
      exact (List.map_congr_left (fun _ _ => rfl)).trans (List.zipIdx_map_fst 0 mos)
    have hlen : (mos.zipIdx.map fun p => (⟨p.1, kindAt us (ancL ops ops.size) mos p.2 p.1.m⟩ : DO)).length = ops.size := by
      simp only [drawOk, Bool.and_eq_true, beq_iff_eq] at hok; exact hok.1
    refine wp_region_any hmix (draw_any (n := n) (K := K) (hm.trans (by rw [hmap])) hok ops.size _ (by simp) (by rw [left_all]; simp) ?_ hr (hs.drew _) h0 ?_ fun a' s' σ₀' σ' w' h1 h2 h3 h4 => hq _ _ _ _ _ h1 h2 (fun w0 σ1 h0 => h3 _ _ (h0.drew _)) h4)
    · intro i hi
      rw [Array.getD_eq_getD_getElem?, Array.getElem?_replicate] at hi
      split at hi <;> cases hi
    · rw [left_all, range_getD _ _ _ hlen]; exact h
  · cases hc
end Go.Sp
