/- A function, known by its text. -/
import Derived.Test.YtpnghjmphbhkjaaSpC
namespace Go.Sp
open Go.RowKit
set_option linter.unusedSimpArgs false
set_option linter.unusedVariables false
variable {P : Program}
def resOf (tmps : Array Value) : ResultVar → Sem Value
  | .tmp t => pure (tmps.getD t undef)
  | .cell a t => do loadVar t (← asAddr (tmps.getD a undef))
theorem results_eq (fn : Func) (tmps : Array Value) : results fn tmps = (do let vs ← fn.results.mapM (resOf tmps); pure (if h : vs.size = 1 then vs[0] else .tuple vs)) := rfl
theorem rval_run {n : Nat} {a : Act} {s : Sl} {σ : Hp} {w : World} (hr : Rel n a s) (hs : Sat σ w) {r : ResultVar} {rv : RV} (hc : compRV P n r = some rv) {v : Value} (hv : rval s σ rv = some v) : (resOf a.tmps r).run P w = .ok v w := by
  cases r with
  | tmp t =>
    simp only [compRV] at hc
    split at hc
    · rename_i ht
      cases hc
      simp only [rval, Option.some.injEq] at hv
      subst hv
      simp only [resOf, Sem.run_pure, hr.2.2 t ht]
    · cases hc
  | cell ad t =>
    simp only [compRV] at hc
    split at hc
    · rename_i ht
      have hsa := hr.2.2 ad ht
      split at hc
      · rename_i fs i hu hi
        cases hc
        simp only [rval] at hv
        split at hv
        · rename_i b off hp
          simp only [Option.map_eq_some_iff] at hv
          obtain ⟨vs, hvs, rfl⟩ := hv
          obtain ⟨hl, hg⟩ := rdn_cells hs hvs
          simp only [resOf, hsa, hp, asAddr, Sem.run_bind, Sem.run_pure, Result.andThen_ok, loadVar_agg hu hi hl hg]
        · cases hv
      · cases hc
      · rename_i d hn2 hu hn1
        cases hc
        simp only [rval] at hv
        split at hv
        · rename_i b off hp
          have := loadVar_one (P := P) hu (fun fs e => by subst e; cases hh : P.info? t with
            | none => rw [Program.underlying, hh] at hu; cases hu
            | some i => exact hn1 fs i hh rfl) (fun m e ee => hn2 m e ee) (rd_cell hs hv)
          simp only [resOf, hsa, hp, asAddr, Sem.run_bind, Sem.run_pure, Result.andThen_ok, this]
        · cases hv
      · cases hc
    · cases hc
theorem rvals_run {n : Nat} {a : Act} {s : Sl} {σ : Hp} {w : World} (hr : Rel n a s) (hs : Sat σ w) : ∀ (rs : List ResultVar) (rvs : List RV), rs.mapM (compRV P n) = some rvs → ∀ vs, rvals s σ rvs = some vs → (rs.mapM (resOf a.tmps)).run P w = .ok vs w := by
  intro rs
  induction rs with
  | nil =>
    intro rvs h vs hv
    simp only [List.mapM_nil, Option.pure_def, Option.some.injEq] at h
    subst h
    simp only [rvals, Option.some.injEq] at hv
    subst hv
    simp
  | cons r rs ih =>
    intro rvs h vs hv
    simp only [List.mapM_cons, Option.bind_eq_bind, Option.bind_eq_some_iff, Option.pure_def, Option.some.injEq] at h
    obtain ⟨rv, hrv, rvs', hrvs', rfl⟩ := h
    simp only [rvals, Option.bind_eq_some_iff, Option.map_eq_some_iff] at hv
    obtain ⟨v, hv, vs', hvs', rfl⟩ := hv
    simp only [List.mapM_cons, Sem.run_bind, rval_run hr hs hrv hv, Result.andThen_ok, ih rvs' hrvs' vs' hvs', Sem.run_pure]
def init (args : List Value) : Sl := fun i => args.getD i undef
/-- The end of a function: its results, and what is still known of the heap. -/
def fin (rvs : List RV) (R : Value → Hp → Prop) : Exit → Sl → Hp → Prop
  | .normal, s, σ => ∃ vs σ', rvals s σ rvs = some vs ∧ Sub σ' σ ∧ R (whole vs) σ'
  | .ret, s, σ => ∃ vs σ', rvals s σ rvs = some vs ∧ Sub σ' σ ∧ R (whole vs) σ'
  | _, _, _ => False
theorem whole_eq (vs : List Value) : (if h : vs.toArray.size = 1 then vs.toArray[0] else Value.tuple vs.toArray) = whole vs := by
  cases vs with
  | nil => rfl
  | cons v vs => cases vs with
    | nil => rfl
    | cons u vs => rfl
structure FnOk (P : Program) (f n : Nat) (m : C) (rvs : List RV) : Prop where
  ok : ∃ us fn c, P.funcs[f]? = some fn ∧ fn.body = some c ∧ fn.ntmps = n ∧ P.follows .mixedOrders = true ∧ compC P us n c = some m ∧ fn.results.toList.mapM (compRV P n) = some rvs
theorem acalls_of {f n : Nat} {m : C} {rvs : List RV} (hf : FnOk P f n m rvs) {args : List Value} {σ : Hp} {R : Value → Hp → Prop} (ha : args.length ≤ n) (h : mcode P m (fin rvs R) (init args) σ) : ACalls P f args.toArray σ R := by
  obtain ⟨us, fn, c, hfn, hb, rfl, hmix, hc, hrv⟩ := hf.ok
  intro w hs
  have hr : Rel fn.ntmps { tmps := args.toArray ++ Array.replicate (fn.ntmps - args.toArray.size) undef, defers := [] } (init args) := by
    refine ⟨by simp; omega, rfl, fun i hi => ?_⟩
    simp only [init, Array.getD_eq_getD_getElem?, List.getD_eq_getElem?_getD, Array.getElem?_append, List.getElem?_toArray, List.size_toArray]
    split
    · rfl
    · rename_i hlt
      rw [List.getElem?_eq_none (by omega)]
      simp only [Array.getElem?_replicate]
      split <;> rfl
  refine calls_of_wp hfn hb (wp_mono (mcode_sound hmix c m hc hr hs h) ?_)
  rintro e a' w' ⟨s', σ', h1, h2, h3, h4⟩
  have key : (∃ vs σ'', rvals s' σ' rvs = some vs ∧ Sub σ'' σ' ∧ R (whole vs) σ'') → a'.defers = [] ∧ ∃ v, (results fn a'.tmps).run P w' = .ok v w' ∧ ∃ v_1 σ'_1, Ending.returned v = .returned v_1 ∧ Sat σ'_1 w' ∧ Fr w w' σ σ'_1 ∧ R v_1 σ'_1 := by
    rintro ⟨vs, σ'', hvs, hsub, hR⟩
    refine ⟨h1.2.1, whole vs, ?_, whole vs, σ'', rfl, h2.sub hsub, (h3 _ _ (Fr.refl w σ)).sub hsub, hR⟩
    rw [results_eq, Sem.run_bind, Array.mapM_eq_mapM_toList]
    have := rvals_run h1 h2 fn.results.toList rvs hrv vs hvs
    have e : (List.toArray <$> (fn.results.toList.mapM (resOf a'.tmps))).run P w' = .ok vs.toArray w' := by simp [this]
    rw [e]
    exact congrArg (fun v => Result.ok v w') (whole_eq vs)
  cases e with
  | normal => exact key h4
  | ret => exact key h4
  | _ => exact h4.elim
end Go.Sp
