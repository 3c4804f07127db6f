/- Words by which the compiled text is worked out. -/
import Derived.Test.YtpnghjmphbhkjaaSpD
namespace Go.Sp
open Go.RowKit
set_option linter.unusedSimpArgs false
set_option linter.unusedVariables false
/-- An equation whose proof is to be kept. -/
theorem nr {α : Sort _} {a b : α} (h : a = b) : a = b := h
theorem cl_int (k : IntKind) (n : Int) : cl (.int k n) = [.int k n] := nr rfl
theorem cl_bool (b : Bool) : cl (.bool b) = [.bool b] := nr rfl
theorem cl_string (s : ByteArray) : cl (.string s) = [.string s] := nr rfl
theorem cl_pointer (a : Option Addr) : cl (.pointer a) = [.pointer a] := nr rfl
theorem cl_slice (a : Option Addr) (n c : Nat) : cl (.slice a n c) = [.slice a n c] := nr rfl
theorem cl_agg (cs : List Value) : cl (.agg cs.toArray) = cs := nr rfl
theorem cl_one {v : Value} (h : one v = true) : cl v = [v] := by cases v <;> first | rfl | cases h
theorem one_int (k : IntKind) (n : Int) : one (.int k n) = true := nr rfl
theorem one_bool (b : Bool) : one (.bool b) = true := nr rfl
theorem one_string (s : ByteArray) : one (.string s) = true := nr rfl
theorem one_pointer (a : Option Addr) : one (.pointer a) = true := nr rfl
theorem one_slice (a : Option Addr) (n c : Nat) : one (.slice a n c) = true := nr rfl
theorem init_zero (a : Value) (l : List Value) : init (a :: l) 0 = a := nr rfl
theorem init_succ (a : Value) (l : List Value) (i : Nat) : init (a :: l) (i + 1) = init l i := nr rfl
theorem put_get (s : Sl) (d i : Nat) (v : Value) : put s d v i = if i = d then v else s i := nr rfl
theorem putO_some (s : Sl) (d : Nat) (v : Value) : putO s (some d) v = put s d v := nr rfl
theorem putO_none (s : Sl) (v : Value) : putO s none v = s := nr rfl
theorem ev_tmp (s : Sl) (t : Nat) : ev s (.tmp t) = s t := nr rfl
theorem ev_const (s : Sl) (v : Value) : ev s (.const v) = v := nr rfl
theorem gd_none (s : Sl) : gd none s = true := nr rfl
def gdv (v : Value) (want : Bool) : Bool := match v with | .bool b => b == want | _ => false
def onPtrO {α : Type} (v : Value) (k : Nat → Nat → Option α) : Option α := match v with | .pointer (some ⟨b, o, none⟩) => k b o | _ => none
theorem onPtrO_mk {α : Type} (b o : Nat) (k : Nat → Nat → Option α) : onPtrO (.pointer (some ⟨b, o, none⟩)) k = k b o := nr rfl
theorem gdv_bool (b want : Bool) : gdv (.bool b) want = (b == want) := nr rfl
theorem gdv_undef (want : Bool) : gdv undef want = false := nr rfl
theorem gd_some (s : Sl) (d : Nat) (b : Bool) : gd (some (d, b)) s = gdv (s d) b := by unfold gd gdv; rfl
theorem rd_same (σ : Hp) (b off : Nat) (cs : List Value) (t : TypeId) : rd (upd σ b (.cells cs t)) b off = cs[off]? := by simp [rd, upd]
theorem rd_row (σ : Hp) (b off : Nat) (cs : List Value) (r : Nat) (t : TypeId) : rd (upd σ b (.row cs r t)) b off = cs[off]? := by simp [rd, upd]
theorem rd_ne (σ : Hp) {b c : Nat} (off : Nat) (o : Blk) (h : ¬ b = c) : rd (upd σ c o) b off = rd σ b off := by simp [rd, upd, h]
theorem rdn_same (σ : Hp) (b off n : Nat) (cs : List Value) (t : TypeId) : rdn (upd σ b (.cells cs t)) b off n = seg cs off n := by simp [rdn, upd]
theorem rdn_row (σ : Hp) (b off n : Nat) (cs : List Value) (r : Nat) (t : TypeId) : rdn (upd σ b (.row cs r t)) b off n = seg cs off n := by simp [rdn, upd]
theorem rdn_ne (σ : Hp) {b c : Nat} (off n : Nat) (o : Blk) (h : ¬ b = c) : rdn (upd σ c o) b off n = rdn σ b off n := by simp [rdn, upd, h]
theorem wr_same (σ : Hp) (b off : Nat) (cs vs : List Value) (t : TypeId) : wr (upd σ b (.cells cs t)) b off vs = if off + vs.length ≤ cs.length then some (upd σ b (.cells (splice cs off vs) t)) else none := by simp [wr, upd_same, upd_upd]
theorem wr_row (σ : Hp) (b off : Nat) (cs vs : List Value) (r : Nat) (t : TypeId) : wr (upd σ b (.row cs r t)) b off vs = if off + vs.length ≤ cs.length then some (upd σ b (.row (splice cs off vs) r t)) else none := by simp [wr, upd_same, upd_upd]
theorem wr_ne (σ : Hp) {b c : Nat} (off : Nat) (vs : List Value) (o : Blk) (h : ¬ b = c) : wr (upd σ c o) b off vs = (wr σ b off vs).map fun σ' => upd σ' c o := by
  unfold wr
  rw [upd_ne _ _ h]
  cases σ b with
  | none => rfl
  | some x =>
    cases x with
    | cells cs t => dsimp only; split <;> simp [upd_comm _ _ _ (Ne.symm h)]
    | row cs r t => dsimp only; split <;> simp [upd_comm _ _ _ (Ne.symm h)]
    | dead => rfl
    | ro x => rfl
    | mp l => rfl
    | im l => rfl
theorem none_upd (σ : Hp) (a b : Nat) (o : Blk) : (upd σ a o b = none) ↔ ((¬ b = a ∧ ¬ a = b) ∧ σ b = none) := by
  unfold upd
  by_cases h : b = a
  · simp [h]
  · simp only [h, if_false, not_false_eq_true, true_and]; exact ⟨fun k => ⟨fun e => h e.symm, k⟩, fun k => k.2⟩
theorem fin_normal (rvs : List RV) (R : Value → Hp → Prop) (s : Sl) (σ : Hp) : fin rvs R .normal s σ = onSome (rvals s σ rvs) fun vs => ∃ σ', Sub σ' σ ∧ R (whole vs) σ' := by
  unfold fin onSome
  cases h : rvals s σ rvs with
  | none => simp [h]
  | some vs => simp [h]
theorem fin_ret (rvs : List RV) (R : Value → Hp → Prop) (s : Sl) (σ : Hp) : fin rvs R .ret s σ = onSome (rvals s σ rvs) fun vs => ∃ σ', Sub σ' σ ∧ R (whole vs) σ' := by
  unfold fin onSome
  cases h : rvals s σ rvs with
  | none => simp [h]
  | some vs => simp [h]
theorem rval_tmp (s : Sl) (σ : Hp) (t : Nat) : rval s σ (.tmp t) = some (s t) := nr rfl
theorem rval_one (s : Sl) (σ : Hp) (a : Nat) : rval s σ (.one a) = onPtrO (s a) fun b off => rd σ b off := by unfold rval onPtrO; rfl
theorem rval_agg (s : Sl) (σ : Hp) (a n : Nat) : rval s σ (.agg a n) = onPtrO (s a) fun b off => (rdn σ b off n).map fun vs => .agg vs.toArray := by unfold rval onPtrO; rfl
theorem rvals_nil (s : Sl) (σ : Hp) : rvals s σ [] = some [] := nr rfl
theorem rvals_cons (s : Sl) (σ : Hp) (r : RV) (rs : List RV) : rvals s σ (r :: rs) = (rval s σ r).bind fun v => (rvals s σ rs).map fun vs => v :: vs := nr rfl
theorem whole_one (v : Value) : whole [v] = v := nr rfl
theorem whole_nil : whole [] = .tuple #[] := nr rfl
theorem whole_two (v u : Value) (vs : List Value) : whole (v :: u :: vs) = .tuple (v :: u :: vs).toArray := nr rfl
theorem Sub.drop {τ σ : Hp} {b : Nat} {o : Blk} (h : τ b = none) (k : Sub τ σ) : Sub τ (upd σ b o) := fun i => by
  by_cases e : i = b
  · subst e; exact .inl h
  · rw [upd_ne _ _ e]; exact k i
theorem Sub.both {τ σ : Hp} {b : Nat} {o : Blk} (k : Sub τ σ) : Sub (upd τ b o) (upd σ b o) := fun i => by
  by_cases e : i = b
  · subst e; right; simp [upd]
  · rw [upd_ne _ _ e, upd_ne _ _ e]; exact k i
theorem open_upd {σ : Hp} {b : Nat} {o : Blk} (h : σ b = some o) : ∃ τ, σ = upd τ b o := ⟨σ, (upd_self h).symm⟩
end Go.Sp
