/- A way to work compiled texts out, head first: what comes later is not looked at before its turn. -/
import Derived.Test.YtpnghjmphbhkjaaSpG
import Derived.Laws.Strings
namespace Go.Sp
open Go.RowKit
set_option linter.unusedSimpArgs false
set_option linter.unusedVariables false
variable {P : Program}
theorem int_beq (a b : Int) : (a == b) = decide (a = b) := by
  by_cases h : a = b <;> simp [h]
theorem int_bne (a b : Int) : (a != b) = !decide (a = b) := by
  by_cases h : a = b <;> simp [h]
theorem ba_inj (a b : ByteArray) : a.toList = b.toList ↔ a = b :=
  ⟨fun h => by
    rw [ByteArray.toList_eq, ByteArray.toList_eq] at h
    cases a; cases b
    exact congrArg _ (Array.toList_inj.mp h), fun h => by rw [h]⟩
theorem str_beq (a b : ByteArray) : (a.toList == b.toList) = decide (a = b) := by
  by_cases h : a = b
  · simp [h]
  · have : ¬ a.toList = b.toList := fun e => h ((ba_inj a b).1 e)
    simp [h, this]
/-- What depends on it is left alone till its turn. -/
structure Dep.{u} {α : Sort u} (a : α) : Type where
  mk ::
def mxI (a b : Int) : Int := if b > a then b else a
def mnI (a b : Int) : Int := if b < a then b else a
def runF {α : Type} (v : α) (k : α → Prop) (_ : Dep k) : Prop := k v
def someF {α : Type} (v : Option α) (k : α → Prop) (_ : Dep k) : Prop := onSome v k
def ptrF (v : Value) (k : Nat → Nat → Prop) (_ : Dep k) : Prop := onPtr v k
def boolF (v : Value) (k : Bool → Prop) (_ : Dep k) : Prop := onBool v k
def sliceF (v : Value) (k : Nat → Nat → Nat → Prop) (_ : Dep k) : Prop := onSlice v k
def i64F (v : Value) (k : Int → Prop) (_ : Dep k) : Prop := onI64 v k
def tupleF (v : Value) (k : Array Value → Prop) (_ : Dep k) : Prop := onTuple v k
def intF (v : Value) (k : IntKind → Int → Prop) (_ : Dep k) : Prop := onInt v k
def strF (v : Value) (k : ByteArray → Prop) (_ : Dep k) : Prop := onStr v k
def mapF (v : Value) (k : Nat → Prop) (_ : Dep k) : Prop := onMap v k
def condF (v : Value) (A B : Prop) (_ : Dep (A, B)) : Prop := ∃ t, v = .bool t ∧ if t = true then A else B
def guardF (v : Value) (w : Bool) (A B : Prop) (_ : Dep (A, B)) : Prop := if gdv v w = true then A else B
def callF (P : Program) (f : FuncId) (args : List Value) (σ : Hp) (K : Value → Hp → Prop) (_ : Dep K) : Prop := ∃ R, ACalls P f args.toArray σ R ∧ ∀ v σ', R v σ' → (∃ w, Sat σ' w) → K v σ'
def ccallF (P : Program) (f : FuncId) (args : List Value) (σ : Hp) (K : Value → Prop) (_ : Dep K) : Prop := ∃ v, ACalls P f args.toArray σ (fun v' σ' => v' = v ∧ σ' = σ) ∧ K v
def gcallF (P : Program) (f : FuncId) (args : List Value) (σ₀ σ : Hp) (K : Value → Hp → Prop) (_ : Dep K) : Prop := ∃ R, ACalls P f args.toArray σ₀ R ∧ ∀ v σ₁, R v σ₁ → (∃ w, Sat σ₁ w) → Sub σ₀ σ₁ ∧ ((∀ k, σ₀ k = none → σ₁ k ≠ none → σ k = none) → K v (mrg σ₀ σ₁ σ))
/-- A call of a function that is a value. -/
def vcallF (P : Program) (v : Value) (args : List Value) (σ : Hp) (K : Value → Hp → Prop) (_ : Dep K) : Prop := ∃ f cs, v = .func (.func f) #[] cs ∧ okF P f = true ∧ callF P f (args ++ cs.toList) σ K ⟨⟩
def vccallF (P : Program) (v : Value) (args : List Value) (σ : Hp) (K : Value → Prop) (_ : Dep K) : Prop := ∃ f cs, v = .func (.func f) #[] cs ∧ okF P f = true ∧ ccallF P f (args ++ cs.toList) σ K ⟨⟩
def appF (E size bytes : Nat) (vx vy : Value) (K : Value → Hp → Prop) (σ : Hp) (_ : Dep K) : Prop := appK E size bytes vx vy K σ
def rawF (P : Program) (op : Op) (ty : TypeId) (K : Value → Prop) (s : Sl) (_ : Dep (op, K, s)) : Prop := ∃ v, (∀ w, (execOp (ev s) (mkO op ty)).run P w = .ok (.value v) w) ∧ K v
def loopF (P : Program) (c : C) (Q : Exit → Sl → Hp → Prop) (s : Sl) (σ : Hp) (_ : Dep (c, Q, s)) : Prop := mcode P (.loop c) Q s σ
def opF (P : Program) (m : M) (K : Value → Hp → Prop) (s : Sl) (σ : Hp) (_ : Dep (m, K, s)) : Prop := mop P m K s σ
def opsF (P : Program) (os : List MO) (K : Sl → Hp → Prop) (s : Sl) (σ : Hp) (_ : Dep (os, K, s)) : Prop := mops P os K s σ
def codeF (P : Program) (c : C) (Q : Exit → Sl → Hp → Prop) (s : Sl) (σ : Hp) (_ : Dep (c, Q, s)) : Prop := mcode P c Q s σ
def dopsF (P : Program) (xs : List DO) (K : Sl → Hp → Hp → Prop) (s : Sl) (σ₀ σ : Hp) (_ : Dep (xs, K, s)) : Prop := dmops P xs K s σ₀ σ
def dopF (P : Program) (k : Kn) (m : M) (K : Value → Hp → Hp → Prop) (s : Sl) (σ₀ σ : Hp) (_ : Dep (k, m, K, s)) : Prop := dm P k m K s σ₀ σ
/-- The next round. -/
def nextF (J : Nat → Sl → Hp → Prop) (k : Nat) (s : Sl) (σ : Hp) (_ : Dep (J, s)) : Prop := ∃ k', k' < k ∧ ∃ σ₁, Sub σ₁ σ ∧ J k' s σ₁
def finF (rvs : List RV) (R : Value → Hp → Prop) (s : Sl) (σ : Hp) (_ : Dep (rvs, R, s)) : Prop := onSome (rvals s σ rvs) fun vs => ∃ σ', Sub σ' σ ∧ R (whole vs) σ'
def endF (R : Value → Hp → Prop) (v : Value) (σ : Hp) (_ : Dep R) : Prop := ∃ σ', Sub σ' σ ∧ R v σ'
theorem runF_eq {α : Type} (v : α) (k : α → Prop) (δ : Dep k) : runF v k δ = k v := nr rfl
theorem someF_eq {α : Type} (v : α) (k : α → Prop) (δ : Dep k) : someF (some v) k δ = k v := nr rfl
theorem ptrF_eq (b o : Nat) (k : Nat → Nat → Prop) (δ : Dep k) : ptrF (.pointer (some ⟨b, o, none⟩)) k δ = k b o := nr rfl
theorem boolF_eq (b : Bool) (k : Bool → Prop) (δ : Dep k) : boolF (.bool b) k δ = k b := nr rfl
theorem sliceF_eq (b o n c : Nat) (k : Nat → Nat → Nat → Prop) (δ : Dep k) : sliceF (.slice (some ⟨b, o, none⟩) n c) k δ = k b o n := nr rfl
theorem i64F_eq (n : Int) (k : Int → Prop) (δ : Dep k) : i64F (.int .i64 n) k δ = k n := nr rfl
theorem tupleF_eq (vs : Array Value) (k : Array Value → Prop) (δ : Dep k) : tupleF (.tuple vs) k δ = k vs := nr rfl
theorem intF_eq (q : IntKind) (n : Int) (k : IntKind → Int → Prop) (δ : Dep k) : intF (.int q n) k δ = k q n := nr rfl
theorem strF_eq (b : ByteArray) (k : ByteArray → Prop) (δ : Dep k) : strF (.string b) k δ = k b := nr rfl
theorem condF_true (A B : Prop) (δ : Dep (A, B)) : condF (.bool true) A B δ = A := propext ⟨fun ⟨t, h, k⟩ => by cases h; exact k, fun h => ⟨true, rfl, h⟩⟩
theorem condF_false (A B : Prop) (δ : Dep (A, B)) : condF (.bool false) A B δ = B := propext ⟨fun ⟨t, h, k⟩ => by cases h; exact k, fun h => ⟨false, rfl, h⟩⟩
theorem condF_split {X : Bool} {A B : Prop} {δ : Dep (A, B)} (h : X = true → A) (k : X = false → B) : condF (.bool X) A B δ := by
  cases X with
  | true => rw [condF_true]; exact h rfl
  | false => rw [condF_false]; exact k rfl
theorem guardF_bool (X : Bool) (A B : Prop) (δ : Dep (A, B)) : guardF (.bool X) true A B δ = condF (.bool X) A B ⟨⟩ := by
  cases X
  · rw [condF_false]; rfl
  · rw [condF_true]; rfl
theorem guardF_not (X : Bool) (A B : Prop) (δ : Dep (A, B)) : guardF (.bool X) false A B δ = condF (.bool X) B A ⟨⟩ := by
  cases X
  · rw [condF_false]; rfl
  · rw [condF_true]; rfl
theorem guardF_undef (w : Bool) (A B : Prop) (δ : Dep (A, B)) : guardF undef w A B δ = B := nr rfl
theorem callF_of {f : FuncId} {args : List Value} {σ : Hp} {R K : Value → Hp → Prop} {δ : Dep K} (h : ACalls P f args.toArray σ R) (hk : ∀ v σ', R v σ' → K v σ') : callF P f args σ K δ := call_k h hk
theorem callF_v {f : FuncId} {args : List Value} {σ S : Hp} {u : Value} {K : Value → Hp → Prop} {δ : Dep K} (h : ACalls P f args.toArray σ fun v σ' => v = u ∧ σ' = S) (hk : K u S) : callF P f args σ K δ := call_k h fun v σ' hr => by obtain ⟨rfl, rfl⟩ := hr; exact hk
theorem ccallF_of {f : FuncId} {args : List Value} {σ : Hp} {u : Value} {K : Value → Prop} {δ : Dep K} (h : ACalls P f args.toArray σ fun v σ' => v = u ∧ σ' = σ) (hk : K u) : ccallF P f args σ K δ := ⟨u, h, hk⟩
theorem mrg_self (σ₀ σ : Hp) : mrg σ₀ σ₀ σ = σ := by
  funext k; unfold mrg; cases σ₀ k <;> rfl
theorem gcallF_of {f : FuncId} {args : List Value} {σ₀ σ : Hp} {u : Value} {K : Value → Hp → Prop} {δ : Dep K} (h : ACalls P f args.toArray σ₀ fun v σ' => v = u ∧ σ' = σ₀) (hk : K u σ) : gcallF P f args σ₀ σ K δ :=
  ⟨_, h, fun v σ₁ hr _ => by obtain ⟨rfl, rfl⟩ := hr; exact ⟨Sub.refl _, fun _ => by rw [mrg_self]; exact hk⟩⟩
theorem vcallF_mk {f : FuncId} {args : List Value} {σ : Hp} {K : Value → Hp → Prop} {δ : Dep K} (ho : okF P f = true) (h : callF P f args σ K ⟨⟩) : vcallF P (.func (.func f) #[] #[]) args σ K δ := ⟨f, #[], rfl, ho, by simpa using h⟩
theorem vccallF_mk {f : FuncId} {args : List Value} {σ : Hp} {K : Value → Prop} {δ : Dep K} (ho : okF P f = true) (h : ccallF P f args σ K ⟨⟩) : vccallF P (.func (.func f) #[] #[]) args σ K δ := ⟨f, #[], rfl, ho, by simpa using h⟩
theorem vcallF_cs {f : FuncId} {cs args : List Value} {σ : Hp} {K : Value → Hp → Prop} {δ : Dep K} (ho : okF P f = true) (h : callF P f (args ++ cs) σ K ⟨⟩) : vcallF P (.func (.func f) #[] cs.toArray) args σ K δ := ⟨f, cs.toArray, rfl, ho, h⟩
theorem opsF_nil (K : Sl → Hp → Prop) (s : Sl) (σ : Hp) (δ) : opsF P [] K s σ δ = K s σ := nr rfl
theorem opsF_none (d : Option Nat) (m : M) (os : List MO) (K : Sl → Hp → Prop) (s : Sl) (σ : Hp) (δ) : opsF P (⟨d, m, none⟩ :: os) K s σ δ = opF P m (fun v σ' => opsF P os K (putO s d v) σ' ⟨⟩) s σ ⟨⟩ := nr rfl
theorem opsF_r (d : Nat) (m : M) (os : List MO) (K : Sl → Hp → Prop) (s : Sl) (σ : Hp) (δ) : opsF P (rO d m :: os) K s σ δ = opF P m (fun v σ' => opsF P os K (putO s (some d) v) σ' ⟨⟩) s σ ⟨⟩ := nr rfl
theorem opsF_some (d : Option Nat) (m : M) (g : Nat) (w : Bool) (os : List MO) (K : Sl → Hp → Prop) (s : Sl) (σ : Hp) (δ) : opsF P (⟨d, m, some (g, w)⟩ :: os) K s σ δ =
    guardF (s g) w (opF P m (fun v σ' => opsF P os K (putO s d v) σ' ⟨⟩) s σ ⟨⟩) (opsF P os K (putO s d undef) σ ⟨⟩) ⟨⟩ := by
  show (if gd (some (g, w)) s = true then _ else _) = _
  rw [gd_some]; rfl
theorem opF_raw (op : Op) (ty : TypeId) (K : Value → Hp → Prop) (s : Sl) (σ : Hp) (δ) : opF P (.raw op ty) K s σ δ = rawF P op ty (fun v => K v σ) s ⟨⟩ := nr rfl
theorem opF_mv (x : Operand) (K : Value → Hp → Prop) (s : Sl) (σ : Hp) (δ) : opF P (.mv x) K s σ δ = runF (ev s x) (fun v => K v σ) ⟨⟩ := nr rfl
theorem opF_pick (c a b : Operand) (K : Value → Hp → Prop) (s : Sl) (σ : Hp) (δ) : opF P (.pick c a b) K s σ δ = boolF (ev s c) (fun t => runF (if t = true then ev s a else ev s b) (fun v => K v σ) ⟨⟩) ⟨⟩ := nr rfl
theorem opF_nilc (x : Operand) (K : Value → Hp → Prop) (s : Sl) (σ : Hp) (δ) : opF P (.nilc x) K s σ δ = ptrF (ev s x) (fun b o => K (.pointer (some ⟨b, o, none⟩)) σ) ⟨⟩ := nr rfl
theorem opF_fa (off : Nat) (x : Operand) (K : Value → Hp → Prop) (s : Sl) (σ : Hp) (δ) : opF P (.fa off x) K s σ δ = ptrF (ev s x) (fun b o => runF (o + off) (fun j => K (.pointer (some ⟨b, j, none⟩)) σ) ⟨⟩) ⟨⟩ := nr rfl
theorem opF_ia (size : Nat) (x i : Operand) (K : Value → Hp → Prop) (s : Sl) (σ : Hp) (δ) : opF P (.ia size x i) K s σ δ = sliceF (ev s x) (fun b o n => i64F (ev s i) (fun j => (0 ≤ j ∧ j < n) ∧ runF (o + j.toNat * size) (fun j => K (.pointer (some ⟨b, j, none⟩)) σ) ⟨⟩) ⟨⟩) ⟨⟩ := nr rfl
theorem opF_bin (op : BinOp) (x y : Operand) (K : Value → Hp → Prop) (s : Sl) (σ : Hp) (δ) : opF P (.bin op x y) K s σ δ = someF (binv op (ev s x) (ev s y)) (fun v => K v σ) ⟨⟩ := nr rfl
theorem opF_eqs (neg : Bool) (k : EqK) (x y : Operand) (K : Value → Hp → Prop) (s : Sl) (σ : Hp) (δ) : opF P (.eqs neg k x y) K s σ δ = someF (eqv k (ev s x) (ev s y)) (fun b => runF (b != neg) (fun b => K (.bool b) σ) ⟨⟩) ⟨⟩ := nr rfl
theorem opF_nt (x : Operand) (K : Value → Hp → Prop) (s : Sl) (σ : Hp) (δ) : opF P (.nt x) K s σ δ = boolF (ev s x) (fun b => runF (!b) (fun b => K (.bool b) σ) ⟨⟩) ⟨⟩ := nr rfl
theorem opF_ext (i : Nat) (x : Operand) (K : Value → Hp → Prop) (s : Sl) (σ : Hp) (δ) : opF P (.ext i x) K s σ δ = tupleF (ev s x) (fun vs => someF vs[i]? (fun v => K v σ) ⟨⟩) ⟨⟩ := nr rfl
theorem opF_len (t : Bool) (x : Operand) (K : Value → Hp → Prop) (s : Sl) (σ : Hp) (δ) : opF P (.len t x) K s σ δ = someF (lenv t (ev s x)) (fun n => K (.int .i64 n) σ) ⟨⟩ := nr rfl
theorem opF_bld (z : List Value) (ps : List (Nat × Nat × Operand)) (K : Value → Hp → Prop) (s : Sl) (σ : Hp) (δ) : opF P (.bld z ps) K s σ δ = someF (fillO s z ps) (fun cs => K (.agg cs.toArray) σ) ⟨⟩ := nr rfl
theorem opF_conv (k : IntKind) (x : Operand) (K : Value → Hp → Prop) (s : Sl) (σ : Hp) (δ) : opF P (.conv k x) K s σ δ = intF (ev s x) (fun _ n => runF (k.wrap n) (fun n => K (.int k n) σ) ⟨⟩) ⟨⟩ := nr rfl
theorem opF_ixs (x i : Operand) (K : Value → Hp → Prop) (s : Sl) (σ : Hp) (δ) : opF P (.ixs x i) K s σ δ = strF (ev s x) (fun b => i64F (ev s i) (fun j => (0 ≤ j ∧ j < b.size) ∧ K (.int .u8 (b.data.toList.getD j.toNat 0).toNat) σ) ⟨⟩) ⟨⟩ := nr rfl
theorem opF_mx (up : Bool) (x y : Operand) (K : Value → Hp → Prop) (s : Sl) (σ : Hp) (δ) : opF P (.mx up x y) K s σ δ = intF (ev s x) (fun k a => intF (ev s y) (fun _ b => runF (if up = true then mxI a b else mnI a b) (fun n => K (.int k n) σ) ⟨⟩) ⟨⟩) ⟨⟩ := nr rfl
theorem opF_eqa (neg : Bool) (ks : List Lk) (x y : Operand) (K : Value → Hp → Prop) (s : Sl) (σ : Hp) (δ) : opF P (.eqa neg ks x y) K s σ δ = someF (Sp.eqa ks (ev s x) (ev s y)) (fun b => runF (b != neg) (fun b => K (.bool b) σ) ⟨⟩) ⟨⟩ := nr rfl
theorem opF_fld (sz : Option Nat) (off : Nat) (x : Operand) (K : Value → Hp → Prop) (s : Sl) (σ : Hp) (δ) : opF P (.fld sz off x) K s σ δ = someF (fldv sz off (ev s x)) (fun v => K v σ) ⟨⟩ := nr rfl
theorem opF_new (T : TypeId) (z : List Value) (K : Value → Hp → Prop) (s : Sl) (σ : Hp) (δ) : opF P (.new T z) K s σ δ = ∀ b, σ b = none → K (.pointer (some ⟨b, 0, none⟩)) (upd σ b (.cells z T)) := nr rfl
theorem opF_box (T : TypeId) (x : Operand) (K : Value → Hp → Prop) (s : Sl) (σ : Hp) (δ) : opF P (.box T x) K s σ δ = runF (cl (ev s x)) (fun z => ∀ b, σ b = none → K (.pointer (some ⟨b, 0, none⟩)) (upd σ b (.cells z T))) ⟨⟩ := nr rfl
theorem opF_lit (E : TypeId) (n size : Nat) (z : List Value) (ps : List (Nat × Nat × Operand)) (K : Value → Hp → Prop) (s : Sl) (σ : Hp) (δ) : opF P (.lit E n size z ps) K s σ δ = someF (fillO s z ps) (fun cs => runF cs.length (fun l => ∀ b, σ b = none → K (.slice (some ⟨b, 0, none⟩) n n) (upd σ b (.row cs l E))) ⟨⟩) ⟨⟩ := nr rfl
theorem opF_ld (x : Operand) (K : Value → Hp → Prop) (s : Sl) (σ : Hp) (δ) : opF P (.ld none x) K s σ δ = ptrF (ev s x) (fun b off => someF (rd σ b off) (fun v => K v σ) ⟨⟩) ⟨⟩ := nr rfl
theorem opF_lds (sz : Nat) (x : Operand) (K : Value → Hp → Prop) (s : Sl) (σ : Hp) (δ) : opF P (.ld (some sz) x) K s σ δ = ptrF (ev s x) (fun b off => someF (rdn σ b off sz) (fun vs => K (.agg vs.toArray) σ) ⟨⟩) ⟨⟩ := nr rfl
theorem opF_st (sz : Nat) (a x : Operand) (K : Value → Hp → Prop) (s : Sl) (σ : Hp) (δ) : opF P (.st sz a x) K s σ δ = ptrF (ev s a) (fun b off => runF (cl (ev s x)) (fun cs => cs.length = sz ∧ cs.all one = true ∧ someF (wr σ b off cs) (fun σ' => K undef σ') ⟨⟩) ⟨⟩) ⟨⟩ := nr rfl
theorem opF_call (f : FuncId) (args : List Operand) (K : Value → Hp → Prop) (s : Sl) (σ : Hp) (δ) : opF P (.call f args) K s σ δ = runF (args.map (ev s)) (fun vs => callF P f vs σ K ⟨⟩) ⟨⟩ := nr rfl
theorem opF_callv (x : Operand) (args : List Operand) (K : Value → Hp → Prop) (s : Sl) (σ : Hp) (δ) : opF P (.callv x args) K s σ δ = runF (args.map (ev s)) (fun vs => runF (ev s x) (fun v => vcallF P v vs σ K ⟨⟩) ⟨⟩) ⟨⟩ := nr rfl
theorem ev_func (s : Sl) (f : FuncId) : ev s (.func f) = .func (.func f) #[] #[] := nr rfl
theorem lf_aix (n sz b o : Nat) (j : Int) (h : 0 ≤ j ∧ j < n) : lf (.aix n sz) [.pointer (some ⟨b, o, none⟩), .int .i64 j] = some (.pointer (some ⟨b, o + j.toNat * sz, none⟩)) := if_pos h
theorem opF_app (E size bytes : Nat) (x y : Operand) (K : Value → Hp → Prop) (s : Sl) (σ : Hp) (δ) : opF P (.app E size bytes x y) K s σ δ = appF E size bytes (ev s x) (ev s y) K σ ⟨⟩ := nr rfl
theorem mapF_eq (b : Nat) (k : Nat → Prop) (δ : Dep k) : mapF (.map (some b)) k δ = k b := nr rfl
theorem opF_mkmap (num : Bool) (K : Value → Hp → Prop) (s : Sl) (σ : Hp) (δ) : opF P (.mkmap num) K s σ δ = ∀ b, σ b = none → K (.map (some b)) (upd σ b (if num = true then .im [] else .mp [])) := nr rfl
theorem opF_mks (E size bytes : Nat) (z : List Value) (x : Operand) (K : Value → Hp → Prop) (s : Sl) (σ : Hp) (δ) : opF P (.mks E size bytes z x) K s σ δ = i64F (ev s x) (fun j => (0 ≤ j ∧ j * bytes ≤ 140737488355328 ∧ j ≤ 140737488355328 ∧ z.length = size) ∧ ∀ b, σ b = none → K (.slice (some ⟨b, 0, none⟩) j.toNat j.toNat) (upd σ b (.row (List.replicate j.toNat z).flatten (j.toNat * size) E))) ⟨⟩ := nr rfl
theorem opF_look (q : LQ) (z : Value) (x i : Operand) (K : Value → Hp → Prop) (s : Sl) (σ : Hp) (δ) : opF P (.look q z x i) K s σ δ = someF (mreadV σ (ev s x) q z (ev s i)) (fun v => K v σ) ⟨⟩ := nr rfl
theorem opF_mset (q : LT) (x i v : Operand) (K : Value → Hp → Prop) (s : Sl) (σ : Hp) (δ) : opF P (.mset q x i v) K s σ δ = someF (mturnV σ (ev s x) q (ev s i) (ev s v)) (fun σ' => K (turnv q) σ') ⟨⟩ := nr rfl
theorem opF_fnl (g : Lf) (xs : List Operand) (K : Value → Hp → Prop) (s : Sl) (σ : Hp) (δ) : opF P (.fnl g xs) K s σ δ = runF (xs.map (ev s)) (fun vs => someF (lf g vs) (fun v => K v σ) ⟨⟩) ⟨⟩ := nr rfl
theorem opF_bys (x : Operand) (K : Value → Hp → Prop) (s : Sl) (σ : Hp) (δ) : opF P (.bys x) K s σ δ = sliceF (ev s x) (fun b o n => someF (rdn σ b o n) (fun vs => someF (u8s vs) (fun ys => runF (strOfNums ys) (fun t => K (.string t) σ) ⟨⟩) ⟨⟩) ⟨⟩) ⟨⟩ := nr rfl
theorem ml_same (σ : Hp) (b : Nat) (l : List (ByteArray × Value)) : ml (upd σ b (.mp l)) b = some l := by simp [ml, upd]
theorem mread_nil_s (σ : Hp) (ok : Bool) (z : Value) (k : ByteArray) : mreadV σ (.map none) (.get false ok) z (.string k) = some (lookv ok z none) := nr rfl
theorem mread_nil_i (σ : Hp) (ok : Bool) (z : Value) (n : Int) : mreadV σ (.map none) (.get true ok) z (.int .i64 n) = some (lookv ok z none) := nr rfl
theorem mread_nil_n (σ : Hp) (z k : Value) : mreadV σ (.map none) .size z k = some (.int .i64 0) := nr rfl
theorem mread_mp (σ : Hp) (b : Nat) (l : List (ByteArray × Value)) (ok : Bool) (z : Value) (k : ByteArray) : mreadV (upd σ b (.mp l)) (.map (some b)) (.get false ok) z (.string k) = some (lookv ok z (mget l k)) := by simp [mreadV, upd, bread]
theorem mread_mp_n (σ : Hp) (b : Nat) (l : List (ByteArray × Value)) (z k : Value) : mreadV (upd σ b (.mp l)) (.map (some b)) .size z k = some (.int .i64 l.length) := by simp [mreadV, upd, bread]
theorem mread_im (σ : Hp) (b : Nat) (l : List (Int × Value)) (ok : Bool) (z : Value) (k : Int) : mreadV (upd σ b (.im l)) (.map (some b)) (.get true ok) z (.int .i64 k) = some (lookv ok z (mget l k)) := by simp [mreadV, upd, bread]
theorem mread_im_n (σ : Hp) (b : Nat) (l : List (Int × Value)) (z k : Value) : mreadV (upd σ b (.im l)) (.map (some b)) .size z k = some (.int .i64 l.length) := by simp [mreadV, upd, bread]
theorem mread_ne (σ : Hp) {b c : Nat} (o : Blk) (q : LQ) (z k : Value) (h : ¬ b = c) : mreadV (upd σ c o) (.map (some b)) q z k = mreadV σ (.map (some b)) q z k := by simp [mreadV, upd, h]
theorem mturn_mp_put (σ : Hp) (b : Nat) (l : List (ByteArray × Value)) (k : ByteArray) (v : Value) : mturnV (upd σ b (.mp l)) (.map (some b)) (.put false) (.string k) v = some (upd σ b (.mp (mput l k v))) := by
  have e : (upd σ b (.mp l)) b = some (.mp l) := upd_same _ _ _
  simp only [mturnV, e, Option.bind_some, bturn, Option.map_some, upd_upd]
theorem mturn_mp_del (σ : Hp) (b : Nat) (l : List (ByteArray × Value)) (k : ByteArray) (v : Value) : mturnV (upd σ b (.mp l)) (.map (some b)) (.del false) (.string k) v = some (upd σ b (.mp (mdel l k))) := by
  have e : (upd σ b (.mp l)) b = some (.mp l) := upd_same _ _ _
  simp only [mturnV, e, Option.bind_some, bturn, Option.map_some, upd_upd]
theorem mturn_mp_clr (σ : Hp) (b : Nat) (l : List (ByteArray × Value)) (k v : Value) : mturnV (upd σ b (.mp l)) (.map (some b)) .clr k v = some (upd σ b (.mp [])) := by
  have e : (upd σ b (.mp l)) b = some (.mp l) := upd_same _ _ _
  simp only [mturnV, e, Option.bind_some, bturn, Option.map_some, upd_upd]
theorem mturn_im_put (σ : Hp) (b : Nat) (l : List (Int × Value)) (k : Int) (v : Value) : mturnV (upd σ b (.im l)) (.map (some b)) (.put true) (.int .i64 k) v = some (upd σ b (.im (mput l k v))) := by
  have e : (upd σ b (.im l)) b = some (.im l) := upd_same _ _ _
  simp only [mturnV, e, Option.bind_some, bturn, Option.map_some, upd_upd]
theorem mturn_im_del (σ : Hp) (b : Nat) (l : List (Int × Value)) (k : Int) (v : Value) : mturnV (upd σ b (.im l)) (.map (some b)) (.del true) (.int .i64 k) v = some (upd σ b (.im (mdel l k))) := by
  have e : (upd σ b (.im l)) b = some (.im l) := upd_same _ _ _
  simp only [mturnV, e, Option.bind_some, bturn, Option.map_some, upd_upd]
theorem mturn_im_clr (σ : Hp) (b : Nat) (l : List (Int × Value)) (k v : Value) : mturnV (upd σ b (.im l)) (.map (some b)) .clr k v = some (upd σ b (.im [])) := by
  have e : (upd σ b (.im l)) b = some (.im l) := upd_same _ _ _
  simp only [mturnV, e, Option.bind_some, bturn, Option.map_some, upd_upd]
theorem mturn_ne (σ : Hp) {b c : Nat} (o : Blk) (q : LT) (k v : Value) (h : ¬ b = c) : mturnV (upd σ c o) (.map (some b)) q k v = (mturnV σ (.map (some b)) q k v).map fun τ => upd τ c o := by
  simp only [mturnV, upd_ne _ _ h, Option.map_map]
  congr 1
  funext o'
  exact upd_comm _ _ _ (fun e => h e.symm)
theorem ml_ne (σ : Hp) {b c : Nat} (o : Blk) (h : ¬ b = c) : ml (upd σ c o) b = ml σ b := by simp [ml, upd, h]
theorem lookv_t (z : Value) (r : Option Value) : lookv true z r = .tuple #[r.getD z, .bool r.isSome] := nr rfl
theorem lookv_f (z : Value) (r : Option Value) : lookv false z r = r.getD z := nr rfl
theorem lf_sls_eq (b : ByteArray) (k k' : IntKind) (i j : Int) (h : 0 ≤ i ∧ i ≤ j ∧ j ≤ b.size) : lf .sls [.string b, .int k i, .int k' j] = some (.string (b.extract i.toNat j.toNat)) := if_pos h
theorem lf_sll_eq (sz : Nat) (a : Option Addr) (n c : Nat) (k : IntKind) (i : Int) (h : 0 ≤ i ∧ i ≤ n) : lf (.sll sz) [.slice a n c, .int k i] = some (sliced a i.toNat n c sz) := if_pos h
theorem lf_slh_eq (sz : Nat) (a : Option Addr) (n c : Nat) (k : IntKind) (j : Int) (h : 0 ≤ j ∧ j ≤ c) : lf (.slh sz) [.slice a n c, .int k j] = some (sliced a 0 j.toNat c sz) := if_pos h
theorem lf_rune_eq (k : IntKind) (i : Int) : lf .rune [.int k i] = some (.string (Utf8.encode i)) := nr rfl
theorem lf_clo (f : FuncId) (us : List Value) : lf (.clo f) us = some (.func (.func f) #[] us.toArray) := nr rfl
theorem lf_ifn_nil (neg : Bool) : lf (.ifn neg) [.nilIface] = some (.bool (true != neg)) := nr rfl
theorem lf_ifn_some (neg : Bool) (T : TypeId) (v : Value) : lf (.ifn neg) [.iface T v] = some (.bool (false != neg)) := nr rfl
theorem u8s_nil : u8s [] = some [] := nr rfl
theorem u8s_cons (x : Int) (r : List Value) : u8s (.int .u8 x :: r) = (u8s r).map (x :: ·) := nr rfl
theorem cl_map (b : Option Nat) : cl (.map b) = [.map b] := nr rfl
theorem one_map (b : Option Nat) : one (.map b) = true := nr rfl
theorem dopsF_nil (K : Sl → Hp → Hp → Prop) (s : Sl) (σ₀ σ : Hp) (δ) : dopsF P [] K s σ₀ σ δ = K s σ₀ σ := nr rfl
theorem dopsF_none (d : Option Nat) (m : M) (k : Kn) (xs : List DO) (K : Sl → Hp → Hp → Prop) (s : Sl) (σ₀ σ : Hp) (δ) : dopsF P (⟨⟨d, m, none⟩, k⟩ :: xs) K s σ₀ σ δ = dopF P k m (fun v σ₀' σ' => dopsF P xs K (putO s d v) σ₀' σ' ⟨⟩) s σ₀ σ ⟨⟩ := nr rfl
theorem dopsF_r (d : Nat) (m : M) (k : Kn) (xs : List DO) (K : Sl → Hp → Hp → Prop) (s : Sl) (σ₀ σ : Hp) (δ) : dopsF P (⟨rO d m, k⟩ :: xs) K s σ₀ σ δ = dopF P k m (fun v σ₀' σ' => dopsF P xs K (putO s (some d) v) σ₀' σ' ⟨⟩) s σ₀ σ ⟨⟩ := nr rfl
theorem dopsF_some (d : Option Nat) (m : M) (g : Nat) (w : Bool) (k : Kn) (xs : List DO) (K : Sl → Hp → Hp → Prop) (s : Sl) (σ₀ σ : Hp) (δ) : dopsF P (⟨⟨d, m, some (g, w)⟩, k⟩ :: xs) K s σ₀ σ δ =
    guardF (s g) w (dopF P k m (fun v σ₀' σ' => dopsF P xs K (putO s d v) σ₀' σ' ⟨⟩) s σ₀ σ ⟨⟩) (dopsF P xs K (putO s d undef) σ₀ σ ⟨⟩) ⟨⟩ := by
  show (if gd (some (g, w)) s = true then _ else _) = _
  rw [gd_some]; rfl
theorem dopF_p (m : M) (K : Value → Hp → Hp → Prop) (s : Sl) (σ₀ σ : Hp) (δ) : dopF P .p m K s σ₀ σ δ = opF P m (fun v _ => K v σ₀ σ) s σ₀ ⟨⟩ := nr rfl
theorem dopF_l (m : M) (K : Value → Hp → Hp → Prop) (s : Sl) (σ₀ σ : Hp) (δ) : dopF P .l m K s σ₀ σ δ = opF P m (fun v _ => K v σ₀ σ) s σ₀ ⟨⟩ := nr rfl
theorem dopF_f (m : M) (K : Value → Hp → Hp → Prop) (s : Sl) (σ₀ σ : Hp) (δ) : dopF P .f m K s σ₀ σ δ = opF P m (fun v σ' => K v σ₀ σ') s σ ⟨⟩ := nr rfl
theorem dopF_u (m : M) (K : Value → Hp → Hp → Prop) (s : Sl) (σ₀ σ : Hp) (δ) : dopF P .u m K s σ₀ σ δ = opF P m (fun v σ' => K v (meet σ₀ σ') σ') s σ ⟨⟩ := nr rfl
theorem meet_self (σ : Hp) : meet σ σ = σ := by funext k; simp [meet]
theorem meet_same (σ σ' : Hp) (b : Nat) (o : Blk) : meet (upd σ b o) (upd σ' b o) = upd (meet σ σ') b o := by
  funext k
  by_cases e : k = b
  · subst e; simp [meet, upd]
  · by_cases h : σ k = σ' k <;> simp [meet, upd, e, h]
theorem dopF_r (m : M) (K : Value → Hp → Hp → Prop) (s : Sl) (σ₀ σ : Hp) (δ) : dopF P .r m K s σ₀ σ δ = opF P m (fun v _ => K v σ₀ σ) s σ ⟨⟩ := nr rfl
theorem dopF_w (m : M) (K : Value → Hp → Hp → Prop) (s : Sl) (σ₀ σ : Hp) (δ) : dopF P .w m K s σ₀ σ δ = opF P m (fun v σ' => Sub σ₀ σ' ∧ K v σ₀ σ') s σ ⟨⟩ := nr rfl
theorem dopF_m (m : M) (K : Value → Hp → Hp → Prop) (s : Sl) (σ₀ σ : Hp) (δ) : dopF P .m m K s σ₀ σ δ = opF P m (fun v σ' => K v σ' σ') s σ ⟨⟩ := nr rfl
theorem dopF_c (f : FuncId) (args : List Operand) (K : Value → Hp → Hp → Prop) (s : Sl) (σ₀ σ : Hp) (δ) : dopF P .c (.call f args) K s σ₀ σ δ = runF (args.map (ev s)) (fun vs => ccallF P f vs σ₀ (fun v => K v σ₀ σ) ⟨⟩) ⟨⟩ := nr rfl
theorem dopF_cv (x : Operand) (args : List Operand) (K : Value → Hp → Hp → Prop) (s : Sl) (σ₀ σ : Hp) (δ) : dopF P .c (.callv x args) K s σ₀ σ δ = runF (args.map (ev s)) (fun vs => runF (ev s x) (fun v => vccallF P v vs σ₀ (fun v => K v σ₀ σ) ⟨⟩) ⟨⟩) ⟨⟩ := nr rfl
theorem dopF_g (f : FuncId) (args : List Operand) (K : Value → Hp → Hp → Prop) (s : Sl) (σ₀ σ : Hp) (δ) : dopF P .g (.call f args) K s σ₀ σ δ = runF (args.map (ev s)) (fun vs => gcallF P f vs σ₀ σ (fun v σ' => K v σ₀ σ') ⟨⟩) ⟨⟩ := nr rfl
theorem codeF_skip (Q : Exit → Sl → Hp → Prop) (s : Sl) (σ : Hp) (δ) : codeF P .skip Q s σ δ = Q .normal s σ := nr rfl
theorem codeF_reg (mos : List MO) (Q : Exit → Sl → Hp → Prop) (s : Sl) (σ : Hp) (δ) : codeF P (.reg mos) Q s σ δ = opsF P mos (fun s σ => Q .normal s σ) s σ ⟨⟩ := nr rfl
theorem codeF_draw (xs : List DO) (Q : Exit → Sl → Hp → Prop) (s : Sl) (σ : Hp) (δ) : codeF P (.draw xs) Q s σ δ = dopsF P xs (fun s _ σ => Q .normal s σ) s σ σ ⟨⟩ := nr rfl
def drawxF (P : Program) (xs : List DO) (K : Sl → Hp → Hp → Prop) (s : Sl) (σ : Hp) (_ : Dep (xs, K, s)) : Prop := ∃ σ₀, Sub σ₀ σ ∧ dmops P xs K s σ₀ σ
theorem codeF_drawx (xs : List DO) (Q : Exit → Sl → Hp → Prop) (s : Sl) (σ : Hp) (δ) : codeF P (.drawx xs) Q s σ δ = drawxF P xs (fun s _ σ => Q .normal s σ) s σ ⟨⟩ := nr rfl
/-- A region that draws, of which the reads may know less than there is. -/
theorem drawxF_of {xs : List DO} {K : Sl → Hp → Hp → Prop} {s : Sl} {σ σ₀ : Hp} {δ} (h : Sub σ₀ σ) (hk : dopsF P xs K s σ₀ σ ⟨⟩) : drawxF P xs K s σ δ := ⟨σ₀, h, hk⟩
theorem codeF_seq (a b : C) (Q : Exit → Sl → Hp → Prop) (s : Sl) (σ : Hp) (δ) : codeF P (.seq a b) Q s σ δ = codeF P a (thn (fun s σ => codeF P b Q s σ ⟨⟩) Q) s σ ⟨⟩ := nr rfl
theorem codeF_cond (x : Operand) (a b : C) (Q : Exit → Sl → Hp → Prop) (s : Sl) (σ : Hp) (δ) : codeF P (.cond x a b) Q s σ δ = condF (ev s x) (codeF P a Q s σ ⟨⟩) (codeF P b Q s σ ⟨⟩) ⟨⟩ := nr rfl
theorem codeF_block (id : Nat) (c : C) (Q : Exit → Sl → Hp → Prop) (s : Sl) (σ : Hp) (δ) : codeF P (.block id c) Q s σ δ = codeF P c (inBlk id Q) s σ ⟨⟩ := nr rfl
theorem codeF_loop (c : C) (Q : Exit → Sl → Hp → Prop) (s : Sl) (σ : Hp) (δ) : codeF P (.loop c) Q s σ δ = loopF P c Q s σ ⟨⟩ := nr rfl
theorem codeF_exit (id : Nat) (Q : Exit → Sl → Hp → Prop) (s : Sl) (σ : Hp) (δ) : codeF P (.exit id) Q s σ δ = Q (.exit id) s σ := nr rfl
theorem codeF_ret (Q : Exit → Sl → Hp → Prop) (s : Sl) (σ : Hp) (δ) : codeF P .ret Q s σ δ = Q .ret s σ := nr rfl
theorem thn_normal (K : Sl → Hp → Prop) (Q : Exit → Sl → Hp → Prop) (s : Sl) (σ : Hp) : thn K Q .normal s σ = K s σ := nr rfl
theorem thn_exit (K : Sl → Hp → Prop) (Q : Exit → Sl → Hp → Prop) (id : Nat) (s : Sl) (σ : Hp) : thn K Q (.exit id) s σ = Q (.exit id) s σ := nr rfl
theorem thn_ret (K : Sl → Hp → Prop) (Q : Exit → Sl → Hp → Prop) (s : Sl) (σ : Hp) : thn K Q .ret s σ = Q .ret s σ := nr rfl
theorem inBlk_normal (id : Nat) (Q : Exit → Sl → Hp → Prop) (s : Sl) (σ : Hp) : inBlk id Q .normal s σ = Q .normal s σ := nr rfl
theorem inBlk_ret (id : Nat) (Q : Exit → Sl → Hp → Prop) (s : Sl) (σ : Hp) : inBlk id Q .ret s σ = Q .ret s σ := nr rfl
theorem inBlk_exit (id id' : Nat) (Q : Exit → Sl → Hp → Prop) (s : Sl) (σ : Hp) : inBlk id Q (.exit id') s σ = if id' = id then Q .normal s σ else Q (.exit id') s σ := by
  show (if id' = id then Q .normal else Q (.exit id')) s σ = _
  split <;> rfl
theorem fin_normalF (rvs : List RV) (R : Value → Hp → Prop) (s : Sl) (σ : Hp) : fin rvs R .normal s σ = finF rvs R s σ ⟨⟩ := fin_normal rvs R s σ
theorem fin_retF (rvs : List RV) (R : Value → Hp → Prop) (s : Sl) (σ : Hp) : fin rvs R .ret s σ = finF rvs R s σ ⟨⟩ := fin_ret rvs R s σ
theorem finF_eq (rvs : List RV) (R : Value → Hp → Prop) (s : Sl) (σ : Hp) (δ) : finF rvs R s σ δ = someF (rvals s σ rvs) (fun vs => runF (whole vs) (fun v => endF R v σ ⟨⟩) ⟨⟩) ⟨⟩ := nr rfl
theorem putO_get (s : Sl) (d i : Nat) (v : Value) : putO s (some d) v i = if i = d then v else s i := nr rfl
theorem putO_no (s : Sl) (v : Value) : putO s none v = s := nr rfl
/-- The way in. -/
theorem acalls_F {f n : Nat} {m : C} {rvs : List RV} (hf : FnOk P f n m rvs) {args : List Value} {σ : Hp} {R : Value → Hp → Prop} (ha : args.length ≤ n) (h : codeF P m (fin rvs R) (init args) σ ⟨⟩) : ACalls P f args.toArray σ R := acalls_of hf ha h
/-- The way out. -/
theorem endF_at {R : Value → Hp → Prop} {v : Value} {σ : Hp} {δ : Dep R} (h : R v σ) : endF R v σ δ := ⟨σ, Sub.refl _, h⟩
theorem endF_sub {R : Value → Hp → Prop} {v : Value} {σ τ : Hp} {δ : Dep R} (hs : Sub τ σ) (h : R v τ) : endF R v σ δ := ⟨τ, hs, h⟩
theorem endF_det {A v : Value} {S σ : Hp} {δ} (h : v = A) (hs : Sub S σ) : endF (fun u σ' => u = A ∧ σ' = S) v σ δ := ⟨S, hs, h, rfl⟩
/-- A loop: what holds at its head, and what falls with each round. -/
theorem loopF_of {c : C} {Q : Exit → Sl → Hp → Prop} {s : Sl} {σ : Hp} {δ} (J : Nat → Sl → Hp → Prop) (k : Nat) {σ₁ : Hp} (hs : Sub σ₁ σ) (h0 : J k s σ₁) (h : ∀ k s' σ', J k s' σ' → codeF P c (thn (fun s'' σ'' => nextF J k s'' σ'' ⟨⟩) Q) s' σ' ⟨⟩) : loopF P c Q s σ δ := ⟨J, k, ⟨σ₁, hs, h0⟩, h⟩
theorem nextF_of {J : Nat → Sl → Hp → Prop} {k : Nat} {s : Sl} {σ : Hp} (k' : Nat) (hk : k' < k) {σ₁ : Hp} (hs : Sub σ₁ σ) (h : J k' s σ₁) {δ} : nextF J k s σ δ := ⟨k', hk, σ₁, hs, h⟩
theorem mops_mono {P : Program} : ∀ (l : List MO) {K K' : Sl → Hp → Prop}, (∀ s σ, K s σ → K' s σ) → ∀ {s : Sl} {σ : Hp}, mops P l K s σ → mops P l K' s σ
  | [], _, _, hk, _, _, h => hk _ _ h
  | o :: os, K, K', hk, s, σ, h => by
    unfold mops at h ⊢
    split
    · rename_i hg
      rw [if_pos hg] at h
      exact mop_mono h fun v σ' h => mops_mono os hk h
    · rename_i hg
      rw [if_neg hg] at h
      exact mops_mono os hk h
theorem dmops_mono {P : Program} : ∀ (l : List DO) {K K' : Sl → Hp → Hp → Prop}, (∀ s σ₀ σ, K s σ₀ σ → K' s σ₀ σ) → ∀ {s : Sl} {σ₀ σ : Hp}, dmops P l K s σ₀ σ → dmops P l K' s σ₀ σ
  | [], _, _, hk, _, _, _, h => hk _ _ _ h
  | x :: xs, K, K', hk, s, σ₀, σ, h => by
    unfold dmops dm1 at h ⊢
    exact dmv_mono h fun v a b _ h => dmops_mono xs hk h
theorem mcode_mono {P : Program} : ∀ (c : C) {Q Q' : Exit → Sl → Hp → Prop}, (∀ e s σ, Q e s σ → Q' e s σ) → ∀ {s : Sl} {σ : Hp}, mcode P c Q s σ → mcode P c Q' s σ := by
  intro c
  induction c with
  | skip => intro Q Q' hq s σ h; exact hq _ _ _ h
  | reg mos => intro Q Q' hq s σ h; exact mops_mono mos (fun s σ h => hq _ _ _ h) h
  | draw xs => intro Q Q' hq s σ h; exact dmops_mono xs (fun s _ σ h => hq _ _ _ h) h
  | drawx xs => intro Q Q' hq s σ h; obtain ⟨σ₀, h1, h2⟩ := h; exact ⟨σ₀, h1, dmops_mono xs (fun s _ σ h => hq _ _ _ h) h2⟩
  | seq a b iha ihb =>
    intro Q Q' hq s σ h
    refine iha (fun e s σ h => ?_) h
    cases e with
    | normal => exact ihb hq h
    | _ => exact hq _ _ _ h
  | cond x a b iha ihb =>
    intro Q Q' hq s σ h
    obtain ⟨t, ht, h⟩ := h
    refine ⟨t, ht, ?_⟩
    split
    · rename_i e; rw [if_pos e] at h; exact iha hq h
    · rename_i e; rw [if_neg e] at h; exact ihb hq h
  | block id c ih =>
    intro Q Q' hq s σ h
    refine ih (fun e s σ h => ?_) h
    cases e with
    | exit i =>
      by_cases e : i = id
      · simp only [inBlk, if_pos e] at h ⊢; exact hq _ _ _ h
      · simp only [inBlk, if_neg e] at h ⊢; exact hq _ _ _ h
    | _ => exact hq _ _ _ h
  | loop c ih =>
    intro Q Q' hq s σ h
    obtain ⟨J, k, h0, h⟩ := h
    refine ⟨J, k, h0, fun k s' σ' hJ => ih (fun e s σ h => ?_) (h k s' σ' hJ)⟩
    cases e with
    | normal => exact h
    | _ => exact hq _ _ _ h
  | exit id => intro Q Q' hq s σ h; exact hq _ _ _ h
  | ret => intro Q Q' hq s σ h; exact hq _ _ _ h
/-- Two pieces, one behind the other: what holds between them. -/
theorem codeF_cut {P : Program} {a b : C} {Q : Exit → Sl → Hp → Prop} {s : Sl} {σ : Hp} {δ} (I : Sl → Hp → Prop) (h1 : codeF P a (thn I Q) s σ ⟨⟩) (h2 : ∀ s σ, I s σ → codeF P b Q s σ ⟨⟩) : codeF P (.seq a b) Q s σ δ :=
  mcode_mono a (fun e s σ h => by
    cases e with
    | normal => exact h2 s σ h
    | _ => exact h) h1
end Go.Sp
