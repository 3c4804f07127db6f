/- Texts of mine, part 2 of 4, laid together: A way to work compiled texts out, head first: what comes later is not looked at before its turn. Slices that hold a list, each element so many cells. The rules by which a text is worked out, bundled. Arguments opened by their types: whatever reads as data of a type is of a kind (Kd), and its weights bound its lengths. No condition but the reading itself. More words on slices that hold lists. Words No condition. -/
import Derived.Test.YtpnghjmphbhkjaaGd1
import Derived.Laws.Strings
import Derived.WalkKit
import Derived.ChangeShapes
import Derived.WideShapes
import Derived.ProofKit
import Derived.SizedLaws
import Derived.ChangeArms
import Derived.Lib.SmallJoins
import Derived.Below
import Derived.Test.YtpnghjmphbhkjaaProg
import Derived.KernelRfl
import Derived.Laws.CopyRow
import Derived.Laws.Externs
import Derived.Lib.Overlaps
import Derived.Lib.AppendZerosOnto
-- SpH
namespace Go.Sp
open Go.RowKit
set_option linter.unusedSimpArgs false
set_option linter.unusedVariables false
variable {P : Program}
theorem int_beq (a b : Int) : (a == b) = decide (a = b) := by
  by_cases h : a = b <;> simp [h]
theorem int_bne (a b : Int) : (a != b) = !decide (a = b) := by
  by_cases h : a = b <;> simp [h]
theorem ba_inj (a b : ByteArray) : a.toList = b.toList ↔ a = b :=
  ⟨fun h => by
    rw [ByteArray.toList_eq, ByteArray.toList_eq] at h
    cases a; cases b
    exact congrArg _ (Array.toList_inj.mp h), fun h => by rw [h]⟩
theorem str_beq (a b : ByteArray) : (a.toList == b.toList) = decide (a = b) := by
  by_cases h : a = b
  · simp [h]
  · have : ¬ a.toList = b.toList := fun e => h ((ba_inj a b).1 e)
    simp [h, this]
/-- What depends on it is left alone till its turn. -/
structure Dep.{u} {α : Sort u} (a : α) : Type where
  mk ::
def mxI (a b : Int) : Int := if b > a then b else a
def mnI (a b : Int) : Int := if b < a then b else a
def runF {α : Type} (v : α) (k : α → Prop) (_ : Dep k) : Prop := k v
def someF {α : Type} (v : Option α) (k : α → Prop) (_ : Dep k) : Prop := onSome v k
def ptrF (v : Value) (k : Nat → Nat → Prop) (_ : Dep k) : Prop := onPtr v k
def boolF (v : Value) (k : Bool → Prop) (_ : Dep k) : Prop := onBool v k
def sliceF (v : Value) (k : Nat → Nat → Nat → Prop) (_ : Dep k) : Prop := onSlice v k
def i64F (v : Value) (k : Int → Prop) (_ : Dep k) : Prop := onI64 v k
def tupleF (v : Value) (k : Array Value → Prop) (_ : Dep k) : Prop := onTuple v k
def intF (v : Value) (k : IntKind → Int → Prop) (_ : Dep k) : Prop := onInt v k
def strF (v : Value) (k : ByteArray → Prop) (_ : Dep k) : Prop := onStr v k
def condF (v : Value) (A B : Prop) (_ : Dep (A, B)) : Prop := ∃ t, v = .bool t ∧ if t = true then A else B
def guardF (v : Value) (w : Bool) (A B : Prop) (_ : Dep (A, B)) : Prop := if gdv v w = true then A else B
def callF (P : Program) (f : FuncId) (args : List Value) (σ : Hp) (K : Value → Hp → Prop) (_ : Dep K) : Prop := ∃ R, ACalls P f args.toArray σ R ∧ ∀ v σ', R v σ' → (∃ w, Sat σ' w) → K v σ'
def ccallF (P : Program) (f : FuncId) (args : List Value) (σ : Hp) (K : Value → Prop) (_ : Dep K) : Prop := ∃ v, ACalls P f args.toArray σ (fun v' σ' => v' = v ∧ σ' = σ) ∧ K v
def gcallF (P : Program) (f : FuncId) (args : List Value) (σ₀ σ : Hp) (K : Value → Hp → Prop) (_ : Dep K) : Prop := ∃ R, ACalls P f args.toArray σ₀ R ∧ ∀ v σ₁, R v σ₁ → (∃ w, Sat σ₁ w) → Sub σ₀ σ₁ ∧ ((∀ k, σ₀ k = none → σ₁ k ≠ none → σ k = none) → K v (mrg σ₀ σ₁ σ))
/-- A call of a function that is a value. -/
def vcallF (P : Program) (v : Value) (args : List Value) (σ : Hp) (K : Value → Hp → Prop) (_ : Dep K) : Prop := ∃ f cs, v = .func (.func f) #[] cs ∧ okF P f = true ∧ callF P f (args ++ cs.toList) σ K ⟨⟩
def vccallF (P : Program) (v : Value) (args : List Value) (σ : Hp) (K : Value → Prop) (_ : Dep K) : Prop := ∃ f cs, v = .func (.func f) #[] cs ∧ okF P f = true ∧ ccallF P f (args ++ cs.toList) σ K ⟨⟩
def appF (E size bytes : Nat) (vx vy : Value) (K : Value → Hp → Prop) (σ : Hp) (_ : Dep K) : Prop := appK E size bytes vx vy K σ
structure hopF (P : Program) (op : Op) (ty : TypeId) (K : Value → Hp → Prop) (s : Sl) (σ : Hp) (_ : Dep (op, K, s)) : Prop where
  out : (∀ cs b, op ≠ .select cs b) ∧ ∃ R : Value → Hp → Prop, (∀ w, Sat σ w → ∃ v w' σ', (execOp (ev s) (mkO op ty)).run P w = .ok (.value v) w' ∧ Sat σ' w' ∧ (∀ w0 σ0, Fr w0 w σ0 σ → Fr w0 w' σ0 σ') ∧ R v σ') ∧ ∀ v σ', R v σ' → (∃ w, Sat σ' w) → K v σ'
def rawF (P : Program) (op : Op) (ty : TypeId) (K : Value → Prop) (s : Sl) (_ : Dep (op, K, s)) : Prop := ∃ v, (∀ w, (execOp (ev s) (mkO op ty)).run P w = .ok (.value v) w) ∧ K v
def loopF (P : Program) (c : C) (Q : Exit → Sl → Hp → Prop) (s : Sl) (σ : Hp) (_ : Dep (c, Q, s)) : Prop := mcode P (.loop c) Q s σ
def opF (P : Program) (m : M) (K : Value → Hp → Prop) (s : Sl) (σ : Hp) (_ : Dep (m, K, s)) : Prop := mop P m K s σ
def opsF (P : Program) (os : List MO) (K : Sl → Hp → Prop) (s : Sl) (σ : Hp) (_ : Dep (os, K, s)) : Prop := mops P os K s σ
def codeF (P : Program) (c : C) (Q : Exit → Sl → Hp → Prop) (s : Sl) (σ : Hp) (_ : Dep (c, Q, s)) : Prop := mcode P c Q s σ
def dopsF (P : Program) (xs : List DO) (K : Sl → Hp → Hp → Prop) (s : Sl) (σ₀ σ : Hp) (_ : Dep (xs, K, s)) : Prop := dmops P xs K s σ₀ σ
def dopF (P : Program) (k : Kn) (m : M) (K : Value → Hp → Hp → Prop) (s : Sl) (σ₀ σ : Hp) (_ : Dep (k, m, K, s)) : Prop := dm P k m K s σ₀ σ
/-- The next round. -/
def nextF (J : Nat → Sl → Hp → Prop) (k : Nat) (s : Sl) (σ : Hp) (_ : Dep (J, s)) : Prop := ∃ k', k' < k ∧ ∃ σ₁, Sub σ₁ σ ∧ J k' s σ₁
def finF (rvs : List RV) (R : Value → Hp → Prop) (s : Sl) (σ : Hp) (_ : Dep (rvs, R, s)) : Prop := onSome (rvals s σ rvs) fun vs => ∃ σ', Sub σ' σ ∧ R (whole vs) σ'
def endF (R : Value → Hp → Prop) (v : Value) (σ : Hp) (_ : Dep R) : Prop := ∃ σ', Sub σ' σ ∧ R v σ'
theorem runF_eq {α : Type} (v : α) (k : α → Prop) (δ : Dep k) : runF v k δ = k v := nr rfl
theorem someF_eq {α : Type} (v : α) (k : α → Prop) (δ : Dep k) : someF (some v) k δ = k v := nr rfl
theorem ptrF_eq (b o : Nat) (k : Nat → Nat → Prop) (δ : Dep k) : ptrF (.pointer (some ⟨b, o, none⟩)) k δ = k b o := nr rfl
theorem boolF_eq (b : Bool) (k : Bool → Prop) (δ : Dep k) : boolF (.bool b) k δ = k b := nr rfl
theorem sliceF_eq (b o n c : Nat) (k : Nat → Nat → Nat → Prop) (δ : Dep k) : sliceF (.slice (some ⟨b, o, none⟩) n c) k δ = k b o n := nr rfl
theorem i64F_eq (n : Int) (k : Int → Prop) (δ : Dep k) : i64F (.int .i64 n) k δ = k n := nr rfl
theorem tupleF_eq (vs : Array Value) (k : Array Value → Prop) (δ : Dep k) : tupleF (.tuple vs) k δ = k vs := nr rfl
theorem intF_eq (q : IntKind) (n : Int) (k : IntKind → Int → Prop) (δ : Dep k) : intF (.int q n) k δ = k q n := nr rfl
theorem strF_eq (b : ByteArray) (k : ByteArray → Prop) (δ : Dep k) : strF (.string b) k δ = k b := nr rfl
theorem condF_true (A B : Prop) (δ : Dep (A, B)) : condF (.bool true) A B δ = A := propext ⟨fun ⟨t, h, k⟩ => by cases h; exact k, fun h => ⟨true, rfl, h⟩⟩
theorem condF_false (A B : Prop) (δ : Dep (A, B)) : condF (.bool false) A B δ = B := propext ⟨fun ⟨t, h, k⟩ => by cases h; exact k, fun h => ⟨false, rfl, h⟩⟩
theorem condF_split {X : Bool} {A B : Prop} {δ : Dep (A, B)} (h : X = true → A) (k : X = false → B) : condF (.bool X) A B δ := by
  cases X with
  | true => rw [condF_true]; exact h rfl
  | false => rw [condF_false]; exact k rfl
theorem guardF_bool (X : Bool) (A B : Prop) (δ : Dep (A, B)) : guardF (.bool X) true A B δ = condF (.bool X) A B ⟨⟩ := by
  cases X
  · rw [condF_false]; rfl
  · rw [condF_true]; rfl
theorem guardF_not (X : Bool) (A B : Prop) (δ : Dep (A, B)) : guardF (.bool X) false A B δ = condF (.bool X) B A ⟨⟩ := by
  cases X
  · rw [condF_false]; rfl
  · rw [condF_true]; rfl
theorem guardF_undef (w : Bool) (A B : Prop) (δ : Dep (A, B)) : guardF undef w A B δ = B := nr rfl
theorem callF_of {f : FuncId} {args : List Value} {σ : Hp} {R K : Value → Hp → Prop} {δ : Dep K} (h : ACalls P f args.toArray σ R) (hk : ∀ v σ', R v σ' → K v σ') : callF P f args σ K δ := call_k h hk
theorem callF_v {f : FuncId} {args : List Value} {σ S : Hp} {u : Value} {K : Value → Hp → Prop} {δ : Dep K} (h : ACalls P f args.toArray σ fun v σ' => v = u ∧ σ' = S) (hk : K u S) : callF P f args σ K δ := call_k h fun v σ' hr => by obtain ⟨rfl, rfl⟩ := hr; exact hk
theorem ccallF_of {f : FuncId} {args : List Value} {σ : Hp} {u : Value} {K : Value → Prop} {δ : Dep K} (h : ACalls P f args.toArray σ fun v σ' => v = u ∧ σ' = σ) (hk : K u) : ccallF P f args σ K δ := ⟨u, h, hk⟩
theorem mrg_self (σ₀ σ : Hp) : mrg σ₀ σ₀ σ = σ := by
  funext k; unfold mrg; cases σ₀ k <;> rfl
theorem gcallF_of {f : FuncId} {args : List Value} {σ₀ σ : Hp} {u : Value} {K : Value → Hp → Prop} {δ : Dep K} (h : ACalls P f args.toArray σ₀ fun v σ' => v = u ∧ σ' = σ₀) (hk : K u σ) : gcallF P f args σ₀ σ K δ :=
  ⟨_, h, fun v σ₁ hr _ => by obtain ⟨rfl, rfl⟩ := hr; exact ⟨Sub.refl _, fun _ => by rw [mrg_self]; exact hk⟩⟩
theorem vcallF_mk {f : FuncId} {args : List Value} {σ : Hp} {K : Value → Hp → Prop} {δ : Dep K} (ho : okF P f = true) (h : callF P f args σ K ⟨⟩) : vcallF P (.func (.func f) #[] #[]) args σ K δ := ⟨f, #[], rfl, ho, by simpa using h⟩
theorem vcallF_cs {f : FuncId} {cs args : List Value} {σ : Hp} {K : Value → Hp → Prop} {δ : Dep K} (ho : okF P f = true) (h : callF P f (args ++ cs) σ K ⟨⟩) : vcallF P (.func (.func f) #[] cs.toArray) args σ K δ := ⟨f, cs.toArray, rfl, ho, h⟩
theorem opsF_nil (K : Sl → Hp → Prop) (s : Sl) (σ : Hp) (δ) : opsF P [] K s σ δ = K s σ := nr rfl
theorem opsF_none (d : Option Nat) (m : M) (os : List MO) (K : Sl → Hp → Prop) (s : Sl) (σ : Hp) (δ) : opsF P (⟨d, m, none⟩ :: os) K s σ δ = opF P m (fun v σ' => opsF P os K (putO s d v) σ' ⟨⟩) s σ ⟨⟩ := nr rfl
theorem opsF_r (d : Nat) (m : M) (os : List MO) (K : Sl → Hp → Prop) (s : Sl) (σ : Hp) (δ) : opsF P (rO d m :: os) K s σ δ = opF P m (fun v σ' => opsF P os K (putO s (some d) v) σ' ⟨⟩) s σ ⟨⟩ := nr rfl
theorem opsF_some (d : Option Nat) (m : M) (g : Nat) (w : Bool) (os : List MO) (K : Sl → Hp → Prop) (s : Sl) (σ : Hp) (δ) : opsF P (⟨d, m, some (g, w)⟩ :: os) K s σ δ =
    guardF (s g) w (opF P m (fun v σ' => opsF P os K (putO s d v) σ' ⟨⟩) s σ ⟨⟩) (opsF P os K (putO s d undef) σ ⟨⟩) ⟨⟩ := by
  show (if gd (some (g, w)) s = true then _ else _) = _
  rw [gd_some]; rfl
theorem opF_hop (op : Op) (ty : TypeId) (K : Value → Hp → Prop) (s : Sl) (σ : Hp) (δ) : opF P (.hop op ty) K s σ δ = hopF P op ty K s σ ⟨⟩ := propext ⟨fun h => ⟨h⟩, fun h => h.out⟩
theorem opF_raw (op : Op) (ty : TypeId) (K : Value → Hp → Prop) (s : Sl) (σ : Hp) (δ) : opF P (.raw op ty) K s σ δ = rawF P op ty (fun v => K v σ) s ⟨⟩ := nr rfl
theorem opF_mv (x : Operand) (K : Value → Hp → Prop) (s : Sl) (σ : Hp) (δ) : opF P (.mv x) K s σ δ = runF (ev s x) (fun v => K v σ) ⟨⟩ := nr rfl
theorem opF_pick (c a b : Operand) (K : Value → Hp → Prop) (s : Sl) (σ : Hp) (δ) : opF P (.pick c a b) K s σ δ = boolF (ev s c) (fun t => runF (if t = true then ev s a else ev s b) (fun v => K v σ) ⟨⟩) ⟨⟩ := nr rfl
theorem opF_nilc (x : Operand) (K : Value → Hp → Prop) (s : Sl) (σ : Hp) (δ) : opF P (.nilc x) K s σ δ = ptrF (ev s x) (fun b o => K (.pointer (some ⟨b, o, none⟩)) σ) ⟨⟩ := nr rfl
theorem opF_fa (off : Nat) (x : Operand) (K : Value → Hp → Prop) (s : Sl) (σ : Hp) (δ) : opF P (.fa off x) K s σ δ = ptrF (ev s x) (fun b o => runF (o + off) (fun j => K (.pointer (some ⟨b, j, none⟩)) σ) ⟨⟩) ⟨⟩ := nr rfl
theorem opF_ia (size : Nat) (x i : Operand) (K : Value → Hp → Prop) (s : Sl) (σ : Hp) (δ) : opF P (.ia size x i) K s σ δ = sliceF (ev s x) (fun b o n => i64F (ev s i) (fun j => (0 ≤ j ∧ j < n) ∧ runF (o + j.toNat * size) (fun j => K (.pointer (some ⟨b, j, none⟩)) σ) ⟨⟩) ⟨⟩) ⟨⟩ := nr rfl
theorem opF_bin (op : BinOp) (x y : Operand) (K : Value → Hp → Prop) (s : Sl) (σ : Hp) (δ) : opF P (.bin op x y) K s σ δ = someF (binv op (ev s x) (ev s y)) (fun v => K v σ) ⟨⟩ := nr rfl
theorem opF_eqs (neg : Bool) (k : EqK) (x y : Operand) (K : Value → Hp → Prop) (s : Sl) (σ : Hp) (δ) : opF P (.eqs neg k x y) K s σ δ = someF (eqv k (ev s x) (ev s y)) (fun b => runF (b != neg) (fun b => K (.bool b) σ) ⟨⟩) ⟨⟩ := nr rfl
theorem opF_nt (x : Operand) (K : Value → Hp → Prop) (s : Sl) (σ : Hp) (δ) : opF P (.nt x) K s σ δ = boolF (ev s x) (fun b => runF (!b) (fun b => K (.bool b) σ) ⟨⟩) ⟨⟩ := nr rfl
theorem opF_ext (i : Nat) (x : Operand) (K : Value → Hp → Prop) (s : Sl) (σ : Hp) (δ) : opF P (.ext i x) K s σ δ = tupleF (ev s x) (fun vs => someF vs[i]? (fun v => K v σ) ⟨⟩) ⟨⟩ := nr rfl
theorem opF_len (t : Bool) (x : Operand) (K : Value → Hp → Prop) (s : Sl) (σ : Hp) (δ) : opF P (.len t x) K s σ δ = someF (lenv t (ev s x)) (fun n => K (.int .i64 n) σ) ⟨⟩ := nr rfl
theorem opF_bld (z : List Value) (ps : List (Nat × Nat × Operand)) (K : Value → Hp → Prop) (s : Sl) (σ : Hp) (δ) : opF P (.bld z ps) K s σ δ = someF (fillO s z ps) (fun cs => K (.agg cs.toArray) σ) ⟨⟩ := nr rfl
theorem opF_conv (k : IntKind) (x : Operand) (K : Value → Hp → Prop) (s : Sl) (σ : Hp) (δ) : opF P (.conv k x) K s σ δ = intF (ev s x) (fun _ n => runF (k.wrap n) (fun n => K (.int k n) σ) ⟨⟩) ⟨⟩ := nr rfl
theorem opF_ixs (x i : Operand) (K : Value → Hp → Prop) (s : Sl) (σ : Hp) (δ) : opF P (.ixs x i) K s σ δ = strF (ev s x) (fun b => i64F (ev s i) (fun j => (0 ≤ j ∧ j < b.size) ∧ K (.int .u8 (b.data.toList.getD j.toNat 0).toNat) σ) ⟨⟩) ⟨⟩ := nr rfl
theorem opF_mx (up : Bool) (x y : Operand) (K : Value → Hp → Prop) (s : Sl) (σ : Hp) (δ) : opF P (.mx up x y) K s σ δ = intF (ev s x) (fun k a => intF (ev s y) (fun _ b => runF (if up = true then mxI a b else mnI a b) (fun n => K (.int k n) σ) ⟨⟩) ⟨⟩) ⟨⟩ := nr rfl
theorem opF_eqa (neg : Bool) (ks : List Lk) (x y : Operand) (K : Value → Hp → Prop) (s : Sl) (σ : Hp) (δ) : opF P (.eqa neg ks x y) K s σ δ = someF (Sp.eqa ks (ev s x) (ev s y)) (fun b => runF (b != neg) (fun b => K (.bool b) σ) ⟨⟩) ⟨⟩ := nr rfl
theorem opF_fld (sz : Option Nat) (off : Nat) (x : Operand) (K : Value → Hp → Prop) (s : Sl) (σ : Hp) (δ) : opF P (.fld sz off x) K s σ δ = someF (fldv sz off (ev s x)) (fun v => K v σ) ⟨⟩ := nr rfl
theorem opF_new (T : TypeId) (z : List Value) (K : Value → Hp → Prop) (s : Sl) (σ : Hp) (δ) : opF P (.new T z) K s σ δ = ∀ b, σ b = none → K (.pointer (some ⟨b, 0, none⟩)) (upd σ b (.cells z T)) := nr rfl
theorem opF_box (T : TypeId) (x : Operand) (K : Value → Hp → Prop) (s : Sl) (σ : Hp) (δ) : opF P (.box T x) K s σ δ = runF (cl (ev s x)) (fun z => ∀ b, σ b = none → K (.pointer (some ⟨b, 0, none⟩)) (upd σ b (.cells z T))) ⟨⟩ := nr rfl
theorem opF_lit (E : TypeId) (n size : Nat) (z : List Value) (ps : List (Nat × Nat × Operand)) (K : Value → Hp → Prop) (s : Sl) (σ : Hp) (δ) : opF P (.lit E n size z ps) K s σ δ = someF (fillO s z ps) (fun cs => runF cs.length (fun l => ∀ b, σ b = none → K (.slice (some ⟨b, 0, none⟩) n n) (upd σ b (.row cs l E))) ⟨⟩) ⟨⟩ := nr rfl
theorem opF_ld (x : Operand) (K : Value → Hp → Prop) (s : Sl) (σ : Hp) (δ) : opF P (.ld none x) K s σ δ = ptrF (ev s x) (fun b off => someF (rd σ b off) (fun v => K v σ) ⟨⟩) ⟨⟩ := nr rfl
theorem opF_lds (sz : Nat) (x : Operand) (K : Value → Hp → Prop) (s : Sl) (σ : Hp) (δ) : opF P (.ld (some sz) x) K s σ δ = ptrF (ev s x) (fun b off => someF (rdn σ b off sz) (fun vs => K (.agg vs.toArray) σ) ⟨⟩) ⟨⟩ := nr rfl
theorem opF_st (sz : Nat) (a x : Operand) (K : Value → Hp → Prop) (s : Sl) (σ : Hp) (δ) : opF P (.st sz a x) K s σ δ = ptrF (ev s a) (fun b off => runF (cl (ev s x)) (fun cs => cs.length = sz ∧ cs.all one = true ∧ someF (wr σ b off cs) (fun σ' => K undef σ') ⟨⟩) ⟨⟩) ⟨⟩ := nr rfl
theorem opF_call (f : FuncId) (args : List Operand) (K : Value → Hp → Prop) (s : Sl) (σ : Hp) (δ) : opF P (.call f args) K s σ δ = runF (args.map (ev s)) (fun vs => callF P f vs σ K ⟨⟩) ⟨⟩ := nr rfl
theorem opF_callv (x : Operand) (args : List Operand) (K : Value → Hp → Prop) (s : Sl) (σ : Hp) (δ) : opF P (.callv x args) K s σ δ = runF (args.map (ev s)) (fun vs => runF (ev s x) (fun v => vcallF P v vs σ K ⟨⟩) ⟨⟩) ⟨⟩ := nr rfl
theorem ev_func (s : Sl) (f : FuncId) : ev s (.func f) = .func (.func f) #[] #[] := nr rfl
theorem opF_app (E size bytes : Nat) (x y : Operand) (K : Value → Hp → Prop) (s : Sl) (σ : Hp) (δ) : opF P (.app E size bytes x y) K s σ δ = appF E size bytes (ev s x) (ev s y) K σ ⟨⟩ := nr rfl
theorem opF_mkmap (num : Bool) (K : Value → Hp → Prop) (s : Sl) (σ : Hp) (δ) : opF P (.mkmap num) K s σ δ = ∀ b, σ b = none → K (.map (some b)) (upd σ b (if num = true then .im [] else .mp [])) := nr rfl
theorem opF_mks (E size bytes : Nat) (z : List Value) (x : Operand) (K : Value → Hp → Prop) (s : Sl) (σ : Hp) (δ) : opF P (.mks E size bytes z x) K s σ δ = i64F (ev s x) (fun j => (0 ≤ j ∧ j * bytes ≤ 140737488355328 ∧ j ≤ 140737488355328 ∧ z.length = size) ∧ ∀ b, σ b = none → K (.slice (some ⟨b, 0, none⟩) j.toNat j.toNat) (upd σ b (.row (List.replicate j.toNat z).flatten (j.toNat * size) E))) ⟨⟩ := nr rfl
theorem opF_look (q : LQ) (z : Value) (x i : Operand) (K : Value → Hp → Prop) (s : Sl) (σ : Hp) (δ) : opF P (.look q z x i) K s σ δ = someF (mreadV σ (ev s x) q z (ev s i)) (fun v => K v σ) ⟨⟩ := nr rfl
theorem opF_mset (q : LT) (x i v : Operand) (K : Value → Hp → Prop) (s : Sl) (σ : Hp) (δ) : opF P (.mset q x i v) K s σ δ = someF (mturnV σ (ev s x) q (ev s i) (ev s v)) (fun σ' => K (turnv q) σ') ⟨⟩ := nr rfl
theorem opF_fnl (g : Lf) (xs : List Operand) (K : Value → Hp → Prop) (s : Sl) (σ : Hp) (δ) : opF P (.fnl g xs) K s σ δ = runF (xs.map (ev s)) (fun vs => someF (lf g vs) (fun v => K v σ) ⟨⟩) ⟨⟩ := nr rfl
theorem opF_bys (x : Operand) (K : Value → Hp → Prop) (s : Sl) (σ : Hp) (δ) : opF P (.bys x) K s σ δ = sliceF (ev s x) (fun b o n => someF (rdn σ b o n) (fun vs => someF (u8s vs) (fun ys => runF (strOfNums ys) (fun t => K (.string t) σ) ⟨⟩) ⟨⟩) ⟨⟩) ⟨⟩ := nr rfl
theorem mread_nil_s (σ : Hp) (ok : Bool) (z : Value) (k : ByteArray) : mreadV σ (.map none) (.get false ok) z (.string k) = some (lookv ok z none) := nr rfl
theorem mread_nil_i (σ : Hp) (ok : Bool) (z : Value) (n : Int) : mreadV σ (.map none) (.get true ok) z (.int .i64 n) = some (lookv ok z none) := nr rfl
theorem mread_nil_n (σ : Hp) (z k : Value) : mreadV σ (.map none) .size z k = some (.int .i64 0) := nr rfl
theorem mread_mp (σ : Hp) (b : Nat) (l : List (ByteArray × Value)) (ok : Bool) (z : Value) (k : ByteArray) : mreadV (upd σ b (.mp l)) (.map (some b)) (.get false ok) z (.string k) = some (lookv ok z (mget l k)) := by simp [mreadV, upd, bread]
theorem mread_mp_n (σ : Hp) (b : Nat) (l : List (ByteArray × Value)) (z k : Value) : mreadV (upd σ b (.mp l)) (.map (some b)) .size z k = some (.int .i64 l.length) := by simp [mreadV, upd, bread]
theorem mread_im (σ : Hp) (b : Nat) (l : List (Int × Value)) (ok : Bool) (z : Value) (k : Int) : mreadV (upd σ b (.im l)) (.map (some b)) (.get true ok) z (.int .i64 k) = some (lookv ok z (mget l k)) := by simp [mreadV, upd, bread]
theorem mread_im_n (σ : Hp) (b : Nat) (l : List (Int × Value)) (z k : Value) : mreadV (upd σ b (.im l)) (.map (some b)) .size z k = some (.int .i64 l.length) := by simp [mreadV, upd, bread]
theorem mread_ne (σ : Hp) {b c : Nat} (o : Blk) (q : LQ) (z k : Value) (h : ¬ b = c) : mreadV (upd σ c o) (.map (some b)) q z k = mreadV σ (.map (some b)) q z k := by simp [mreadV, upd, h]
theorem mturn_mp_put (σ : Hp) (b : Nat) (l : List (ByteArray × Value)) (k : ByteArray) (v : Value) : mturnV (upd σ b (.mp l)) (.map (some b)) (.put false) (.string k) v = some (upd σ b (.mp (mput l k v))) := by
  have e : (upd σ b (.mp l)) b = some (.mp l) := upd_same _ _ _
  simp only [mturnV, e, Option.bind_some, bturn, Option.map_some, upd_upd]
theorem mturn_mp_del (σ : Hp) (b : Nat) (l : List (ByteArray × Value)) (k : ByteArray) (v : Value) : mturnV (upd σ b (.mp l)) (.map (some b)) (.del false) (.string k) v = some (upd σ b (.mp (mdel l k))) := by
  have e : (upd σ b (.mp l)) b = some (.mp l) := upd_same _ _ _
  simp only [mturnV, e, Option.bind_some, bturn, Option.map_some, upd_upd]
theorem mturn_mp_clr (σ : Hp) (b : Nat) (l : List (ByteArray × Value)) (k v : Value) : mturnV (upd σ b (.mp l)) (.map (some b)) .clr k v = some (upd σ b (.mp [])) := by
  have e : (upd σ b (.mp l)) b = some (.mp l) := upd_same _ _ _
  simp only [mturnV, e, Option.bind_some, bturn, Option.map_some, upd_upd]
theorem mturn_im_put (σ : Hp) (b : Nat) (l : List (Int × Value)) (k : Int) (v : Value) : mturnV (upd σ b (.im l)) (.map (some b)) (.put true) (.int .i64 k) v = some (upd σ b (.im (mput l k v))) := by
  have e : (upd σ b (.im l)) b = some (.im l) := upd_same _ _ _
  simp only [mturnV, e, Option.bind_some, bturn, Option.map_some, upd_upd]
theorem mturn_im_del (σ : Hp) (b : Nat) (l : List (Int × Value)) (k : Int) (v : Value) : mturnV (upd σ b (.im l)) (.map (some b)) (.del true) (.int .i64 k) v = some (upd σ b (.im (mdel l k))) := by
  have e : (upd σ b (.im l)) b = some (.im l) := upd_same _ _ _
  simp only [mturnV, e, Option.bind_some, bturn, Option.map_some, upd_upd]
theorem mturn_im_clr (σ : Hp) (b : Nat) (l : List (Int × Value)) (k v : Value) : mturnV (upd σ b (.im l)) (.map (some b)) .clr k v = some (upd σ b (.im [])) := by
  have e : (upd σ b (.im l)) b = some (.im l) := upd_same _ _ _
  simp only [mturnV, e, Option.bind_some, bturn, Option.map_some, upd_upd]
theorem mturn_ne (σ : Hp) {b c : Nat} (o : Blk) (q : LT) (k v : Value) (h : ¬ b = c) : mturnV (upd σ c o) (.map (some b)) q k v = (mturnV σ (.map (some b)) q k v).map fun τ => upd τ c o := by
  simp only [mturnV, upd_ne _ _ h, Option.map_map]
  congr 1
  funext o'
  exact upd_comm _ _ _ (fun e => h e.symm)
theorem lookv_t (z : Value) (r : Option Value) : lookv true z r = .tuple #[r.getD z, .bool r.isSome] := nr rfl
theorem lookv_f (z : Value) (r : Option Value) : lookv false z r = r.getD z := nr rfl
theorem lf_sll_eq (sz : Nat) (a : Option Addr) (n c : Nat) (k : IntKind) (i : Int) (h : 0 ≤ i ∧ i ≤ n) : lf (.sll sz) [.slice a n c, .int k i] = some (sliced a i.toNat n c sz) := if_pos h
theorem lf_slh_eq (sz : Nat) (a : Option Addr) (n c : Nat) (k : IntKind) (j : Int) (h : 0 ≤ j ∧ j ≤ c) : lf (.slh sz) [.slice a n c, .int k j] = some (sliced a 0 j.toNat c sz) := if_pos h
theorem lf_rune_eq (k : IntKind) (i : Int) : lf .rune [.int k i] = some (.string (Utf8.encode i)) := nr rfl
theorem lf_clo (f : FuncId) (us : List Value) : lf (.clo f) us = some (.func (.func f) #[] us.toArray) := nr rfl
theorem lf_ifn_nil (neg : Bool) : lf (.ifn neg) [.nilIface] = some (.bool (true != neg)) := nr rfl
theorem lf_ifn_some (neg : Bool) (T : TypeId) (v : Value) : lf (.ifn neg) [.iface T v] = some (.bool (false != neg)) := nr rfl
theorem u8s_nil : u8s [] = some [] := nr rfl
theorem u8s_cons (x : Int) (r : List Value) : u8s (.int .u8 x :: r) = (u8s r).map (x :: ·) := nr rfl
theorem cl_map (b : Option Nat) : cl (.map b) = [.map b] := nr rfl
theorem one_map (b : Option Nat) : one (.map b) = true := nr rfl
theorem dopsF_nil (K : Sl → Hp → Hp → Prop) (s : Sl) (σ₀ σ : Hp) (δ) : dopsF P [] K s σ₀ σ δ = K s σ₀ σ := nr rfl
theorem dopsF_none (d : Option Nat) (m : M) (k : Kn) (xs : List DO) (K : Sl → Hp → Hp → Prop) (s : Sl) (σ₀ σ : Hp) (δ) : dopsF P (⟨⟨d, m, none⟩, k⟩ :: xs) K s σ₀ σ δ = dopF P k m (fun v σ₀' σ' => dopsF P xs K (putO s d v) σ₀' σ' ⟨⟩) s σ₀ σ ⟨⟩ := nr rfl
theorem dopsF_r (d : Nat) (m : M) (k : Kn) (xs : List DO) (K : Sl → Hp → Hp → Prop) (s : Sl) (σ₀ σ : Hp) (δ) : dopsF P (⟨rO d m, k⟩ :: xs) K s σ₀ σ δ = dopF P k m (fun v σ₀' σ' => dopsF P xs K (putO s (some d) v) σ₀' σ' ⟨⟩) s σ₀ σ ⟨⟩ := nr rfl
theorem dopsF_some (d : Option Nat) (m : M) (g : Nat) (w : Bool) (k : Kn) (xs : List DO) (K : Sl → Hp → Hp → Prop) (s : Sl) (σ₀ σ : Hp) (δ) : dopsF P (⟨⟨d, m, some (g, w)⟩, k⟩ :: xs) K s σ₀ σ δ =
    guardF (s g) w (dopF P k m (fun v σ₀' σ' => dopsF P xs K (putO s d v) σ₀' σ' ⟨⟩) s σ₀ σ ⟨⟩) (dopsF P xs K (putO s d undef) σ₀ σ ⟨⟩) ⟨⟩ := by
  show (if gd (some (g, w)) s = true then _ else _) = _
  rw [gd_some]; rfl
theorem dopF_p (m : M) (K : Value → Hp → Hp → Prop) (s : Sl) (σ₀ σ : Hp) (δ) : dopF P .p m K s σ₀ σ δ = opF P m (fun v _ => K v σ₀ σ) s σ₀ ⟨⟩ := nr rfl
theorem dopF_l (m : M) (K : Value → Hp → Hp → Prop) (s : Sl) (σ₀ σ : Hp) (δ) : dopF P .l m K s σ₀ σ δ = opF P m (fun v _ => K v σ₀ σ) s σ₀ ⟨⟩ := nr rfl
theorem dopF_f (m : M) (K : Value → Hp → Hp → Prop) (s : Sl) (σ₀ σ : Hp) (δ) : dopF P .f m K s σ₀ σ δ = opF P m (fun v σ' => K v σ₀ σ') s σ ⟨⟩ := nr rfl
theorem dopF_u (m : M) (K : Value → Hp → Hp → Prop) (s : Sl) (σ₀ σ : Hp) (δ) : dopF P .u m K s σ₀ σ δ = opF P m (fun v σ' => K v (meet σ₀ σ') σ') s σ ⟨⟩ := nr rfl
theorem meet_self (σ : Hp) : meet σ σ = σ := by funext k; simp [meet]
theorem meet_same (σ σ' : Hp) (b : Nat) (o : Blk) : meet (upd σ b o) (upd σ' b o) = upd (meet σ σ') b o := by
  funext k
  by_cases e : k = b
  · subst e; simp [meet, upd]
  · by_cases h : σ k = σ' k <;> simp [meet, upd, e, h]
theorem dopF_r (m : M) (K : Value → Hp → Hp → Prop) (s : Sl) (σ₀ σ : Hp) (δ) : dopF P .r m K s σ₀ σ δ = opF P m (fun v _ => K v σ₀ σ) s σ ⟨⟩ := nr rfl
theorem dopF_w (m : M) (K : Value → Hp → Hp → Prop) (s : Sl) (σ₀ σ : Hp) (δ) : dopF P .w m K s σ₀ σ δ = opF P m (fun v σ' => Sub σ₀ σ' ∧ K v σ₀ σ') s σ ⟨⟩ := nr rfl
theorem dopF_m (m : M) (K : Value → Hp → Hp → Prop) (s : Sl) (σ₀ σ : Hp) (δ) : dopF P .m m K s σ₀ σ δ = opF P m (fun v σ' => K v σ' σ') s σ ⟨⟩ := nr rfl
theorem dopF_c (f : FuncId) (args : List Operand) (K : Value → Hp → Hp → Prop) (s : Sl) (σ₀ σ : Hp) (δ) : dopF P .c (.call f args) K s σ₀ σ δ = runF (args.map (ev s)) (fun vs => ccallF P f vs σ₀ (fun v => K v σ₀ σ) ⟨⟩) ⟨⟩ := nr rfl
theorem dopF_cv (x : Operand) (args : List Operand) (K : Value → Hp → Hp → Prop) (s : Sl) (σ₀ σ : Hp) (δ) : dopF P .c (.callv x args) K s σ₀ σ δ = runF (args.map (ev s)) (fun vs => runF (ev s x) (fun v => vccallF P v vs σ₀ (fun v => K v σ₀ σ) ⟨⟩) ⟨⟩) ⟨⟩ := nr rfl
theorem dopF_g (f : FuncId) (args : List Operand) (K : Value → Hp → Hp → Prop) (s : Sl) (σ₀ σ : Hp) (δ) : dopF P .g (.call f args) K s σ₀ σ δ = runF (args.map (ev s)) (fun vs => gcallF P f vs σ₀ σ (fun v σ' => K v σ₀ σ') ⟨⟩) ⟨⟩ := nr rfl
theorem codeF_skip (Q : Exit → Sl → Hp → Prop) (s : Sl) (σ : Hp) (δ) : codeF P .skip Q s σ δ = Q .normal s σ := nr rfl
theorem codeF_reg (mos : List MO) (Q : Exit → Sl → Hp → Prop) (s : Sl) (σ : Hp) (δ) : codeF P (.reg mos) Q s σ δ = opsF P mos (fun s σ => Q .normal s σ) s σ ⟨⟩ := nr rfl
theorem codeF_draw (xs : List DO) (Q : Exit → Sl → Hp → Prop) (s : Sl) (σ : Hp) (δ) : codeF P (.draw xs) Q s σ δ = dopsF P xs (fun s _ σ => Q .normal s σ) s σ σ ⟨⟩ := nr rfl
def drawxF (P : Program) (xs : List DO) (K : Sl → Hp → Hp → Prop) (s : Sl) (σ : Hp) (_ : Dep (xs, K, s)) : Prop := ∃ σ₀, Sub σ₀ σ ∧ dmops P xs K s σ₀ σ
theorem codeF_drawx (xs : List DO) (Q : Exit → Sl → Hp → Prop) (s : Sl) (σ : Hp) (δ) : codeF P (.drawx xs) Q s σ δ = drawxF P xs (fun s _ σ => Q .normal s σ) s σ ⟨⟩ := nr rfl
/-- A region that draws, of which the reads may know less than there is. -/
theorem drawxF_of {xs : List DO} {K : Sl → Hp → Hp → Prop} {s : Sl} {σ σ₀ : Hp} {δ} (h : Sub σ₀ σ) (hk : dopsF P xs K s σ₀ σ ⟨⟩) : drawxF P xs K s σ δ := ⟨σ₀, h, hk⟩
theorem codeF_seq (a b : C) (Q : Exit → Sl → Hp → Prop) (s : Sl) (σ : Hp) (δ) : codeF P (.seq a b) Q s σ δ = codeF P a (thn (fun s σ => codeF P b Q s σ ⟨⟩) Q) s σ ⟨⟩ := nr rfl
theorem codeF_cond (x : Operand) (a b : C) (Q : Exit → Sl → Hp → Prop) (s : Sl) (σ : Hp) (δ) : codeF P (.cond x a b) Q s σ δ = condF (ev s x) (codeF P a Q s σ ⟨⟩) (codeF P b Q s σ ⟨⟩) ⟨⟩ := nr rfl
theorem codeF_block (id : Nat) (c : C) (Q : Exit → Sl → Hp → Prop) (s : Sl) (σ : Hp) (δ) : codeF P (.block id c) Q s σ δ = codeF P c (inBlk id Q) s σ ⟨⟩ := nr rfl
theorem codeF_loop (c : C) (Q : Exit → Sl → Hp → Prop) (s : Sl) (σ : Hp) (δ) : codeF P (.loop c) Q s σ δ = loopF P c Q s σ ⟨⟩ := nr rfl
theorem codeF_exit (id : Nat) (Q : Exit → Sl → Hp → Prop) (s : Sl) (σ : Hp) (δ) : codeF P (.exit id) Q s σ δ = Q (.exit id) s σ := nr rfl
theorem codeF_ret (Q : Exit → Sl → Hp → Prop) (s : Sl) (σ : Hp) (δ) : codeF P .ret Q s σ δ = Q .ret s σ := nr rfl
theorem thn_normal (K : Sl → Hp → Prop) (Q : Exit → Sl → Hp → Prop) (s : Sl) (σ : Hp) : thn K Q .normal s σ = K s σ := nr rfl
theorem thn_exit (K : Sl → Hp → Prop) (Q : Exit → Sl → Hp → Prop) (id : Nat) (s : Sl) (σ : Hp) : thn K Q (.exit id) s σ = Q (.exit id) s σ := nr rfl
theorem thn_ret (K : Sl → Hp → Prop) (Q : Exit → Sl → Hp → Prop) (s : Sl) (σ : Hp) : thn K Q .ret s σ = Q .ret s σ := nr rfl
theorem inBlk_normal (id : Nat) (Q : Exit → Sl → Hp → Prop) (s : Sl) (σ : Hp) : inBlk id Q .normal s σ = Q .normal s σ := nr rfl
theorem inBlk_ret (id : Nat) (Q : Exit → Sl → Hp → Prop) (s : Sl) (σ : Hp) : inBlk id Q .ret s σ = Q .ret s σ := nr rfl
theorem inBlk_exit (id id' : Nat) (Q : Exit → Sl → Hp → Prop) (s : Sl) (σ : Hp) : inBlk id Q (.exit id') s σ = if id' = id then Q .normal s σ else Q (.exit id') s σ := by
  show (if id' = id then Q .normal else Q (.exit id')) s σ = _
  split <;> rfl
theorem fin_normalF (rvs : List RV) (R : Value → Hp → Prop) (s : Sl) (σ : Hp) : fin rvs R .normal s σ = finF rvs R s σ ⟨⟩ := fin_normal rvs R s σ
theorem fin_retF (rvs : List RV) (R : Value → Hp → Prop) (s : Sl) (σ : Hp) : fin rvs R .ret s σ = finF rvs R s σ ⟨⟩ := fin_ret rvs R s σ
theorem finF_eq (rvs : List RV) (R : Value → Hp → Prop) (s : Sl) (σ : Hp) (δ) : finF rvs R s σ δ = someF (rvals s σ rvs) (fun vs => runF (whole vs) (fun v => endF R v σ ⟨⟩) ⟨⟩) ⟨⟩ := nr rfl
theorem putO_get (s : Sl) (d i : Nat) (v : Value) : putO s (some d) v i = if i = d then v else s i := nr rfl
theorem putO_no (s : Sl) (v : Value) : putO s none v = s := nr rfl
/-- The way in. -/
theorem acalls_F {f n : Nat} {m : C} {rvs : List RV} (hf : FnOk P f n m rvs) {args : List Value} {σ : Hp} {R : Value → Hp → Prop} (ha : args.length ≤ n) (h : codeF P m (fin rvs R) (init args) σ ⟨⟩) : ACalls P f args.toArray σ R := acalls_of hf ha h
/-- The way out. -/
theorem endF_at {R : Value → Hp → Prop} {v : Value} {σ : Hp} {δ : Dep R} (h : R v σ) : endF R v σ δ := ⟨σ, Sub.refl _, h⟩
theorem endF_sub {R : Value → Hp → Prop} {v : Value} {σ τ : Hp} {δ : Dep R} (hs : Sub τ σ) (h : R v τ) : endF R v σ δ := ⟨τ, hs, h⟩
theorem endF_det {A v : Value} {S σ : Hp} {δ} (h : v = A) (hs : Sub S σ) : endF (fun u σ' => u = A ∧ σ' = S) v σ δ := ⟨S, hs, h, rfl⟩
/-- A loop: what holds at its head, and what falls with each round. -/
theorem loopF_of {c : C} {Q : Exit → Sl → Hp → Prop} {s : Sl} {σ : Hp} {δ} (J : Nat → Sl → Hp → Prop) (k : Nat) {σ₁ : Hp} (hs : Sub σ₁ σ) (h0 : J k s σ₁) (h : ∀ k s' σ', J k s' σ' → codeF P c (thn (fun s'' σ'' => nextF J k s'' σ'' ⟨⟩) Q) s' σ' ⟨⟩) : loopF P c Q s σ δ := ⟨J, k, ⟨σ₁, hs, h0⟩, h⟩
theorem nextF_of {J : Nat → Sl → Hp → Prop} {k : Nat} {s : Sl} {σ : Hp} (k' : Nat) (hk : k' < k) {σ₁ : Hp} (hs : Sub σ₁ σ) (h : J k' s σ₁) {δ} : nextF J k s σ δ := ⟨k', hk, σ₁, hs, h⟩
theorem mops_mono {P : Program} : ∀ (l : List MO) {K K' : Sl → Hp → Prop}, (∀ s σ, K s σ → K' s σ) → ∀ {s : Sl} {σ : Hp}, mops P l K s σ → mops P l K' s σ
  | [], _, _, hk, _, _, h => hk _ _ h
  | o :: os, K, K', hk, s, σ, h => by
    unfold mops at h ⊢
    split
    · rename_i hg
      rw [if_pos hg] at h
      exact mop_mono h fun v σ' h => mops_mono os hk h
    · rename_i hg
      rw [if_neg hg] at h
      exact mops_mono os hk h
theorem dmops_mono {P : Program} : ∀ (l : List DO) {K K' : Sl → Hp → Hp → Prop}, (∀ s σ₀ σ, K s σ₀ σ → K' s σ₀ σ) → ∀ {s : Sl} {σ₀ σ : Hp}, dmops P l K s σ₀ σ → dmops P l K' s σ₀ σ
  | [], _, _, hk, _, _, _, h => hk _ _ _ h
  | x :: xs, K, K', hk, s, σ₀, σ, h => by
    unfold dmops dm1 at h ⊢
    exact dmv_mono h fun v a b _ h => dmops_mono xs hk h
theorem mcode_mono {P : Program} : ∀ (c : C) {Q Q' : Exit → Sl → Hp → Prop}, (∀ e s σ, Q e s σ → Q' e s σ) → ∀ {s : Sl} {σ : Hp}, mcode P c Q s σ → mcode P c Q' s σ := by
  intro c
  induction c with
  | skip => intro Q Q' hq s σ h; exact hq _ _ _ h
  | reg mos => intro Q Q' hq s σ h; exact mops_mono mos (fun s σ h => hq _ _ _ h) h
  | draw xs => intro Q Q' hq s σ h; exact dmops_mono xs (fun s _ σ h => hq _ _ _ h) h
  | drawx xs => intro Q Q' hq s σ h; obtain ⟨σ₀, h1, h2⟩ := h; exact ⟨σ₀, h1, dmops_mono xs (fun s _ σ h => hq _ _ _ h) h2⟩
  | seq a b iha ihb =>
    intro Q Q' hq s σ h
    refine iha (fun e s σ h => ?_) h
    cases e with
    | normal => exact ihb hq h
    | _ => exact hq _ _ _ h
  | cond x a b iha ihb =>
    intro Q Q' hq s σ h
    obtain ⟨t, ht, h⟩ := h
    refine ⟨t, ht, ?_⟩
    split
    · rename_i e; rw [if_pos e] at h; exact iha hq h
    · rename_i e; rw [if_neg e] at h; exact ihb hq h
  | block id c ih =>
    intro Q Q' hq s σ h
    refine ih (fun e s σ h => ?_) h
    cases e with
    | exit i =>
      by_cases e : i = id
      · simp only [inBlk, if_pos e] at h ⊢; exact hq _ _ _ h
      · simp only [inBlk, if_neg e] at h ⊢; exact hq _ _ _ h
    | _ => exact hq _ _ _ h
  | loop c ih =>
    intro Q Q' hq s σ h
    obtain ⟨J, k, h0, h⟩ := h
    refine ⟨J, k, h0, fun k s' σ' hJ => ih (fun e s σ h => ?_) (h k s' σ' hJ)⟩
    cases e with
    | normal => exact h
    | _ => exact hq _ _ _ h
  | exit id => intro Q Q' hq s σ h; exact hq _ _ _ h
  | ret => intro Q Q' hq s σ h; exact hq _ _ _ h
/-- Two pieces, one behind the other: what holds between them. -/
theorem codeF_cut {P : Program} {a b : C} {Q : Exit → Sl → Hp → Prop} {s : Sl} {σ : Hp} {δ} (I : Sl → Hp → Prop) (h1 : codeF P a (thn I Q) s σ ⟨⟩) (h2 : ∀ s σ, I s σ → codeF P b Q s σ ⟨⟩) : codeF P (.seq a b) Q s σ δ :=
  mcode_mono a (fun e s σ h => by
    cases e with
    | normal => exact h2 s σ h
    | _ => exact h) h1
end Go.Sp

-- SpI
namespace Go.Sp
open Go.RowKit
set_option linter.unusedSimpArgs false
set_option linter.unusedVariables false
theorem seg_zero (cs : List Value) : seg cs 0 0 = some [] := by simp [seg]
theorem seg_cons (c : Value) (cs : List Value) (n : Nat) : seg (c :: cs) 0 (n + 1) = (seg cs 0 n).map (fun l => c :: l) := by
  simp only [seg, List.length_cons, Nat.zero_add, List.drop_zero, List.take_succ_cons]
  by_cases h : n ≤ cs.length
  · rw [if_pos h, if_pos (by omega)]; rfl
  · rw [if_neg h, if_neg (by omega)]; rfl
theorem seg_skip (c : Value) (cs : List Value) (o n : Nat) : seg (c :: cs) (o + 1) n = seg cs o n := by
  simp only [seg, List.length_cons, List.drop_succ_cons]
  by_cases h : o + n ≤ cs.length
  · rw [if_pos h, if_pos (by omega)]
  · rw [if_neg h, if_neg (by omega)]
theorem flat_len {α : Type} {f : α → List Value} {sz : Nat} (hf : ∀ x, (f x).length = sz) (l : List α) : (l.flatMap f).length = l.length * sz := by
  induction l with
  | nil => simp
  | cons a l ih => rw [List.flatMap_cons, List.length_append, hf, ih, List.length_cons, Nat.add_mul]; omega
theorem flat_split {α : Type} {f : α → List Value} {sz : Nat} (hf : ∀ x, (f x).length = sz) : ∀ {l : List α} {i : Nat} {x : α}, l[i]? = some x → ∃ A B, l.flatMap f = A ++ f x ++ B ∧ A.length = i * sz
  | a :: l, 0, x, h => by
    simp at h; subst h
    exact ⟨[], l.flatMap f, by simp, by simp⟩
  | a :: l, i + 1, x, h => by
    obtain ⟨A, B, h1, h2⟩ := flat_split hf (l := l) (i := i) (x := x) (by simpa using h)
    exact ⟨f a ++ A, B, by rw [List.flatMap_cons, h1]; simp, by rw [List.length_append, hf, h2, Nat.add_mul]; omega⟩
theorem seg_mid (A M B : List Value) (o n : Nat) (h : o + n ≤ M.length) : seg (A ++ M ++ B) (A.length + o) n = seg M o n := by
  unfold seg
  rw [if_pos (by simp; omega), if_pos h, List.append_assoc, List.drop_append, List.drop_of_length_le (by omega), List.nil_append, Nat.add_sub_cancel_left,
    List.drop_append_of_le_length (by omega), List.take_append_of_le_length (by rw [List.length_drop]; omega)]
theorem seg_flat {α : Type} {f : α → List Value} {sz : Nat} (hf : ∀ x, (f x).length = sz) {l : List α} {i : Nat} {x : α} (hx : l[i]? = some x) (o n : Nat) (h : o + n ≤ sz) : seg (l.flatMap f) (i * sz + o) n = seg (f x) o n := by
  obtain ⟨A, B, h1, h2⟩ := flat_split hf hx
  rw [h1, ← h2]
  exact seg_mid A _ B o n (by rw [hf]; exact h)
theorem get_flat {α : Type} {f : α → List Value} {sz : Nat} (hf : ∀ x, (f x).length = sz) {l : List α} {i : Nat} {x : α} (hx : l[i]? = some x) (o : Nat) (h : o < sz) : (l.flatMap f)[i * sz + o]? = (f x)[o]? := by
  obtain ⟨A, B, h1, h2⟩ := flat_split hf hx
  rw [h1, ← h2, List.append_assoc, List.getElem?_append_right (by omega), Nat.add_sub_cancel_left, List.getElem?_append_left (by rw [hf]; exact h)]
theorem seg_all (cs : List Value) : seg cs 0 cs.length = some cs := by simp [seg]
/-- The slice v holds the list l: nil, or a row of its own. -/
def RowsAt {α : Type} (E sz : Nat) (f : α → List Value) (σ : Hp) (v : Value) (l : List α) : Prop :=
  (v = .slice none 0 0 ∧ l = []) ∨ ∃ b c, v = .slice (some ⟨b, 0, none⟩) l.length c ∧ l.length ≤ c ∧ σ b = some (.row (l.flatMap f) (c * sz) E)
/-- A fact laid aside. -/
structure Hid (p : Prop) : Prop where
  out : p
theorem app_be {E size bytes b n cap c : Nat} {A : Option Addr} {K : Value → Hp → Prop} {σ : Hp} {δ} (h : n ≤ cap) (hk : K (.slice (some ⟨b, 0, none⟩) n cap) σ) : appF E size bytes (.slice (some ⟨b, 0, none⟩) n cap) (.slice A 0 c) K σ δ :=
  .inl ⟨A, 0, c, rfl, rfl, .inr ⟨b, n, cap, rfl, h, hk⟩⟩
/-- Something appended to nil. -/
theorem app_n {E size bytes b off m c : Nat} {ys : List Value} {K : Value → Hp → Prop} {σ : Hp} {δ} (hy : rdn σ b off (m * size) = some ys) (h1 : ys.all one = true) (hm : 0 < m) (hb : m * bytes ≤ 140737488355328) (hl : m ≤ maxLen)
    (hk : ∀ b' c', σ b' = none → m ≤ c' → K (.slice (some ⟨b', 0, none⟩) m c') (upd σ b' (.row ys (c' * size) E))) : appF E size bytes (.slice none 0 0) (.slice (some ⟨b, off, none⟩) m c) K σ δ :=
  .inr ⟨b, off, m, c, ys, rfl, hy, h1, .inr (.inl ⟨hm, rfl, hb, hl, hk⟩)⟩
/-- Something appended to a row: in its room, or to a copy of it. -/
theorem app_b {E size bytes b off m c g n cap : Nat} {xs ys : List Value} {K : Value → Hp → Prop} {σ : Hp} {δ} (hy : rdn σ b off (m * size) = some ys) (h1 : ys.all one = true) (hx : σ g = some (.row xs (cap * size) E)) (hxl : xs.length = n * size) (hn : n ≤ cap)
    (hb : (n + m) * bytes ≤ 140737488355328) (hl : n + m ≤ maxLen)
    (hk1 : ∀ c', n + m ≤ c' → K (.slice (some ⟨g, 0, none⟩) (n + m) c') (set σ g (.row (xs ++ ys) (c' * size) E)))
    (hk2 : ∀ b' c', σ b' = none → n + m ≤ c' → K (.slice (some ⟨b', 0, none⟩) (n + m) c') (upd (set σ g .dead) b' (.row (xs ++ ys) (c' * size) E))) :
    appF E size bytes (.slice (some ⟨g, 0, none⟩) n cap) (.slice (some ⟨b, off, none⟩) m c) K σ δ := by
  refine .inr ⟨b, off, m, c, ys, rfl, hy, h1, .inr (.inr ⟨g, n, cap, xs, rfl, ⟨[], by rw [List.append_nil]; exact hx⟩, hxl, hn, hb, hl, ?_⟩)⟩
  rintro b' c' (⟨rfl, _, _⟩ | ⟨hn', _⟩) hc
  · rw [upd_upd]; exact hk1 c' hc
  · exact hk2 b' c' hn' hc
/-- Something appended to the head of a row, in its room. -/
theorem app_cut {E size bytes b off m c g n cap : Nat} {xs tl ys : List Value} {K : Value → Hp → Prop} {σ : Hp} {δ} (hy : rdn σ b off (m * size) = some ys) (h1 : ys.all one = true) (hx : σ g = some (.row (xs ++ tl) (cap * size) E)) (hxl : xs.length = n * size) (hn : n + m ≤ cap)
    (hb : (n + m) * bytes ≤ 140737488355328) (hl : n + m ≤ maxLen)
    (hk1 : K (.slice (some ⟨g, 0, none⟩) (n + m) cap) (set σ g (.row (xs ++ ys) (cap * size) E))) :
    appF E size bytes (.slice (some ⟨g, 0, none⟩) n cap) (.slice (some ⟨b, off, none⟩) m c) K σ δ := by
  refine .inr ⟨b, off, m, c, ys, rfl, hy, h1, .inr (.inr ⟨g, n, cap, xs, rfl, ⟨tl, hx⟩, hxl, by omega, hb, hl, ?_⟩)⟩
  rintro b' c' (⟨rfl, rfl, _⟩ | ⟨_, h⟩) hc
  · rw [upd_upd]; exact hk1
  · omega
/-- The block that a slice lies in. -/
def blk (v : Value) : Option Nat := match v with | .slice (some a) _ _ => some a.block | _ => none
theorem RowsAt.keep {α : Type} {E sz : Nat} {f : α → List Value} {σ σ' : Hp} {v : Value} {l : List α} (h : RowsAt E sz f σ v l) (hk : ∀ k, blk v = some k → σ' k = σ k) : RowsAt E sz f σ' v l := by
  rcases h with h | ⟨b, c, rfl, hc, hb⟩
  · exact .inl h
  · exact .inr ⟨b, c, rfl, hc, by rw [hk b rfl]; exact hb⟩
/-- What was known and is not of F is as it was. -/
def Same (F : Nat → Prop) (σ σ' : Hp) : Prop := ∀ k, σ k ≠ none → ¬ F k → σ' k = σ k
theorem Same.refl (F : Nat → Prop) (σ : Hp) : Same F σ σ := fun _ _ _ => rfl
theorem Same.updNew {F : Nat → Prop} {σ σ' : Hp} {b : Nat} {o : Blk} (hb : σ b = none) (h : Same F σ σ') : Same F σ (upd σ' b o) := fun k hk hf => by
  rw [upd_ne _ _ (fun e => by subst e; exact hk hb)]; exact h k hk hf
theorem Same.updIn {F : Nat → Prop} {σ σ' : Hp} {b : Nat} {o : Blk} (hb : F b) (h : Same F σ σ') : Same F σ (upd σ' b o) := fun k hk hf => by
  rw [upd_ne _ _ (fun e => by subst e; exact hf hb)]; exact h k hk hf
theorem Same.both {F : Nat → Prop} {σ σ' : Hp} {b : Nat} {o o' : Blk} (hb : F b) (h : Same F σ σ') : Same F (upd σ b o) (upd σ' b o') := fun k hk hf => by
  have hne : k ≠ b := fun e => by subst e; exact hf hb
  rw [upd_ne _ _ hne] at hk ⊢
  rw [upd_ne _ _ hne]; exact h k hk hf
theorem RowsAt.sameF {α : Type} {E sz : Nat} {f : α → List Value} {σ σ' : Hp} {v : Value} {l : List α} {F : Nat → Prop} (h : RowsAt E sz f σ v l) (hs : Same F σ σ') (hF : ∀ k, blk v = some k → ¬ F k) : RowsAt E sz f σ' v l :=
  h.keep fun k hk => hs k (by
    rcases h with ⟨rfl, _⟩ | ⟨b, c, rfl, _, hb⟩
    · cases hk
    · cases hk; rw [hb]; simp) (hF k hk)
theorem Same.trans {F G : Nat → Prop} {σ σ1 σ2 : Hp} (h : Same F σ σ1) (k : Same G σ1 σ2) (hG : ∀ i, σ i ≠ none → G i → F i) : Same F σ σ2 := fun i hi hf => by
  rw [k i (by rw [h i hi hf]; exact hi) (fun g => hf (hG i hi g)), h i hi hf]
theorem RowsAt.slice {α : Type} {E sz : Nat} {f : α → List Value} {σ : Hp} {v : Value} {l : List α} (h : RowsAt E sz f σ v l) : ∃ a c, v = .slice a l.length c := by
  rcases h with ⟨rfl, rfl⟩ | ⟨b, c, rfl, _, _⟩
  · exact ⟨_, _, rfl⟩
  · exact ⟨_, _, rfl⟩
theorem RowsAt.fresh {α : Type} {E sz : Nat} {f : α → List Value} {σ : Hp} {v : Value} {l : List α} (h : RowsAt E sz f σ v l) {b : Nat} (hb : σ b = none) (o : Blk) : RowsAt E sz f (upd σ b o) v l :=
  h.keep fun k hk => upd_ne _ _ fun e => by
    subst e
    rcases h with ⟨rfl, _⟩ | ⟨b, c, rfl, _, hb'⟩
    · cases hk
    · cases hk; rw [hb] at hb'; cases hb'
/-- Made anew: nothing that was known has turned, and v lies in what is new. -/
def Made (σ : Hp) (σ' : Hp) (v : Value) : Prop := Same (fun _ => False) σ σ' ∧ ∀ k, blk v = some k → σ k = none
theorem Made.sub {σ σ' : Hp} {v : Value} (h : Made σ σ' v) : Sub σ σ' := fun k => by
  by_cases e : σ k = none
  · exact .inl e
  · exact .inr (h.1 k e fun x => x).symm
theorem Made.old {σ σ' : Hp} {v : Value} (h : Made σ σ' v) {b : Nat} (hb : σ' b = none) : σ b = none := by
  rcases h.sub b with e | e
  · exact e
  · rw [e]; exact hb
theorem Made.grow {σ σ' : Hp} {v : Value} (h : Made σ σ' v) {b : Nat} (hb : σ' b = none) (o : Blk) : Made σ (upd σ' b o) v := ⟨h.1.updNew (h.old hb), h.2⟩
/-- A slice that is only read: each element's cells. -/
def RoRows {α : Type} (sz : Nat) (f : α → List Value) (σ : Hp) (v : Value) (l : List α) : Prop :=
  ∃ A c, v = .slice A l.length c ∧ ∀ i x, l[i]? = some x → ∃ b o, A = some ⟨b, o, none⟩ ∧ rdn σ b (o + i * sz) sz = some (f x)
theorem RoRows.sub {α : Type} {sz : Nat} {f : α → List Value} {σ σ' : Hp} {v : Value} {l : List α} (h : RoRows sz f σ v l) (hs : Sub σ σ') : RoRows sz f σ' v l := by
  obtain ⟨A, c, rfl, h⟩ := h
  exact ⟨A, c, rfl, fun i x hx => by obtain ⟨b, o, e, k⟩ := h i x hx; exact ⟨b, o, e, rdn_sub hs k⟩⟩
end Go.Sp

-- SpJ
namespace Go.Sp
set_option maxRecDepth 100000
theorem evP : type_of% (And.intro @opsF_r (And.intro @dopsF_r (And.intro @codeF_drawx (And.intro @opF_callv (And.intro @dopF_cv (And.intro @ev_func (And.intro @opF_mkmap (And.intro @opF_mks (And.intro @opF_look (And.intro @opF_mset (And.intro @opF_fnl (And.intro @opF_bys (And.intro @opsF_nil (And.intro @opsF_none (And.intro @opsF_some (And.intro @opF_hop (And.intro @opF_raw (And.intro @opF_mv (And.intro @opF_pick (And.intro @opF_nilc (And.intro @opF_fa (And.intro @opF_ia (And.intro @opF_bin (And.intro @opF_eqs (And.intro @opF_nt (And.intro @opF_ext (And.intro @opF_len (And.intro @opF_bld (And.intro @opF_conv (And.intro @opF_ixs (And.intro @opF_mx (And.intro @opF_eqa (And.intro @opF_fld (And.intro @opF_new (And.intro @opF_box (And.intro @opF_lit (And.intro @opF_ld (And.intro @opF_lds (And.intro @opF_st (And.intro @opF_call (And.intro @opF_app (And.intro @dopsF_nil (And.intro @dopsF_none (And.intro @dopsF_some (And.intro @dopF_p (And.intro @dopF_l (And.intro @dopF_f (And.intro @dopF_r (And.intro @dopF_u (And.intro @dopF_w (And.intro @dopF_m (And.intro @dopF_c (And.intro @dopF_g (And.intro @codeF_skip (And.intro @codeF_reg (And.intro @codeF_draw (And.intro @codeF_seq (And.intro @codeF_cond (And.intro @codeF_block (And.intro @codeF_loop (And.intro @codeF_exit (And.intro @codeF_ret (And.intro @thn_normal (And.intro @thn_exit (And.intro @thn_ret (And.intro @inBlk_normal (And.intro @inBlk_ret (And.intro @inBlk_exit (And.intro @fin_normalF (And.intro @fin_retF (And.intro @finF_eq (And.intro @putO_get (And.intro @putO_no (And.intro @ev_tmp (And.intro @ev_const (And.intro @init_zero (@init_succ))))))))))))))))))))))))))))))))))))))))))))))))))))))))))))))))))))))))))))) := And.intro @opsF_r (And.intro @dopsF_r (And.intro @codeF_drawx (And.intro @opF_callv (And.intro @dopF_cv (And.intro @ev_func (And.intro @opF_mkmap (And.intro @opF_mks (And.intro @opF_look (And.intro @opF_mset (And.intro @opF_fnl (And.intro @opF_bys (And.intro @opsF_nil (And.intro @opsF_none (And.intro @opsF_some (And.intro @opF_hop (And.intro @opF_raw (And.intro @opF_mv (And.intro @opF_pick (And.intro @opF_nilc (And.intro @opF_fa (And.intro @opF_ia (And.intro @opF_bin (And.intro @opF_eqs (And.intro @opF_nt (And.intro @opF_ext (And.intro @opF_len (And.intro @opF_bld (And.intro @opF_conv (And.intro @opF_ixs (And.intro @opF_mx (And.intro @opF_eqa (And.intro @opF_fld (And.intro @opF_new (And.intro @opF_box (And.intro @opF_lit (And.intro @opF_ld (And.intro @opF_lds (And.intro @opF_st (And.intro @opF_call (And.intro @opF_app (And.intro @dopsF_nil (And.intro @dopsF_none (And.intro @dopsF_some (And.intro @dopF_p (And.intro @dopF_l (And.intro @dopF_f (And.intro @dopF_r (And.intro @dopF_u (And.intro @dopF_w (And.intro @dopF_m (And.intro @dopF_c (And.intro @dopF_g (And.intro @codeF_skip (And.intro @codeF_reg (And.intro @codeF_draw (And.intro @codeF_seq (And.intro @codeF_cond (And.intro @codeF_block (And.intro @codeF_loop (And.intro @codeF_exit (And.intro @codeF_ret (And.intro @thn_normal (And.intro @thn_exit (And.intro @thn_ret (And.intro @inBlk_normal (And.intro @inBlk_ret (And.intro @inBlk_exit (And.intro @fin_normalF (And.intro @fin_retF (And.intro @finF_eq (And.intro @putO_get (And.intro @putO_no (And.intro @ev_tmp (And.intro @ev_const (And.intro @init_zero (@init_succ))))))))))))))))))))))))))))))))))))))))))))))))))))))))))))))))))))))))))))
theorem evQ : type_of% (And.intro @binv.eq_1 (And.intro @binv.eq_2 (And.intro @binv.eq_3 (And.intro @binv.eq_4 (And.intro @binv.eq_5 (And.intro @binv.eq_6 (And.intro @binv.eq_7 (And.intro @binv.eq_8 (And.intro @binv.eq_9 (And.intro @binv.eq_10 (And.intro @binv.eq_11 (And.intro @binv.eq_12 (And.intro @binv.eq_13 (And.intro @binv.eq_14 (And.intro @binv.eq_15 (And.intro @binv.eq_16 (And.intro @binv.eq_17 (And.intro @binv.eq_18 (And.intro @binv.eq_19 (And.intro @eqv.eq_1 (And.intro @eqv.eq_2 (And.intro @eqv.eq_3 (And.intro @eqv.eq_4 (And.intro @eqv.eq_5 (And.intro @lenv.eq_1 (And.intro @lenv.eq_2 (And.intro @fillO.eq_1 (And.intro @fillO.eq_2 (And.intro @fldv.eq_1 (And.intro @fldv.eq_2 (And.intro @Sp.eqa.eq_1 (And.intro @eqL.eq_1 (And.intro @eqL.eq_2 (And.intro @eq1.eq_1 (And.intro @eq1.eq_2 (And.intro @eq1.eq_3 (And.intro @if_true.{1} (And.intro @if_false.{1} (And.intro @eq_self.{1} (And.intro @meet_self (And.intro @meet_same (And.intro @mread_nil_s (And.intro @mread_nil_i (And.intro @mread_nil_n (And.intro @mread_mp (And.intro @mread_mp_n (And.intro @mread_im (And.intro @mread_im_n (And.intro @mread_ne (And.intro @mturn_mp_put (And.intro @mturn_mp_del (And.intro @mturn_mp_clr (And.intro @mturn_im_put (And.intro @mturn_im_del (And.intro @mturn_im_clr (And.intro @mturn_ne (And.intro @lookv_t (And.intro @lookv_f (And.intro @lf_rune_eq (And.intro @lf_clo (And.intro @lf_ifn_nil (And.intro @lf_ifn_some (And.intro @u8s_nil (And.intro @u8s_cons (And.intro @cl_map (And.intro @one_map (And.intro @Option.getD_none.{0} (And.intro @Option.isSome_none.{0} (And.intro @Option.map_some.{0,0} (And.intro @List.map_cons.{0,0} (And.intro @List.map_nil.{0,0} (And.intro @runF_eq (And.intro @someF_eq (And.intro @ptrF_eq (And.intro @boolF_eq (And.intro @sliceF_eq (And.intro @i64F_eq (And.intro @tupleF_eq (And.intro @intF_eq (And.intro @strF_eq (And.intro @condF_true (And.intro @condF_false (And.intro @guardF_bool (And.intro @guardF_not (And.intro @guardF_undef (And.intro @onPtrO_mk (And.intro @cl_int (And.intro @cl_bool (And.intro @cl_string (And.intro @cl_pointer (And.intro @cl_slice (And.intro @cl_agg (And.intro @one_int (And.intro @one_bool (And.intro @one_string (And.intro @one_pointer (And.intro @one_slice (And.intro @rd_same (And.intro @rd_row (And.intro @rd_ne (And.intro @rdn_same (And.intro @rdn_row (And.intro @rdn_ne (And.intro @wr_same (And.intro @wr_row (And.intro @wr_ne (And.intro @rval_tmp (And.intro @rval_one (And.intro @rval_agg (And.intro @rvals_nil (And.intro @rvals_cons (And.intro @whole_one (And.intro @whole_nil (And.intro @whole_two (And.intro @seg_zero (And.intro @seg_cons (And.intro @seg_skip (And.intro @upd_upd (And.intro @set_same (And.intro @set_ne (And.intro @set_set (And.intro @none_upd (And.intro @none_set (And.intro @and_imp (And.intro @not_false_eq_true (And.intro @not_true_eq_false (And.intro @List.length_cons.{0} (And.intro @List.length_nil.{0} (And.intro @List.all_cons.{0} (And.intro @List.all_nil.{0} (And.intro @List.take_succ_cons.{0} (And.intro @List.take_zero.{0} (And.intro @List.take_nil.{0} (And.intro @List.drop_succ_cons.{0} (And.intro @List.drop_zero.{0} (And.intro @List.drop_nil.{0} (And.intro @List.cons_append.{0} (And.intro @List.nil_append.{0} (And.intro @List.append_nil.{0} (And.intro @List.getElem?_cons_succ.{0} (And.intro @List.getElem?_cons_zero.{0} (And.intro @List.getElem?_toArray.{0} (And.intro @List.map_cons.{0,0} (And.intro @List.map_nil.{0,0} (And.intro @Option.bind_some.{0,0} (And.intro @Option.map_some.{0,0} (And.intro @Bool.and_true (And.intro @Bool.true_and (And.intro @Bool.and_false (And.intro @Bool.false_and (And.intro @Bool.or_true (And.intro @Bool.true_or (And.intro @Bool.or_false (And.intro @Bool.false_or (And.intro @Bool.and_self (And.intro @Nat.zero_add (And.intro @Nat.add_zero (And.intro @true_and (And.intro @and_true (And.intro @Bool.not_true (And.intro @Bool.not_false (And.intro @beq_self_eq_true.{0} (And.intro @Bool.bne_true (And.intro @Bool.bne_false (And.intro @Option.isNone_none.{0} (And.intro @Option.isNone_some.{0} (And.intro @Bool.false_eq_true (((And.intro @decide_true (And.intro @decide_false (And.intro @Bool.true_bne (And.intro @Bool.false_bne (And.intro @bne_self_eq_false.{0} (And.intro @Bool.true_beq (And.intro @Bool.false_beq (And.intro @beq_true (And.intro @beq_false (And.intro @Int.toNat_natCast (And.intro @Int.natCast_nonneg (And.intro @int_beq (And.intro @int_bne (And.intro @str_beq (And.intro @decide_not (And.intro @Int.natCast_zero (@Int.cast_ofNat_Int)))))))))))))))))))))))))))))))))))))))))))))))))))))))))))))))))))))))))))))))))))))))))))))))))))))))))))))))))))))))))))))))))))))))))))))))))))))))))))))))))))))))))))))))))))))))))) := And.intro @binv.eq_1 (And.intro @binv.eq_2 (And.intro @binv.eq_3 (And.intro @binv.eq_4 (And.intro @binv.eq_5 (And.intro @binv.eq_6 (And.intro @binv.eq_7 (And.intro @binv.eq_8 (And.intro @binv.eq_9 (And.intro @binv.eq_10 (And.intro @binv.eq_11 (And.intro @binv.eq_12 (And.intro @binv.eq_13 (And.intro @binv.eq_14 (And.intro @binv.eq_15 (And.intro @binv.eq_16 (And.intro @binv.eq_17 (And.intro @binv.eq_18 (And.intro @binv.eq_19 (And.intro @eqv.eq_1 (And.intro @eqv.eq_2 (And.intro @eqv.eq_3 (And.intro @eqv.eq_4 (And.intro @eqv.eq_5 (And.intro @lenv.eq_1 (And.intro @lenv.eq_2 (And.intro @fillO.eq_1 (And.intro @fillO.eq_2 (And.intro @fldv.eq_1 (And.intro @fldv.eq_2 (And.intro @Sp.eqa.eq_1 (And.intro @eqL.eq_1 (And.intro @eqL.eq_2 (And.intro @eq1.eq_1 (And.intro @eq1.eq_2 (And.intro @eq1.eq_3 (And.intro @if_true.{1} (And.intro @if_false.{1} (And.intro @eq_self.{1} (And.intro @meet_self (And.intro @meet_same (And.intro @mread_nil_s (And.intro @mread_nil_i (And.intro @mread_nil_n (And.intro @mread_mp (And.intro @mread_mp_n (And.intro @mread_im (And.intro @mread_im_n (And.intro @mread_ne (And.intro @mturn_mp_put (And.intro @mturn_mp_del (And.intro @mturn_mp_clr (And.intro @mturn_im_put (And.intro @mturn_im_del (And.intro @mturn_im_clr (And.intro @mturn_ne (And.intro @lookv_t (And.intro @lookv_f (And.intro @lf_rune_eq (And.intro @lf_clo (And.intro @lf_ifn_nil (And.intro @lf_ifn_some (And.intro @u8s_nil (And.intro @u8s_cons (And.intro @cl_map (And.intro @one_map (And.intro @Option.getD_none.{0} (And.intro @Option.isSome_none.{0} (And.intro @Option.map_some.{0,0} (And.intro @List.map_cons.{0,0} (And.intro @List.map_nil.{0,0} (And.intro @runF_eq (And.intro @someF_eq (And.intro @ptrF_eq (And.intro @boolF_eq (And.intro @sliceF_eq (And.intro @i64F_eq (And.intro @tupleF_eq (And.intro @intF_eq (And.intro @strF_eq (And.intro @condF_true (And.intro @condF_false (And.intro @guardF_bool (And.intro @guardF_not (And.intro @guardF_undef (And.intro @onPtrO_mk (And.intro @cl_int (And.intro @cl_bool (And.intro @cl_string (And.intro @cl_pointer (And.intro @cl_slice (And.intro @cl_agg (And.intro @one_int (And.intro @one_bool (And.intro @one_string (And.intro @one_pointer (And.intro @one_slice (And.intro @rd_same (And.intro @rd_row (And.intro @rd_ne (And.intro @rdn_same (And.intro @rdn_row (And.intro @rdn_ne (And.intro @wr_same (And.intro @wr_row (And.intro @wr_ne (And.intro @rval_tmp (And.intro @rval_one (And.intro @rval_agg (And.intro @rvals_nil (And.intro @rvals_cons (And.intro @whole_one (And.intro @whole_nil (And.intro @whole_two (And.intro @seg_zero (And.intro @seg_cons (And.intro @seg_skip (And.intro @upd_upd (And.intro @set_same (And.intro @set_ne (And.intro @set_set (And.intro @none_upd (And.intro @none_set (And.intro @and_imp (And.intro @not_false_eq_true (And.intro @not_true_eq_false (And.intro @List.length_cons.{0} (And.intro @List.length_nil.{0} (And.intro @List.all_cons.{0} (And.intro @List.all_nil.{0} (And.intro @List.take_succ_cons.{0} (And.intro @List.take_zero.{0} (And.intro @List.take_nil.{0} (And.intro @List.drop_succ_cons.{0} (And.intro @List.drop_zero.{0} (And.intro @List.drop_nil.{0} (And.intro @List.cons_append.{0} (And.intro @List.nil_append.{0} (And.intro @List.append_nil.{0} (And.intro @List.getElem?_cons_succ.{0} (And.intro @List.getElem?_cons_zero.{0} (And.intro @List.getElem?_toArray.{0} (And.intro @List.map_cons.{0,0} (And.intro @List.map_nil.{0,0} (And.intro @Option.bind_some.{0,0} (And.intro @Option.map_some.{0,0} (And.intro @Bool.and_true (And.intro @Bool.true_and (And.intro @Bool.and_false (And.intro @Bool.false_and (And.intro @Bool.or_true (And.intro @Bool.true_or (And.intro @Bool.or_false (And.intro @Bool.false_or (And.intro @Bool.and_self (And.intro @Nat.zero_add (And.intro @Nat.add_zero (And.intro @true_and (And.intro @and_true (And.intro @Bool.not_true (And.intro @Bool.not_false (And.intro @beq_self_eq_true.{0} (And.intro @Bool.bne_true (And.intro @Bool.bne_false (And.intro @Option.isNone_none.{0} (And.intro @Option.isNone_some.{0} (And.intro @Bool.false_eq_true (((And.intro @decide_true (And.intro @decide_false (And.intro @Bool.true_bne (And.intro @Bool.false_bne (And.intro @bne_self_eq_false.{0} (And.intro @Bool.true_beq (And.intro @Bool.false_beq (And.intro @beq_true (And.intro @beq_false (And.intro @Int.toNat_natCast (And.intro @Int.natCast_nonneg (And.intro @int_beq (And.intro @int_bne (And.intro @str_beq (And.intro @decide_not (And.intro @Int.natCast_zero (@Int.cast_ofNat_Int)))))))))))))))))))))))))))))))))))))))))))))))))))))))))))))))))))))))))))))))))))))))))))))))))))))))))))))))))))))))))))))))))))))))))))))))))))))))))))))))))))))))))))))))))))))))))
end Go.Sp

-- SpO
namespace Go.Sp.Open
open Go.RowKit Go.ChangeShapes Go.WideShapes
/-- How a value of a type lies in cells: so many, and these. -/
structure Kd (α : Type) where
  sz : Nat
  K : World → α → List Value → Prop
def Kd.int (k : IntKind) : Kd Int := ⟨1, fun _ n cs => cs = [.int k n]⟩
def Kd.bool : Kd Bool := ⟨1, fun _ b cs => cs = [.bool b]⟩
def Kd.string : Kd ByteArray := ⟨1, fun _ s cs => cs = [.string s]⟩
def Kd.pair {α β : Type} (a : Kd α) (b : Kd β) : Kd (α × β) := ⟨a.sz + b.sz, fun w x cs => ∃ c1 c2, cs = c1 ++ c2 ∧ a.K w x.1 c1 ∧ b.K w x.2 c2⟩
def Kd.C {α : Type} (d : Kd α) (w : World) (A : Option Addr) (xs : List α) : Prop := ∀ j x, xs[j]? = some x → ∃ a, A = some a ∧ ∃ cs, cs.length = d.sz ∧ d.K w x cs ∧ ∀ i u, cs[i]? = some u → w.cell? (a.add (j * d.sz + i)) = some u
def Kd.slice {α : Type} (d : Kd α) : Kd (List α) := ⟨1, fun w xs cs => ∃ A c, cs = [.slice A xs.length c] ∧ xs.length ≤ c ∧ d.C w A xs⟩
/-- The kind of a structure of mine, out of its cells. -/
def Kd.of {α : Type} (n : Nat) (f : α → List Value) : Kd α := ⟨n, fun _ x cs => cs = f x⟩

def Small {H : Type} (P : Program) (t : TypeId) (d : DataW H) : Prop := ∀ n ∈ d.weights P t, n ≤ 140737488351232
def Opens (P : Program) (t : TypeId) {α : Type} (d : Kd α) (G : α → Prop) : Prop :=
  ∀ (H : Type) (enc : TypeId × Value → H) (w : World) (base : Nat) (spare : Nat → Bool) (held : Bool) (fuel : Nat) (cs : List Value) (x : DataW H × List MemPlace),
    DataW.trod enc P w base spare held fuel t cs = some x → Small P t x.1 → ∃ a : α, d.K w a cs ∧ G a

theorem opens_int {P : Program} {t : TypeId} {k : IntKind} (ht : P.underlying t = some (.int k)) : Opens P t (Kd.int k) (fun n => (Lit.int k n).wf = true) := by
  intro H enc w base spare held fuel cs x h _
  obtain ⟨n, rfl, _, hw⟩ := DataW.trod_int ht h
  exact ⟨n, rfl, hw⟩
theorem opens_bool {P : Program} {t : TypeId} (ht : P.underlying t = some .bool) : Opens P t Kd.bool (fun _ => True) := by
  intro H enc w base spare held fuel cs x h _
  obtain ⟨b, rfl, _⟩ := DataW.trod_bool ht h
  exact ⟨b, rfl, trivial⟩
theorem opens_string {P : Program} {t : TypeId} (ht : P.underlying t = some .string) : Opens P t Kd.string (fun s => s.size ≤ 140737488351232) := by
  intro H enc w base spare held fuel cs x h hs
  obtain ⟨s, rfl, rfl, _⟩ := DataW.trod_string ht h
  refine ⟨s, rfl, ?_⟩
  have := hs s.data.toList.length (by simp [DataW.weights])
  rwa [Array.length_toList] at this
theorem mem_weightsAll {H : Type} {P : Program} {e : TypeId} {d : DataW H} : ∀ {l : List (DataW H)}, d ∈ l → ∀ n ∈ d.weights P e, n ∈ DataW.weightsAll P e l
  | _ :: l, h, n, hn => by
    unfold DataW.weightsAll
    rcases List.mem_cons.1 h with h | h
    · subst h
      exact List.mem_append_left _ hn
    · exact List.mem_append_right _ (mem_weightsAll h n hn)
theorem mapM_get {α : Type} {f : Nat → Option α} : ∀ {l : List Nat} {cs : List α}, l.mapM f = some cs → cs.length = l.length ∧ ∀ (j i : Nat), l[j]? = some i → f i = cs[j]?
  | [], cs, h => by
    simp at h
    subst h
    exact ⟨rfl, fun j i hj => by simp at hj⟩
  | a :: l, cs, h => by
    rw [List.mapM_cons] at h
    cases ha : f a with
    | none => simp [ha] at h
    | some c =>
      cases hl : l.mapM f with
      | none => simp [ha, hl] at h
      | some r =>
        simp [ha, hl] at h
        subst h
        obtain ⟨h1, h2⟩ := mapM_get hl
        refine ⟨by simp [h1], fun j i hj => ?_⟩
        cases j with
        | zero => simp at hj; subst hj; simpa using ha
        | succ j => simp at hj; simpa using h2 j i hj
theorem cells_get {w : World} {base : Nat} {a : Addr} {n : Nat} {cs : List Value} (h : w.cells? base a n = some cs) : cs.length = n ∧ ∀ j u, cs[j]? = some u → w.cell? (a.add j) = some u := by
  unfold World.cells? at h
  split at h
  · obtain ⟨h1, h2⟩ := mapM_get h
    simp only [List.length_range] at h1
    refine ⟨h1, fun j u hu => ?_⟩
    have hj : j < n := by have := (List.getElem?_eq_some_iff.1 hu).1; omega
    rw [h2 j j (by simp [hj]), hu]
  · cases h
theorem gather {α : Type} {Q : Nat → α → Prop} : ∀ {n : Nat}, (∀ i, i < n → ∃ a, Q i a) → ∃ xs : List α, xs.length = n ∧ ∀ i p, xs[i]? = some p → Q i p
  | 0, _ => ⟨[], rfl, fun i p hp => by simp at hp⟩
  | n + 1, one => by
    obtain ⟨xs, h1, h2⟩ := gather (n := n) (fun i hi => one i (by omega))
    obtain ⟨p, hp⟩ := one n (by omega)
    refine ⟨xs ++ [p], by simp [h1], fun i q hq => ?_⟩
    by_cases hi : i < n
    · rw [List.getElem?_append_left (by omega)] at hq
      exact h2 i q hq
    · have hi2 : i = n := by
        have := (List.getElem?_eq_some_iff.1 hq).1
        simp at this
        omega
      subst hi2
      rw [List.getElem?_append_right (by omega), h1] at hq
      simp at hq
      subst hq
      exact hp
theorem add_add (a : Addr) (i j : Nat) : (a.add i).add j = a.add (i + j) := by
  unfold Addr.add
  by_cases h : i = 0 <;> by_cases h2 : j = 0 <;> simp_all <;> omega
theorem opens_slice {P : Program} {t e : TypeId} {α : Type} {d : Kd α} {G : α → Prop} (B : Nat) (ht : P.underlying t = some (.slice e)) (hc : P.cellsOf e = d.sz) (hB : P.bytesOf e = B) (he : Opens P e d G) :
    Opens P t (Kd.slice d) (fun xs => xs.length * B ≤ 140737488351232 ∧ ∀ x ∈ xs, G x) := by
  intro H enc w base spare held fuel cs x h hs
  rcases DataW.trod_slice ht h with ⟨rfl, rfl⟩ | ⟨a, len, cap, elems, rest, n, _, rfl, rfl, _, hl, hm, hlen, hel, _, _⟩
  · exact ⟨[], ⟨none, 0, rfl, Nat.le_refl _, fun j x hx => by simp at hx⟩, by simp, fun x hx => by cases hx⟩
  · have hw : ((elems.map (·.1)).length + (rest.map (·.1)).length) * P.bytesOf e ≤ 140737488351232 := hs _ (by simp [DataW.weights, ht])
    have each : ∀ y ∈ elems, Small P e y.1 := fun y hy m hm2 => hs m (by
      simp only [DataW.weights, ht]
      exact List.mem_cons_of_mem _ (List.mem_append_left _ (mem_weightsAll (List.mem_map_of_mem hy) m hm2)))
    have one : ∀ i, i < len → ∃ a' : α, (∃ c, c.length = d.sz ∧ d.K w a' c ∧ ∀ j u, c[j]? = some u → w.cell? (a.add (i * d.sz + j)) = some u) ∧ G a' := by
      intro i hi
      have h1 := hel i hi
      rw [List.getElem?_eq_getElem (by omega)] at h1
      obtain ⟨c, hc1, hc2⟩ := Option.bind_eq_some_iff.1 h1
      obtain ⟨hl1, hcell⟩ := cells_get hc1
      obtain ⟨a', hk, hg⟩ := he H enc w base spare held n c _ hc2 (each _ (List.getElem_mem _))
      refine ⟨a', ⟨c, by rw [hl1, hc], hk, fun j u hu => ?_⟩, hg⟩
      rw [← add_add, ← hc]
      exact hcell j u hu
    obtain ⟨xs, hx1, hx2⟩ := gather one
    refine ⟨xs, ⟨some a, cap, by rw [hx1], by omega, fun j p hp => ⟨a, rfl, (hx2 j p hp).1⟩⟩, ?_, fun x hx => ?_⟩
    · rw [hB] at hw
      simp only [List.length_map] at hw
      exact Nat.le_trans (Nat.mul_le_mul_right _ (by omega)) hw
    · obtain ⟨i, hi, rfl⟩ := List.getElem_of_mem hx
      exact (hx2 i _ (List.getElem?_eq_getElem hi)).2
theorem opens_iso {P : Program} {t : TypeId} {α β : Type} {d : Kd α} {d' : Kd β} {G : α → Prop} {G' : β → Prop} (f : α → β) (hK : ∀ w a cs, d.K w a cs → d'.K w (f a) cs) (hG : ∀ a, G a → G' (f a)) (h : Opens P t d G) : Opens P t d' G' := by
  intro H enc w base spare held fuel cs x hx hs
  obtain ⟨a, hk, hg⟩ := h H enc w base spare held fuel cs x hx hs
  exact ⟨f a, hK w a cs hk, hG a hg⟩
/-- The fields of a struct from the offset o on. -/
def OpensF (P : Program) (fs : List Field) (o : Nat) {α : Type} (d : Kd α) (G : α → Prop) : Prop :=
  ∀ (H : Type) (enc : TypeId × Value → H) (w : World) (base : Nat) (spare : Nat → Bool) (held : Bool) (n : Nat) (cs : List Value) (xs : List (DataW H × List MemPlace)),
    cs.length = o + d.sz → xs.length = fs.length → (∀ (i : Nat) (f : Field), fs[i]? = some f → DataW.trod enc P w base spare held n f.type ((cs.drop f.offset).take (P.cellsOf f.type)) = xs[i]?) →
    (∀ m ∈ DataW.weightsEach P (fs.map (·.type)) (xs.map (·.1)), m ≤ 140737488351232) → ∃ a : α, d.K w a (cs.drop o) ∧ G a
theorem opensF_one {P : Program} {f : Field} {o : Nat} {α : Type} {d : Kd α} {G : α → Prop} (ho : f.offset = o) (hc : P.cellsOf f.type = d.sz) (h : Opens P f.type d G) : OpensF P [f] o d G := by
  intro H enc w base spare held n cs xs hl hx hf hw
  match xs, hx with
  | [y], _ =>
    have h0 : DataW.trod enc P w base spare held n f.type ((cs.drop f.offset).take (P.cellsOf f.type)) = some y := by simpa using hf 0 f rfl
    rw [ho, hc, List.take_of_length_le (by rw [List.length_drop]; omega)] at h0
    exact h H enc w base spare held n _ _ h0 (fun m hm => hw m (by simp [DataW.weightsEach, hm]))
theorem opensF_cons {P : Program} {f : Field} {fs : List Field} {o : Nat} {α β : Type} {a : Kd α} {b : Kd β} {G : α → Prop} {G' : β → Prop} (ho : f.offset = o) (hc : P.cellsOf f.type = a.sz) (h : Opens P f.type a G) (hr : OpensF P fs (o + a.sz) b G') :
    OpensF P (f :: fs) o (Kd.pair a b) (fun x => G x.1 ∧ G' x.2) := by
  intro H enc w base spare held n cs xs hl hx hf hw
  have hl' : cs.length = o + (a.sz + b.sz) := hl
  match xs, hx with
  | y :: ys, hx =>
    have h0 : DataW.trod enc P w base spare held n f.type ((cs.drop f.offset).take (P.cellsOf f.type)) = some y := by simpa using hf 0 f rfl
    rw [ho, hc] at h0
    obtain ⟨x0, hk0, hg0⟩ := h H enc w base spare held n _ _ h0 (fun m hm => hw m (by simp [DataW.weightsEach, hm]))
    obtain ⟨x1, hk1, hg1⟩ := hr H enc w base spare held n cs ys (by omega) (by simpa using hx) (fun i g hi => by simpa using hf (i + 1) g (by simpa using hi)) (fun m hm => hw m (by simp only [List.map_cons, DataW.weightsEach]; exact List.mem_append_right _ hm))
    refine ⟨(x0, x1), ⟨(cs.drop o).take a.sz, cs.drop (o + a.sz), ?_, hk0, hk1⟩, hg0, hg1⟩
    rw [← List.drop_drop]
    exact (List.take_append_drop _ _).symm
theorem opens_struct {P : Program} {t : TypeId} {fs : Array Field} {α : Type} {d : Kd α} {G : α → Prop} (ht : P.underlying t = some (.struct fs)) (hc : P.cellsOf t = d.sz) (h : OpensF P fs.toList 0 d G) : Opens P t d G := by
  intro H enc w base spare held fuel cs x hx hs
  obtain ⟨xs, n, _, rfl, hl, hlen, hf⟩ := DataW.trod_struct ht hx
  obtain ⟨a, hk, hg⟩ := h H enc w base spare held n cs xs (by rw [hl, hc]; omega) (by simpa using hlen) (fun i f hi => hf i f (by simpa using hi)) (fun m hm => hs m (by simpa [DataW.weights, ht] using hm))
  exact ⟨a, by simpa using hk, hg⟩
/-- Argument j's weights out of the row's. -/
theorem small_arg {H : Type} {P : Program} {ts : List TypeId} {ds : List (DataW H)} (hsz : (DataW.weightsEach P ts ds).all (· ≤ reachBytes) = true) {j : Nat} {t : TypeId} {d : DataW H} (ht : ts[j]? = some t) (hd : ds[j]? = some d) : Small P t d := by
  intro n hn
  have := List.all_eq_true.1 hsz _ (DataW.weights_mem_each ht hd n hn)
  have h2 : n ≤ reachBytes := by simpa using this
  exact h2
theorem arg_slice {H : Type} {enc : TypeId × Value → H} {P : Program} {w : World} {r : Reach} {b0 base : Nat} {spare : Nat → Bool} {held : Bool} {t e : TypeId} {α : Type} {d : Kd α} {G : List α → Prop} {v : Value} {x : DataW H} {p : List MemPlace} (ho : Opens P t (Kd.slice d) G) (ht : P.underlying t = some (.slice e)) (hv : Value.okWide P w r b0 t v) (h : DataW.Trod enc P w base spare held t v x p) (hs : Small P t x) :
    ∃ (A : Option Addr) (c : Nat) (xs : List α), v = .slice A xs.length c ∧ xs.length ≤ c ∧ d.C w A xs ∧ G xs := by
  obtain ⟨a, len, cap, rfl⟩ := okWide_slice ht hv
  obtain ⟨fuel, hf⟩ := h
  obtain ⟨xs, ⟨A, c, he, hl, hk⟩, hg⟩ := ho H enc w base spare held fuel _ _ hf hs
  simp [Value.cells] at he
  obtain ⟨rfl, rfl, rfl⟩ := he
  exact ⟨_, _, xs, rfl, hl, hk, hg⟩
/-- All that a world holds, to be read alone. -/
def full (w : World) : Hp := fun k => (w.heap[k]?).map Blk.ro
theorem full_sat (w : World) : Sat (full w) w := fun b o h => by
  unfold full at h
  cases hb : w.heap[b]? with
  | none => rw [hb] at h; cases h
  | some x => rw [hb] at h; cases h; exact rfl
/-- From the known heap to the world. -/
theorem calls_row {P : Program} {f : FuncId} {args : Array Value} {w : World} (h : ACalls P f args (full w) fun v σ' => v = .bool true ∧ σ' = full w) : Calls P f args w fun e w' => e = .returned (.bool true) ∧ Below w.heap.size w w' := by
  refine (h w (full_sat w)).mono ?_
  rintro e w' ⟨v, σ', rfl, hs, hf, rfl, rfl⟩
  refine ⟨rfl, hf.os, hf.tape, hf.output, hf.size, fun k hk => ?_⟩
  have : full w k = some (.ro w.heap[k]) := by unfold full; rw [Array.getElem?_eq_getElem hk]; rfl
  have h1 : w'.heap[k]? = some w.heap[k] := hs k _ this
  rw [h1, Array.getElem?_eq_getElem hk]
theorem ro_rows {α : Type} {n : Nat} {f : α → List Value} {w : World} {A : Option Addr} {c : Nat} {xs : List α} (hn : 0 < n) (h : (Kd.of n f).C w A xs) : RoRows n f (full w) (.slice A xs.length c) xs := by
  refine ⟨A, c, rfl, fun i x hx => ?_⟩
  obtain ⟨a, rfl, cs, hl, rfl, hc⟩ := h i x hx
  have hl : (f x).length = n := hl
  obtain ⟨b, o, sp⟩ := a
  have h0 := hc 0 (f x)[0] (List.getElem?_eq_getElem (by omega))
  have hx0 : ∃ y, xs[0]? = some y := ⟨_, List.getElem?_eq_getElem (by have := (List.getElem?_eq_some_iff.1 hx).1; omega)⟩
  obtain ⟨y, hy⟩ := hx0
  obtain ⟨a2, e2, cs2, hl2, rfl, hc2⟩ := h 0 y hy
  cases e2
  have hl2 : (f y).length = n := hl2
  have h00 := hc2 0 (f y)[0] (List.getElem?_eq_getElem (by omega))
  have hsp : sp = none := by
    cases sp with
    | none => rfl
    | some q =>
      have e : (⟨b, o, some q⟩ : Addr).add (0 * (Kd.of n f).sz + 0) = ⟨b, o, some q⟩ := by simp [Addr.add]
      rw [e] at h00
      simp only [World.cell?, Option.isSome_some, if_true] at h00
      split at h00 <;> cases h00
  subst hsp
  have hb : ∃ c2 t fr, w.heap[b]? = some (.cells c2 t fr) := by
    rw [addr_add] at h0
    unfold World.cell? at h0
    split at h0
    · exact ⟨_, _, _, by assumption⟩
    · cases h0
  obtain ⟨c2, t, fr, hb⟩ := hb
  have hget : ∀ j u, (f x)[j]? = some u → c2[o + (i * n + j)]? = some u := fun j u hu => by
    have := hc j u hu
    rw [addr_add] at this
    simpa [World.cell?, hb, Kd.of] using this
  refine ⟨b, o, rfl, ?_⟩
  have e : full w b = some (.ro (.cells c2 t fr)) := by unfold full; rw [hb]; rfl
  unfold rdn
  rw [e]
  show seg c2.toList (o + i * n) n = some (f x)
  have hlast := hget (n - 1) (f x)[n - 1] (List.getElem?_eq_getElem (by omega))
  have hsz := (Array.getElem?_eq_some_iff.1 hlast).1
  unfold seg
  rw [if_pos (by simp; omega)]
  congr 1
  apply List.ext_getElem?
  intro j
  by_cases hj : j < n
  · rw [List.getElem?_take_of_lt hj, List.getElem?_drop]
    have := hget j (f x)[j] (List.getElem?_eq_getElem (by omega))
    rw [List.getElem?_eq_getElem (l := f x) (by omega), ← this]
    simp [Nat.add_assoc]
  · rw [List.getElem?_eq_none (by simp; omega), List.getElem?_eq_none (by omega)]
end Go.Sp.Open

-- SpK
namespace Go.Sp
theorem RowsAt.known {α : Type} {E sz : Nat} {f : α → List Value} {σ : Hp} {v : Value} {l : List α} (h : RowsAt E sz f σ v l) {k : Nat} (hk : blk v = some k) : σ k ≠ none := by
  rcases h with ⟨rfl, _⟩ | ⟨b, c, rfl, _, hb⟩
  · cases hk
  · cases hk; rw [hb]; simp
theorem splice_nil (cs : List Value) (o : Nat) : splice cs o [] = cs := by simp [splice]
theorem splice_zero (c v : Value) (cs vs : List Value) : splice (c :: cs) 0 (v :: vs) = v :: splice cs 0 vs := by simp [splice, Nat.add_comm]
theorem splice_skip (c : Value) (cs vs : List Value) (o : Nat) : splice (c :: cs) (o + 1) vs = c :: splice cs o vs := by
  simp only [splice, List.take_succ_cons, List.cons_append]
  rw [show o + 1 + vs.length = (o + vs.length) + 1 by omega, List.drop_succ_cons]
end Go.Sp

-- SpL
namespace Go.Sp
open Go.RowKit (Below)
/-- The block of v is not known to σ. -/
def New (σ : Hp) (v : Value) : Prop := ∀ k, blk v = some k → σ k = none
theorem Same.at {F : Nat → Prop} {σ σ' : Hp} {g : Nat} {o : Blk} (h : Same F σ σ') (hg : σ g = some o) (hf : ¬ F g) : σ' g = some o := (h g (by rw [hg]; simp) hf).trans hg
def off (σ : Hp) (g : Nat) : Hp := fun k => if k = g then none else σ k
theorem off_none (σ : Hp) (g : Nat) : off σ g g = none := by simp [off]
theorem off_upd {σ : Hp} {g : Nat} {o : Blk} (h : σ g = some o) : σ = upd (off σ g) g o := by
  funext k; by_cases e : k = g
  · subst e; simp [upd, h]
  · simp [upd, off, e]
theorem Sub.noneAt {τ σ : Hp} {b : Nat} (h : Sub τ σ) (hb : σ b = none) : τ b = none := (h b).elim id fun e => e.trans hb
theorem Sub.same {τ σ σ' : Hp} {F : Nat → Prop} (h : Sub τ σ) (s : Same F σ σ') (hF : ∀ k, F k → τ k = none) : Sub τ σ' := fun k => by
  rcases h k with e | e
  · exact .inl e
  · by_cases hf : F k
    · exact .inl (hF k hf)
    · by_cases hs : σ k = none
      · exact .inl (e.trans hs)
      · exact .inr (e.trans (s k hs hf).symm)
theorem RowsAt.ro {α : Type} {E sz : Nat} {f : α → List Value} (hf : ∀ x, (f x).length = sz) {σ : Hp} {v : Value} {l : List α} (h : RowsAt E sz f σ v l) : RoRows sz f σ v l := by
  rcases h with ⟨rfl, rfl⟩ | ⟨b, c, rfl, _, hb⟩
  · exact ⟨none, 0, rfl, fun i x hx => by simp at hx⟩
  · refine ⟨some ⟨b, 0, none⟩, c, rfl, fun i x hx => ⟨b, 0, rfl, ?_⟩⟩
    unfold rdn
    rw [hb]
    show seg _ (0 + i * sz) sz = _
    have := seg_flat hf hx 0 sz (by omega)
    rw [Nat.add_zero] at this
    rw [Nat.zero_add, this]
    have e := seg_all (f x)
    rw [hf] at e
    exact e
theorem Same.sub {τ σ : Hp} (h : Same (fun _ => False) τ σ) : Sub τ σ := fun k => by
  by_cases e : τ k = none
  · exact .inl e
  · exact .inr (h k e (fun x => x)).symm
theorem seg_part {cs vs : List Value} {o n : Nat} (h : seg cs o n = some vs) (i m : Nat) (hm : i + m ≤ n) : seg cs (o + i) m = some ((vs.drop i).take m) := by
  unfold seg at h ⊢
  split at h
  · cases h
    rw [if_pos (by omega), List.drop_take, List.take_take, List.drop_drop, Nat.min_eq_left (by omega)]
  · cases h
theorem rdn_part {σ : Hp} {b o n : Nat} {vs : List Value} (h : rdn σ b o n = some vs) (i m : Nat) (hm : i + m ≤ n) : rdn σ b (o + i) m = some ((vs.drop i).take m) := by
  unfold rdn at *
  generalize σ b = q at *
  split at h
  · exact seg_part h i m hm
  · exact seg_part h i m hm
  · exact seg_part h i m hm
  · cases h
theorem rd_of_rdn {σ : Hp} {b o : Nat} {v : Value} (h : rdn σ b o 1 = some [v]) : rd σ b o = some v := by
  have key : ∀ cs : List Value, seg cs o 1 = some [v] → cs[o]? = some v := fun cs h => by
    unfold seg at h
    split at h
    · rename_i hl
      have e : (cs.drop o).take 1 = [v] := Option.some.inj h
      have : ((cs.drop o).take 1)[0]? = some v := by rw [e]; rfl
      rw [List.getElem?_take_of_lt (by omega), List.getElem?_drop] at this
      simpa using this
    · cases h
  unfold rdn at h
  unfold rd
  generalize σ b = q at *
  cases q with
  | none => cases h
  | some x =>
    cases x with
    | cells cs t => exact key _ h
    | row cs r t => exact key _ h
    | dead => cases h
    | ro o =>
      cases o with
      | cells cs t fr =>
        have := key _ h
        simpa using this
      | _ => cases h
    | mp l => cases h
    | im l => cases h
theorem rd_part {σ : Hp} {b o n : Nat} {vs : List Value} (h : rdn σ b o n = some vs) (i : Nat) {v : Value} (hv : vs[i]? = some v) : rd σ b (o + i) = some v := by
  have hl := rdn_len h
  have hi : i < vs.length := (List.getElem?_eq_some_iff.1 hv).1
  have := rdn_part h i 1 (by omega)
  refine rd_of_rdn (this.trans ?_)
  rw [List.drop_eq_getElem_cons hi]
  rw [List.getElem?_eq_getElem hi] at hv
  cases hv; rfl
/-- An element of rows that are only read. -/
theorem RoRows.get {α : Type} {sz : Nat} {f : α → List Value} {σ : Hp} {A : Option Addr} {n c : Nat} {l : List α} (h : RoRows sz f σ (.slice A n c) l) {i : Nat} (hi : i < l.length) : ∃ b o, A = some ⟨b, o, none⟩ ∧ rdn σ b (o + i * sz) sz = some (f l[i]) := by
  obtain ⟨A', c', e, h⟩ := h
  cases e
  exact h i _ (List.getElem?_eq_getElem hi)
theorem RoRows.len {α : Type} {sz : Nat} {f : α → List Value} {σ : Hp} {A : Option Addr} {n c : Nat} {l : List α} (h : RoRows sz f σ (.slice A n c) l) : n = l.length := by
  obtain ⟨A', c', e, _⟩ := h
  cases e; rfl
end Go.Sp

-- XT1
namespace Go.Proofs.Ytpnghjmphbhkjaa
open Go.Sp
set_option maxRecDepth 100000
def c3_b0 : C := (.seq (.reg [(rO 13 (.mv (.const (.int .i64 0))))])
 (.block 0 (.loop (.seq (.seq (.reg [(rO 70 (.mv (.tmp 13))),
 (rO 71 (.mv (.tmp 0))),
 (rO 72 (.len true (.tmp 71))),
 (rO 73 (.bin .lss (.tmp 70) (.tmp 72)))])
 (.cond (.tmp 73) .skip
 (.exit 0)))
 (.seq (.block 1 (.seq (.reg [(rO 77 (.mv (.tmp 7))),
 (rO 78 (.mv (.tmp 0))),
 (rO 79 (.mv (.tmp 13))),
 (rO 80 (.ia 1 (.tmp 78) (.tmp 79))),
 (rO 81 (.ld none (.tmp 80))),
 (rO 82 (.call 9 [(.tmp 77), (.tmp 81)])),
 (rO 76 (.mv (.tmp 82))),
 (rO 83 (.ext 0 (.tmp 76))),
 (rO 84 (.ext 1 (.tmp 76))),
 (rO 14 (.mv (.tmp 83))),
 (rO 15 (.mv (.tmp 84)))])
 (.seq (.seq (.reg [(rO 85 (.mv (.tmp 15))),
 (rO 86 (.bin .neq (.tmp 85) (.const (.int .i64 0))))])
 (.cond (.tmp 86) (.exit 1)
 .skip))
 (.seq (.reg [(rO 88 (.mv (.tmp 8))),
 (rO 89 (.mv (.tmp 0))),
 (rO 90 (.mv (.tmp 13))),
 (rO 91 (.ia 1 (.tmp 89) (.tmp 90))),
 (rO 92 (.ld none (.tmp 91))),
 (rO 93 (.call 11 [(.tmp 92)])),
 (rO 94 (.call 10 [(.tmp 88), (.tmp 93)])),
 (rO 87 (.mv (.tmp 94))),
 (rO 95 (.ext 0 (.tmp 87))),
 (rO 96 (.ext 1 (.tmp 87))),
 (rO 16 (.mv (.tmp 95))),
 (rO 17 (.mv (.tmp 96)))])
 (.seq (.reg [(rO 97 (.mv (.tmp 17))),
 (rO 98 (.bin .neq (.tmp 97) (.const (.int .i64 0)))),
 (rO 99 (.mv (.tmp 98))),
 ⟨(some 100), (.mv (.tmp 14)), (some (99, false))⟩,
 ⟨(some 101), (.mv (.tmp 16)), (some (99, false))⟩,
 ⟨(some 102), (.bin .neq (.tmp 100) (.tmp 101)), (some (99, false))⟩,
 (rO 103 (.pick (.tmp 99) (.const (.bool true)) (.tmp 102)))])
 (.cond (.tmp 103) (.seq (.reg [(rO 6 (.mv (.const (.bool false))))])
 .ret)
 .skip))))))
 (.reg [(rO 74 (.mv (.tmp 13))),
 (rO 75 (.bin .add (.tmp 74) (.const (.int .i64 1)))),
 (rO 13 (.mv (.tmp 75)))]))))))
def c3_t0 : C := (.seq (.reg [(rO 105 (.mv (.tmp 7))),
 (rO 106 (.mv (.tmp 1))),
 (rO 107 (.mv (.tmp 2))),
 (rO 108 (.conv .i64 (.tmp 107))),
 (rO 109 (.call 12 [(.tmp 105), (.tmp 106), (.tmp 108)])),
 (rO 104 (.mv (.tmp 109))),
 (rO 110 (.ext 0 (.tmp 104))),
 (rO 111 (.ext 1 (.tmp 104))),
 (rO 18 (.new 39 [.string ⟨#[]⟩, .bool false, .string ⟨#[]⟩, .int .i64 (0), .int .i64 (0)])),
 ⟨none, (.st 5 (.tmp 18) (.tmp 110)), none⟩,
 (rO 19 (.mv (.tmp 111)))])
 (.seq (.seq (.reg [(rO 112 (.mv (.tmp 19))),
 (rO 113 (.bin .neq (.tmp 112) (.const (.int .i64 0))))])
 (.cond (.tmp 113) (.seq (.reg [(rO 114 (.mv (.tmp 1))),
 (rO 115 (.len false (.tmp 114))),
 (rO 116 (.bin .lss (.tmp 115) (.const (.int .i64 1)))),
 (rO 117 (.mv (.tmp 116))),
 ⟨(some 118), (.mv (.tmp 1)), (some (117, false))⟩,
 ⟨(some 119), (.len false (.tmp 118)), (some (117, false))⟩,
 ⟨(some 120), (.bin .gtr (.tmp 119) (.const (.int .i64 32))), (some (117, false))⟩,
 (rO 121 (.pick (.tmp 117) (.const (.bool true)) (.tmp 120))),
 (rO 122 (.mv (.tmp 121))),
 ⟨(some 123), (.mv (.tmp 2)), (some (122, false))⟩,
 ⟨(some 124), (.conv .i64 (.tmp 123)), (some (122, false))⟩,
 ⟨(some 125), (.mv (.tmp 8)), (some (122, false))⟩,
 ⟨(some 126), (.call 13 [(.tmp 125)]), (some (122, false))⟩,
 ⟨(some 127), (.bin .gtr (.tmp 124) (.tmp 126)), (some (122, false))⟩,
 (rO 128 (.pick (.tmp 122) (.const (.bool true)) (.tmp 127))),
 (rO 6 (.mv (.tmp 128)))])
 .ret)
 .skip))
 (.seq (.reg [(rO 130 (.mv (.tmp 8))),
 (rO 131 (.mv (.tmp 1))),
 (rO 132 (.mv (.tmp 2))),
 (rO 133 (.conv .i64 (.tmp 132))),
 (rO 134 (.call 14 [(.tmp 130), (.tmp 131), (.tmp 133)])),
 (rO 129 (.mv (.tmp 134))),
 (rO 135 (.ext 0 (.tmp 129))),
 (rO 136 (.ext 1 (.tmp 129))),
 (rO 20 (.mv (.tmp 135))),
 (rO 21 (.mv (.tmp 136)))])
 (.seq (.seq (.reg [(rO 137 (.mv (.tmp 21))),
 (rO 138 (.fa 4 (.tmp 18))),
 (rO 139 (.ld none (.tmp 138))),
 (rO 140 (.bin .neq (.tmp 139) (.const (.int .i64 4611686018427387904)))),
 (rO 141 (.eqs true .bool (.tmp 137) (.tmp 140))),
 (rO 142 (.mv (.tmp 141))),
 ⟨(some 143), (.mv (.tmp 21)), (some (142, false))⟩,
 ⟨(some 144), (.mv (.tmp 143)), (some (142, false))⟩,
 ⟨(some 145), (.mv (.tmp 20)), (some (144, true))⟩,
 ⟨(some 146), (.fa 4 (.tmp 18)), (some (144, true))⟩,
 ⟨(some 147), (.ld none (.tmp 146)), (some (144, true))⟩,
 ⟨(some 148), (.bin .neq (.tmp 145) (.tmp 147)), (some (144, true))⟩,
 ⟨(some 149), (.pick (.tmp 144) (.tmp 148) (.const (.bool false))), (some (142, false))⟩,
 (rO 150 (.pick (.tmp 142) (.const (.bool true)) (.tmp 149)))])
 (.cond (.tmp 150) (.seq (.reg [(rO 6 (.mv (.const (.bool false))))])
 .ret)
 .skip))
 (.seq (.seq (.reg [(rO 151 (.fa 3 (.tmp 18))),
 (rO 152 (.ld none (.tmp 151))),
 (rO 153 (.bin .eql (.tmp 152) (.const (.int .i64 0))))])
 (.cond (.tmp 153) (.seq (.reg [(rO 155 (.mv (.tmp 8))),
 (rO 156 (.mv (.tmp 1))),
 (rO 157 (.call 14 [(.tmp 155), (.tmp 156), (.const (.int .i64 0))])),
 (rO 154 (.mv (.tmp 157))),
 (rO 158 (.ext 0 (.tmp 154))),
 (rO 159 (.ext 1 (.tmp 154))),
 (rO 22 (.mv (.tmp 158))),
 (rO 23 (.mv (.tmp 159)))])
 (.seq (.reg [(rO 160 (.mv (.tmp 23))),
 (rO 161 (.nt (.tmp 160))),
 (rO 162 (.mv (.tmp 161))),
 ⟨(some 163), (.mv (.tmp 22)), (some (162, false))⟩,
 ⟨(some 164), (.mv (.tmp 2)), (some (162, false))⟩,
 ⟨(some 165), (.conv .i64 (.tmp 164)), (some (162, false))⟩,
 ⟨(some 166), (.bin .gtr (.tmp 163) (.tmp 165)), (some (162, false))⟩,
 (rO 167 (.pick (.tmp 162) (.const (.bool true)) (.tmp 166))),
 (rO 6 (.mv (.tmp 167)))])
 .ret))
 .skip))
 (.seq (.reg [(rO 169 (.mv (.tmp 8))),
 (rO 170 (.mv (.tmp 1))),
 (rO 171 (.fa 3 (.tmp 18))),
 (rO 172 (.ld none (.tmp 171))),
 (rO 173 (.bin .sub (.tmp 172) (.const (.int .i64 1)))),
 (rO 174 (.call 14 [(.tmp 169), (.tmp 170), (.tmp 173)])),
 (rO 168 (.mv (.tmp 174))),
 (rO 175 (.ext 0 (.tmp 168))),
 (rO 176 (.ext 1 (.tmp 168))),
 (rO 24 (.mv (.tmp 175))),
 (rO 25 (.mv (.tmp 176)))])
 (.seq (.reg [(rO 177 (.mv (.tmp 25))),
 (rO 178 (.mv (.tmp 177))),
 ⟨(some 179), (.mv (.tmp 24)), (some (178, true))⟩,
 ⟨(some 180), (.fa 3 (.tmp 18)), (some (178, true))⟩,
 ⟨(some 181), (.ld none (.tmp 180)), (some (178, true))⟩,
 ⟨(some 182), (.bin .eql (.tmp 179) (.tmp 181)), (some (178, true))⟩,
 (rO 183 (.pick (.tmp 178) (.tmp 182) (.const (.bool false)))),
 (rO 6 (.mv (.tmp 183)))])
 .ret)))))))
def c3_s0 : C := .seq c3_b0 c3_t0
/-- vouch/vouchtop.WholeLogs -/
def c3 : C := (.seq (.reg [(rO 6 (.mv (.const (.bool false))))])
 (.seq (.reg [(rO 26 (.call 7 [(.const (.int .i64 64))])),
 (rO 27 (.call 8 [])),
 (rO 7 (.mv (.tmp 26))),
 (rO 8 (.mv (.tmp 27)))])
 (.seq (.seq (.reg [(rO 28 (.mv (.tmp 7))),
 (rO 29 (.eqs false .ptr (.tmp 28) (.const (.pointer none)))),
 (rO 30 (.mv (.tmp 29))),
 ⟨(some 31), (.mv (.tmp 8)), (some (30, false))⟩,
 ⟨(some 32), (.eqs false .ptr (.tmp 31) (.const (.pointer none))), (some (30, false))⟩,
 (rO 33 (.pick (.tmp 30) (.const (.bool true)) (.tmp 32))),
 (rO 34 (.mv (.tmp 33))),
 ⟨(some 35), (.mv (.tmp 0)), (some (34, false))⟩,
 ⟨(some 36), (.len true (.tmp 35)), (some (34, false))⟩,
 ⟨(some 37), (.bin .gtr (.tmp 36) (.const (.int .i64 60))), (some (34, false))⟩,
 (rO 38 (.pick (.tmp 34) (.const (.bool true)) (.tmp 37)))])
 (.cond (.tmp 38) (.seq (.reg [(rO 39 (.mv (.tmp 7))),
 (rO 40 (.eqs true .ptr (.tmp 39) (.const (.pointer none)))),
 (rO 41 (.mv (.tmp 40))),
 ⟨(some 42), (.mv (.tmp 8)), (some (41, true))⟩,
 ⟨(some 43), (.eqs true .ptr (.tmp 42) (.const (.pointer none))), (some (41, true))⟩,
 (rO 44 (.pick (.tmp 41) (.tmp 43) (.const (.bool false)))),
 (rO 6 (.mv (.tmp 44)))])
 .ret)
 .skip))
 (.seq (.seq (.reg [(rO 46 (.mv (.tmp 7))),
 (rO 47 (.bld [.string ⟨#[]⟩, .bool false, .string ⟨#[]⟩] [(0, 1, (.const (.string { data := #[107] })))])),
 (rO 48 (.lit 33 1 3 [.string ⟨#[]⟩, .bool false, .string ⟨#[]⟩] [(0, 3, (.tmp 47))])),
 (rO 49 (.call 9 [(.tmp 46), (.tmp 48)])),
 (rO 45 (.mv (.tmp 49))),
 (rO 50 (.ext 0 (.tmp 45))),
 (rO 51 (.ext 1 (.tmp 45))),
 (rO 9 (.mv (.tmp 50))),
 (rO 10 (.mv (.tmp 51)))])
 (.seq (.reg [(rO 52 (.mv (.tmp 9))),
 (rO 53 (.bin .neq (.tmp 52) (.const (.int .i64 1)))),
 (rO 54 (.mv (.tmp 53))),
 ⟨(some 55), (.mv (.tmp 10)), (some (54, false))⟩,
 ⟨(some 56), (.bin .neq (.tmp 55) (.const (.int .i64 0))), (some (54, false))⟩,
 (rO 57 (.pick (.tmp 54) (.const (.bool true)) (.tmp 56)))])
 (.cond (.tmp 57) (.seq (.reg [(rO 6 (.mv (.const (.bool false))))])
 .ret)
 .skip)))
 (.seq (.seq (.reg [(rO 59 (.mv (.tmp 8))),
 (rO 60 (.lit 9 1 1 [.string ⟨#[]⟩] [(0, 1, (.const (.string { data := #[107] })))])),
 (rO 61 (.call 10 [(.tmp 59), (.tmp 60)])),
 (rO 58 (.mv (.tmp 61))),
 (rO 62 (.ext 0 (.tmp 58))),
 (rO 63 (.ext 1 (.tmp 58))),
 (rO 11 (.mv (.tmp 62))),
 (rO 12 (.mv (.tmp 63)))])
 (.seq (.reg [(rO 64 (.mv (.tmp 11))),
 (rO 65 (.bin .neq (.tmp 64) (.const (.int .i64 1)))),
 (rO 66 (.mv (.tmp 65))),
 ⟨(some 67), (.mv (.tmp 12)), (some (66, false))⟩,
 ⟨(some 68), (.bin .neq (.tmp 67) (.const (.int .i64 0))), (some (66, false))⟩,
 (rO 69 (.pick (.tmp 66) (.const (.bool true)) (.tmp 68)))])
 (.cond (.tmp 69) (.seq (.reg [(rO 6 (.mv (.const (.bool false))))])
 .ret)
 .skip)))
 c3_s0)))))
set_option linter.unusedSimpArgs false
set_option linter.unusedVariables false
theorem wi64 {x : Int} (h : -9223372036854775808 ≤ x ∧ x ≤ 9223372036854775807) : IntKind.i64.wrap x = x := IntWalk.i64_in x (by omega)
/-- A write. -/
structure Wr where
  key : ByteArray
  has : Bool
  data : ByteArray
def Wr.cells (w : Wr) : List Value := [.string w.key, .bool w.has, .string w.data]
theorem Wr.cells_len (w : Wr) : w.cells.length = 3 := rfl
/-- The first place of a key in a list of keys. -/
def sC (k : ByteArray) : List Value := [.string k]
theorem sC_len (k : ByteArray) : (sC k).length = 1 := rfl
def pos (l : List ByteArray) (k : ByteArray) : Int := match l.findIdx? (fun x => decide (k = x)) with | some i => i | none => -1
set_option maxRecDepth 100000
def c6_b6 : C := (.seq (.reg [(rO 15 (.mv (.const (.int .i64 0))))])
 (.block 6 (.loop (.seq (.seq (.reg [(rO 142 (.mv (.tmp 15))),
 (rO 143 (.mv (.tmp 14))),
 (rO 144 (.len true (.tmp 143))),
 (rO 145 (.bin .lss (.tmp 142) (.tmp 144)))])
 (.cond (.tmp 145) .skip
 (.exit 6)))
 (.seq (.block 7 (.seq (.reg [(rO 16 (.mv (.const (.int .i64 0))))])
 (.block 8 (.loop (.seq (.seq (.reg [(rO 148 (.mv (.tmp 16))),
 (rO 149 (.mv (.tmp 10))),
 (rO 150 (.len true (.tmp 149))),
 (rO 151 (.bin .lss (.tmp 148) (.tmp 150)))])
 (.cond (.tmp 151) .skip
 (.exit 8)))
 (.seq (.block 9 (.seq (.draw [⟨(rO 154 (.mv (.tmp 14))), .p⟩,
 ⟨(rO 155 (.mv (.tmp 15))), .p⟩,
 ⟨(rO 156 (.ia 8 (.tmp 154) (.tmp 155))), .p⟩,
 ⟨(rO 157 (.ld (some 8) (.tmp 156))), .l⟩,
 ⟨(rO 158 (.mv (.tmp 10))), .p⟩,
 ⟨(rO 159 (.mv (.tmp 16))), .p⟩,
 ⟨(rO 160 (.ia 8 (.tmp 158) (.tmp 159))), .p⟩,
 ⟨(rO 161 (.ld (some 8) (.tmp 160))), .l⟩,
 ⟨(rO 162 (.call 40 [(.tmp 157), (.tmp 161)])), .m⟩])
 (.cond (.tmp 162) (.seq (.reg [(rO 4 (.mv (.const (.bool false))))])
 .ret)
 .skip)))
 (.reg [(rO 152 (.mv (.tmp 16))),
 (rO 153 (.bin .add (.tmp 152) (.const (.int .i64 1)))),
 (rO 16 (.mv (.tmp 153)))])))))))
 (.reg [(rO 146 (.mv (.tmp 15))),
 (rO 147 (.bin .add (.tmp 146) (.const (.int .i64 1)))),
 (rO 15 (.mv (.tmp 147)))]))))))
def c6_t6 : C := (.seq (.reg [(rO 163 (.mv (.tmp 5))),
 (rO 164 (.call 36 [(.tmp 163)])),
 (rO 165 (.mv (.tmp 1))),
 (rO 166 (.conv .i64 (.tmp 165))),
 (rO 167 (.bin .leq (.tmp 164) (.tmp 166))),
 (rO 168 (.mv (.tmp 167))),
 ⟨(some 169), (.mv (.tmp 5)), (some (168, false))⟩,
 ⟨(some 170), (.call 39 [(.tmp 169)]), (some (168, false))⟩,
 ⟨(some 171), (.bin .eql (.tmp 170) (.const (.int .i64 0))), (some (168, false))⟩,
 (rO 172 (.pick (.tmp 168) (.const (.bool true)) (.tmp 171))),
 (rO 4 (.mv (.tmp 172)))])
 .ret)
def c6_s6 : C := .seq c6_b6 c6_t6
def c6_b4 : C := (.seq (.reg [(rO 13 (.mv (.const (.int .i64 0))))])
 (.block 4 (.loop (.seq (.seq (.reg [(rO 106 (.mv (.tmp 13))),
 (rO 107 (.mv (.tmp 10))),
 (rO 108 (.len true (.tmp 107))),
 (rO 109 (.bin .lss (.tmp 106) (.tmp 108)))])
 (.cond (.tmp 109) .skip
 (.exit 4)))
 (.seq (.block 5 (.seq (.draw [⟨(rO 112 (.mv (.tmp 9))), .p⟩,
 ⟨(rO 113 (.mv (.tmp 13))), .p⟩,
 ⟨(rO 114 (.ia 1 (.tmp 112) (.tmp 113))), .p⟩,
 ⟨(rO 115 (.ld none (.tmp 114))), .l⟩,
 ⟨(rO 116 (.bin .lss (.tmp 115) (.const (.int .i64 0)))), .p⟩,
 ⟨(rO 117 (.mv (.tmp 116))), .p⟩,
 ⟨⟨(some 118), (.mv (.tmp 9)), (some (117, false))⟩, .p⟩,
 ⟨⟨(some 119), (.mv (.tmp 13)), (some (117, false))⟩, .p⟩,
 ⟨⟨(some 120), (.ia 1 (.tmp 118) (.tmp 119)), (some (117, false))⟩, .p⟩,
 ⟨⟨(some 121), (.ld none (.tmp 120)), (some (117, false))⟩, .l⟩,
 ⟨⟨(some 122), (.mv (.tmp 8)), (some (117, false))⟩, .p⟩,
 ⟨⟨(some 123), (.len true (.tmp 122)), (some (117, false))⟩, .p⟩,
 ⟨⟨(some 124), (.bin .geq (.tmp 121) (.tmp 123)), (some (117, false))⟩, .p⟩,
 ⟨(rO 125 (.pick (.tmp 117) (.const (.bool true)) (.tmp 124))), .p⟩,
 ⟨(rO 126 (.mv (.tmp 125))), .p⟩,
 ⟨⟨(some 127), (.mv (.tmp 10)), (some (126, false))⟩, .p⟩,
 ⟨⟨(some 128), (.mv (.tmp 13)), (some (126, false))⟩, .p⟩,
 ⟨⟨(some 129), (.ia 8 (.tmp 127) (.tmp 128)), (some (126, false))⟩, .p⟩,
 ⟨⟨(some 130), (.ld (some 8) (.tmp 129)), (some (126, false))⟩, .l⟩,
 ⟨⟨(some 131), (.mv (.tmp 8)), (some (126, false))⟩, .p⟩,
 ⟨⟨(some 132), (.mv (.tmp 9)), (some (126, false))⟩, .p⟩,
 ⟨⟨(some 133), (.mv (.tmp 13)), (some (126, false))⟩, .p⟩,
 ⟨⟨(some 134), (.ia 1 (.tmp 132) (.tmp 133)), (some (126, false))⟩, .p⟩,
 ⟨⟨(some 135), (.ld none (.tmp 134)), (some (126, false))⟩, .l⟩,
 ⟨⟨(some 136), (.ia 8 (.tmp 131) (.tmp 135)), (some (126, false))⟩, .p⟩,
 ⟨⟨(some 137), (.ld (some 8) (.tmp 136)), (some (126, false))⟩, .l⟩,
 ⟨⟨(some 138), (.eqa true [.text, .truth, .text, .num, .num, .truth, .num, .num] (.tmp 130) (.tmp 137)), (some (126, false))⟩, .p⟩,
 ⟨(rO 139 (.pick (.tmp 126) (.const (.bool true)) (.tmp 138))), .p⟩])
 (.cond (.tmp 139) (.seq (.reg [(rO 4 (.mv (.const (.bool false))))])
 .ret)
 .skip)))
 (.reg [(rO 110 (.mv (.tmp 13))),
 (rO 111 (.bin .add (.tmp 110) (.const (.int .i64 1)))),
 (rO 13 (.mv (.tmp 111)))]))))))
def c6_t4 : C := (.seq (.reg [(rO 140 (.mv (.tmp 5))),
 (rO 141 (.call 34 [(.tmp 140)])),
 (rO 14 (.mv (.tmp 141)))])
 c6_s6)
def c6_s4 : C := .seq c6_b4 c6_t4
def c6_b2 : C := (.block 2 (.loop (.seq (.seq (.reg [(rO 50 (.mv (.tmp 5))),
 (rO 51 (.call 36 [(.tmp 50)])),
 (rO 52 (.mv (.tmp 1))),
 (rO 53 (.conv .i64 (.tmp 52))),
 (rO 54 (.bin .gtr (.tmp 51) (.tmp 53)))])
 (.cond (.tmp 54) .skip
 (.exit 2)))
 (.block 3 (.seq (.reg [(rO 55 (.mv (.tmp 5))),
 (rO 56 (.call 34 [(.tmp 55)])),
 (rO 11 (.mv (.tmp 56)))])
 (.seq (.reg [(rO 57 (.mv (.tmp 11))),
 (rO 58 (.call 37 [(.tmp 57)])),
 (rO 12 (.mv (.tmp 58)))])
 (.seq (.seq (.draw [⟨(rO 59 (.mv (.tmp 12))), .p⟩,
 ⟨(rO 60 (.bin .lss (.tmp 59) (.const (.int .i64 0)))), .p⟩,
 ⟨(rO 61 (.mv (.tmp 60))), .p⟩,
 ⟨⟨(some 62), (.mv (.tmp 12)), (some (61, false))⟩, .p⟩,
 ⟨⟨(some 63), (.mv (.tmp 11)), (some (61, false))⟩, .p⟩,
 ⟨⟨(some 64), (.len true (.tmp 63)), (some (61, false))⟩, .p⟩,
 ⟨⟨(some 65), (.bin .geq (.tmp 62) (.tmp 64)), (some (61, false))⟩, .p⟩,
 ⟨(rO 66 (.pick (.tmp 61) (.const (.bool true)) (.tmp 65))), .p⟩,
 ⟨(rO 67 (.mv (.tmp 66))), .p⟩,
 ⟨⟨(some 68), (.mv (.tmp 5)), (some (67, false))⟩, .p⟩,
 ⟨⟨(some 69), (.mv (.tmp 11)), (some (67, false))⟩, .p⟩,
 ⟨⟨(some 70), (.mv (.tmp 12)), (some (67, false))⟩, .p⟩,
 ⟨⟨(some 71), (.ia 8 (.tmp 69) (.tmp 70)), (some (67, false))⟩, .p⟩,
 ⟨⟨(some 72), (.fa 0 (.tmp 71)), (some (67, false))⟩, .p⟩,
 ⟨⟨(some 73), (.fa 0 (.tmp 72)), (some (67, false))⟩, .p⟩,
 ⟨⟨(some 74), (.ld none (.tmp 73)), (some (67, false))⟩, .l⟩,
 ⟨⟨(some 75), (.mv (.tmp 11)), (some (67, false))⟩, .p⟩,
 ⟨⟨(some 76), (.mv (.tmp 12)), (some (67, false))⟩, .p⟩,
 ⟨⟨(some 77), (.ia 8 (.tmp 75) (.tmp 76)), (some (67, false))⟩, .p⟩,
 ⟨⟨(some 78), (.fa 0 (.tmp 77)), (some (67, false))⟩, .p⟩,
 ⟨⟨(some 79), (.fa 3 (.tmp 78)), (some (67, false))⟩, .p⟩,
 ⟨⟨(some 80), (.ld none (.tmp 79)), (some (67, false))⟩, .l⟩,
 ⟨⟨(some 81), (.call 38 [(.tmp 68), (.tmp 74), (.tmp 80)]), (some (67, false))⟩, .m⟩,
 ⟨⟨(some 82), (.nt (.tmp 81)), (some (67, false))⟩, .p⟩,
 ⟨(rO 83 (.pick (.tmp 67) (.const (.bool true)) (.tmp 82))), .p⟩])
 (.cond (.tmp 83) (.seq (.reg [(rO 4 (.mv (.const (.bool false))))])
 .ret)
 .skip))
 (.reg [(rO 84 (.mv (.tmp 10))),
 (rO 85 (.mv (.tmp 11))),
 (rO 86 (.mv (.tmp 12))),
 (rO 87 (.ia 8 (.tmp 85) (.tmp 86))),
 (rO 88 (.ld (some 8) (.tmp 87))),
 (rO 89 (.lit 89 1 8 [.string ⟨#[]⟩, .bool false, .string ⟨#[]⟩, .int .i64 (0), .int .i64 (0), .bool false, .int .i64 (0), .int .i64 (0)] [(0, 8, (.tmp 88))])),
 (rO 90 (.app 89 8 80 (.tmp 84) (.tmp 89))),
 (rO 10 (.mv (.tmp 90)))]))))))))
def c6_t2 : C := (.seq (.seq (.reg [(rO 91 (.mv (.tmp 9))),
 (rO 92 (.len true (.tmp 91))),
 (rO 93 (.mv (.tmp 8))),
 (rO 94 (.len true (.tmp 93))),
 (rO 95 (.bin .neq (.tmp 92) (.tmp 94))),
 (rO 96 (.mv (.tmp 95))),
 ⟨(some 97), (.mv (.tmp 10)), (some (96, false))⟩,
 ⟨(some 98), (.len true (.tmp 97)), (some (96, false))⟩,
 ⟨(some 99), (.mv (.tmp 5)), (some (96, false))⟩,
 ⟨(some 100), (.call 39 [(.tmp 99)]), (some (96, false))⟩,
 ⟨(some 101), (.bin .add (.tmp 98) (.tmp 100)), (some (96, false))⟩,
 ⟨(some 102), (.mv (.tmp 8)), (some (96, false))⟩,
 ⟨(some 103), (.len true (.tmp 102)), (some (96, false))⟩,
 ⟨(some 104), (.bin .neq (.tmp 101) (.tmp 103)), (some (96, false))⟩,
 (rO 105 (.pick (.tmp 96) (.const (.bool true)) (.tmp 104)))])
 (.cond (.tmp 105) (.seq (.reg [(rO 4 (.mv (.const (.bool false))))])
 .ret)
 .skip))
 c6_s4)
def c6_s2 : C := .seq c6_b2 c6_t2
def c6_b0 : C := (.seq (.reg [(rO 6 (.mv (.const (.int .i64 0))))])
 (.block 0 (.loop (.seq (.seq (.reg [(rO 27 (.mv (.tmp 6))),
 (rO 28 (.mv (.tmp 0))),
 (rO 29 (.len true (.tmp 28))),
 (rO 30 (.bin .lss (.tmp 27) (.tmp 29))),
 (rO 31 (.mv (.tmp 30))),
 ⟨(some 32), (.mv (.tmp 6)), (some (31, true))⟩,
 ⟨(some 33), (.bin .lss (.tmp 32) (.const (.int .i64 200))), (some (31, true))⟩,
 (rO 34 (.pick (.tmp 31) (.tmp 33) (.const (.bool false))))])
 (.cond (.tmp 34) .skip
 (.exit 0)))
 (.seq (.block 1 (.seq (.reg [(rO 37 (.mv (.tmp 0))),
 (rO 38 (.mv (.tmp 6))),
 (rO 39 (.ia 8 (.tmp 37) (.tmp 38))),
 (rO 40 (.ld (some 8) (.tmp 39))),
 (rO 7 (.new 89 [.string ⟨#[]⟩, .bool false, .string ⟨#[]⟩, .int .i64 (0), .int .i64 (0), .bool false, .int .i64 (0), .int .i64 (0)])),
 ⟨none, (.st 8 (.tmp 7) (.tmp 40)), none⟩])
 (.seq (.reg [(rO 41 (.mv (.tmp 6))),
 (rO 42 (.fa 7 (.tmp 7))),
 ⟨none, (.st 1 (.tmp 42) (.tmp 41)), none⟩])
 (.reg [(rO 43 (.mv (.tmp 5))),
 (rO 44 (.ld (some 8) (.tmp 7))),
 (rO 45 (.call 33 [(.tmp 43), (.tmp 44)]))]))))
 (.reg [(rO 35 (.mv (.tmp 6))),
 (rO 36 (.bin .add (.tmp 35) (.const (.int .i64 1)))),
 (rO 6 (.mv (.tmp 36)))]))))))
def c6_t0 : C := (.seq (.reg [(rO 46 (.mv (.tmp 5))),
 (rO 47 (.call 34 [(.tmp 46)])),
 (rO 8 (.mv (.tmp 47)))])
 (.seq (.reg [(rO 48 (.mv (.tmp 8))),
 (rO 49 (.call 35 [(.tmp 48)])),
 (rO 9 (.mv (.tmp 49)))])
 (.seq (.reg [(rO 10 (.mv (.const (.slice none 0 0))))])
 c6_s2)))
def c6_s0 : C := .seq c6_b0 c6_t0
/-- vouch/vouchtop.WholeVictims -/
def c6 : C := (.seq (.reg [(rO 4 (.mv (.const (.bool false))))])
 (.seq (.reg [(rO 17 (.call 32 [])),
 (rO 5 (.mv (.tmp 17)))])
 (.seq (.seq (.reg [(rO 18 (.mv (.tmp 5))),
 (rO 19 (.eqs false .ptr (.tmp 18) (.const (.pointer none)))),
 (rO 20 (.mv (.tmp 19))),
 ⟨(some 21), (.mv (.tmp 5)), (some (20, false))⟩,
 ⟨(some 22), (.bld [.string ⟨#[]⟩, .bool false, .string ⟨#[]⟩, .int .i64 (0), .int .i64 (0)] [(0, 1, (.const (.string { data := #[107] }))), (4, 1, (.const (.int .i64 5)))]), (some (20, false))⟩,
 ⟨(some 23), (.bld [.string ⟨#[]⟩, .bool false, .string ⟨#[]⟩, .int .i64 (0), .int .i64 (0), .bool false, .int .i64 (0), .int .i64 (0)] [(0, 5, (.tmp 22)), (7, 1, (.const (.int .i64 (-1))))]), (some (20, false))⟩,
 ⟨(some 24), (.call 33 [(.tmp 21), (.tmp 23)]), (some (20, false))⟩,
 ⟨(some 25), (.nt (.tmp 24)), (some (20, false))⟩,
 (rO 26 (.pick (.tmp 20) (.const (.bool true)) (.tmp 25)))])
 (.cond (.tmp 26) (.seq (.reg [(rO 4 (.mv (.const (.bool false))))])
 .ret)
 .skip))
 c6_s0)))
def r6 : List RV := [.tmp 4]
theorem ok6 : FnOk Try.prog 6 173 c6 r6 := ⟨[4000067, 4000073], _, _, Try.func6, rfl, rfl, by kernel_rfl, by kernel_rfl, by kernel_rfl⟩
/-- vouch/table.New -/
def c32 : C := (.seq (.reg [(rO 0 (.mv (.const (.pointer none))))])
 (.seq (.reg [(rO 1 (.bld [.map none, .int .i64 (0), .int .i64 (0)] [])),
 (rO 2 (.box 151 (.tmp 1))),
 (rO 0 (.mv (.tmp 2)))])
 .ret))
def r32 : List RV := [.tmp 0]
theorem ok32 : FnOk Try.prog 32 3 c32 r32 := ⟨[4000067, 4000073], _, _, Try.func32, rfl, rfl, by kernel_rfl, by kernel_rfl, by kernel_rfl⟩
def c33_br40 : C := (.reg [(rO 35 (.mv (.tmp 0))),
 (rO 36 (.mv (.tmp 5))),
 (rO 37 (.fa 0 (.tmp 3))),
 (rO 38 (.fa 3 (.tmp 37))),
 (rO 39 (.ld none (.tmp 38))),
 (rO 40 (.call 66 [(.tmp 35), (.tmp 36), (.tmp 39)])),
 (rO 34 (.mv (.tmp 40))),
 (rO 41 (.ext 0 (.tmp 34))),
 (rO 42 (.ext 1 (.tmp 34))),
 (rO 6 (.mv (.tmp 41))),
 (rO 7 (.mv (.tmp 42)))])
def c33_tr40 : C := (.seq (.drawx [⟨(rO 43 (.mv (.tmp 0))), .p⟩,
 ⟨(rO 44 (.nilc (.tmp 43))), .p⟩,
 ⟨(rO 45 (.fa 0 (.tmp 44))), .p⟩,
 ⟨(rO 46 (.ld none (.tmp 45))), .l⟩,
 ⟨(rO 47 (.mv (.tmp 5))), .p⟩,
 ⟨(rO 48 (.mv (.tmp 0))), .p⟩,
 ⟨(rO 49 (.nilc (.tmp 48))), .p⟩,
 ⟨(rO 50 (.fa 0 (.tmp 49))), .p⟩,
 ⟨(rO 51 (.ld none (.tmp 50))), .l⟩,
 ⟨(rO 52 (.mv (.tmp 5))), .p⟩,
 ⟨(rO 53 (.look (.get false false) (.slice none 0 0) (.tmp 51) (.tmp 52))), .l⟩,
 ⟨(rO 54 (.mv (.tmp 6))), .p⟩,
 ⟨(rO 55 (.ld (some 8) (.tmp 3))), .l⟩,
 ⟨(rO 56 (.lit 89 1 8 [.string ⟨#[]⟩, .bool false, .string ⟨#[]⟩, .int .i64 (0), .int .i64 (0), .bool false, .int .i64 (0), .int .i64 (0)] [(0, 8, (.tmp 55))])), .f⟩,
 ⟨(rO 57 (.call 67 [(.tmp 53), (.tmp 54), (.tmp 56)])), .w⟩,
 ⟨⟨none, (.mset (.put false) (.tmp 46) (.tmp 47) (.tmp 57)), none⟩, .m⟩])
 (.seq (.reg [(rO 58 (.mv (.tmp 0))),
 (rO 59 (.nilc (.tmp 58))),
 (rO 60 (.fa 1 (.tmp 59))),
 (rO 61 (.ld none (.tmp 60))),
 (rO 62 (.bin .add (.tmp 61) (.const (.int .i64 1)))),
 (rO 63 (.nilc (.tmp 58))),
 (rO 64 (.fa 1 (.tmp 63))),
 ⟨none, (.st 1 (.tmp 64) (.tmp 62)), none⟩])
 (.seq (.drawx [⟨(rO 65 (.mv (.tmp 0))), .p⟩,
 ⟨(rO 66 (.nilc (.tmp 65))), .p⟩,
 ⟨(rO 67 (.fa 2 (.tmp 66))), .p⟩,
 ⟨(rO 68 (.ld none (.tmp 67))), .l⟩,
 ⟨(rO 69 (.fa 0 (.tmp 3))), .p⟩,
 ⟨(rO 70 (.ld (some 5) (.tmp 69))), .l⟩,
 ⟨(rO 71 (.call 68 [(.tmp 70)])), .g⟩,
 ⟨(rO 72 (.bin .add (.tmp 68) (.tmp 71))), .p⟩,
 ⟨(rO 73 (.nilc (.tmp 65))), .p⟩,
 ⟨(rO 74 (.fa 2 (.tmp 73))), .p⟩,
 ⟨⟨none, (.st 1 (.tmp 74) (.tmp 72)), none⟩, .m⟩])
 (.seq (.reg [(rO 4 (.mv (.const (.bool true))))])
 .ret))))
def c33_sr40 : C := .seq c33_br40 c33_tr40
/-- (*vouch/table.Table).Put -/
def c33 : C := (.seq (.reg [(rO 3 (.box 89 (.tmp 1))),
 (rO 4 (.mv (.const (.bool false))))])
 (.seq (.seq (.reg [(rO 8 (.mv (.tmp 0))),
 (rO 9 (.eqs false .ptr (.tmp 8) (.const (.pointer none)))),
 (rO 10 (.mv (.tmp 9))),
 ⟨(some 11), (.fa 0 (.tmp 3)), (some (10, false))⟩,
 ⟨(some 12), (.ld (some 5) (.tmp 11)), (some (10, false))⟩,
 ⟨(some 13), (.call 65 [(.tmp 12)]), (some (10, false))⟩,
 ⟨(some 14), (.nt (.tmp 13)), (some (10, false))⟩,
 (rO 15 (.pick (.tmp 10) (.const (.bool true)) (.tmp 14)))])
 (.cond (.tmp 15) (.seq (.reg [(rO 4 (.mv (.const (.bool false))))])
 .ret)
 .skip))
 (.seq (.reg [(rO 16 (.fa 0 (.tmp 3))),
 (rO 17 (.fa 0 (.tmp 16))),
 (rO 18 (.ld none (.tmp 17))),
 (rO 5 (.mv (.tmp 18)))])
 (.seq (.reg [(rO 19 (.mv (.tmp 0))),
 (rO 20 (.mv (.tmp 5))),
 (rO 21 (.fa 0 (.tmp 3))),
 (rO 22 (.fa 3 (.tmp 21))),
 (rO 23 (.ld none (.tmp 22))),
 (rO 24 (.call 38 [(.tmp 19), (.tmp 20), (.tmp 23)]))])
 (.seq (.seq (.reg [(rO 25 (.mv (.tmp 0))),
 (rO 26 (.nilc (.tmp 25))),
 (rO 27 (.fa 0 (.tmp 26))),
 (rO 28 (.ld none (.tmp 27))),
 (rO 29 (.raw (Go.Op.binOp Go.BinOp.eql 149 (Go.Operand.tmp 28) (Go.Operand.const (Go.Value.map none)) 149) 4))])
 (.cond (.tmp 29) (.reg [(rO 30 (.mv (.tmp 0))),
 (rO 31 (.mkmap false)),
 (rO 32 (.nilc (.tmp 30))),
 (rO 33 (.fa 0 (.tmp 32))),
 ⟨none, (.st 1 (.tmp 33) (.tmp 31)), none⟩])
 .skip))
 c33_sr40)))))
def r33 : List RV := [.tmp 4]
theorem ok33 : FnOk Try.prog 33 75 c33 r33 := ⟨[999999, 4000067, 4000073], _, _, Try.func33, rfl, rfl, by kernel_rfl, by kernel_rfl, by kernel_rfl⟩
/-- (*vouch/table.Table).All -/
def c34 : C := (.seq (.reg [(rO 2 (.mv (.const (.slice none 0 0))))])
 (.seq (.seq (.reg [(rO 6 (.mv (.tmp 0))),
 (rO 7 (.eqs false .ptr (.tmp 6) (.const (.pointer none))))])
 (.cond (.tmp 7) (.seq (.reg [(rO 2 (.mv (.const (.slice none 0 0))))])
 .ret)
 .skip))
 (.seq (.reg [(rO 3 (.mv (.const (.slice none 0 0))))])
 (.seq (.seq (.reg [(rO 8 (.mv (.tmp 0))),
 (rO 9 (.nilc (.tmp 8))),
 (rO 10 (.fa 0 (.tmp 9))),
 (rO 11 (.ld none (.tmp 10))),
 (rO 12 (.call 70 [(.tmp 11)])),
 (rO 13 (.call 69 [(.tmp 12)])),
 (rO 14 (.len true (.tmp 13))),
 (rO 15 (.mv (.const (.int .i64 0))))])
 (.block 0 (.loop (.seq (.reg [(rO 16 (.bin .lss (.tmp 15) (.tmp 14)))])
 (.seq (.cond (.tmp 16) .skip
 (.exit 0))
 (.seq (.block 1 (.seq (.reg [(rO 17 (.ia 1 (.tmp 13) (.tmp 15))),
 (rO 18 (.ld none (.tmp 17))),
 (rO 5 (.mv (.tmp 18)))])
 (.reg [(rO 19 (.mv (.tmp 3))),
 (rO 20 (.mv (.tmp 0))),
 (rO 21 (.nilc (.tmp 20))),
 (rO 22 (.fa 0 (.tmp 21))),
 (rO 23 (.ld none (.tmp 22))),
 (rO 24 (.mv (.tmp 5))),
 (rO 25 (.look (.get false false) (.slice none 0 0) (.tmp 23) (.tmp 24))),
 (rO 26 (.app 89 8 80 (.tmp 19) (.tmp 25))),
 (rO 3 (.mv (.tmp 26)))])))
 (.reg [(rO 27 (.bin .add (.tmp 15) (.const (.int .i64 1)))),
 (rO 15 (.mv (.tmp 27)))])))))))
 (.seq (.reg [(rO 28 (.mv (.tmp 3))),
 (rO 2 (.mv (.tmp 28)))])
 .ret)))))
def r34 : List RV := [.tmp 2]
theorem ok34 : FnOk Try.prog 34 29 c34 r34 := ⟨[4000067, 4000073], _, _, Try.func34, rfl, rfl, by kernel_rfl, by kernel_rfl, by kernel_rfl⟩
/-- vouch/policy.Order -/
def c35 : C := (.seq (.reg [(rO 2 (.mv (.const (.slice none 0 0))))])
 (.seq (.reg [(rO 3 (.mv (.tmp 0))),
 (rO 4 (.call 71 [(.tmp 3), (.func 72)])),
 (rO 2 (.mv (.tmp 4)))])
 .ret))
def r35 : List RV := [.tmp 2]
theorem ok35 : FnOk Try.prog 35 5 c35 r35 := ⟨[4000067, 4000073], _, _, Try.func35, rfl, rfl, by kernel_rfl, by kernel_rfl, by kernel_rfl⟩
/-- (*vouch/table.Table).Bytes -/
def c36 : C := (.seq (.reg [(rO 2 (.mv (.const (.int .i64 0))))])
 (.seq (.seq (.reg [(rO 3 (.mv (.tmp 0))),
 (rO 4 (.eqs false .ptr (.tmp 3) (.const (.pointer none))))])
 (.cond (.tmp 4) (.seq (.reg [(rO 2 (.mv (.const (.int .i64 0))))])
 .ret)
 .skip))
 (.seq (.reg [(rO 5 (.mv (.tmp 0))),
 (rO 6 (.nilc (.tmp 5))),
 (rO 7 (.fa 2 (.tmp 6))),
 (rO 8 (.ld none (.tmp 7))),
 (rO 2 (.mv (.tmp 8)))])
 .ret)))
def r36 : List RV := [.tmp 2]
theorem ok36 : FnOk Try.prog 36 9 c36 r36 := ⟨[4000067, 4000073], _, _, Try.func36, rfl, rfl, by kernel_rfl, by kernel_rfl, by kernel_rfl⟩
/-- vouch/policy.Victim -/
def c37 : C := (.seq (.reg [(rO 2 (.mv (.const (.int .i64 0))))])
 (.seq (.reg [(rO 3 (.mv (.const (.int .i64 (-1)))))])
 (.seq (.seq (.reg [(rO 6 (.mv (.tmp 0))),
 (rO 7 (.len true (.tmp 6))),
 (rO 8 (.mv (.const (.int .i64 0))))])
 (.block 0 (.loop (.seq (.reg [(rO 9 (.bin .lss (.tmp 8) (.tmp 7)))])
 (.seq (.cond (.tmp 9) .skip
 (.exit 0))
 (.seq (.block 1 (.seq (.reg [(rO 10 (.mv (.tmp 8))),
 (rO 11 (.ia 8 (.tmp 6) (.tmp 8))),
 (rO 12 (.ld (some 8) (.tmp 11))),
 (rO 5 (.new 89 [.string ⟨#[]⟩, .bool false, .string ⟨#[]⟩, .int .i64 (0), .int .i64 (0), .bool false, .int .i64 (0), .int .i64 (0)])),
 (rO 4 (.mv (.tmp 10))),
 ⟨none, (.st 8 (.tmp 5) (.tmp 12)), none⟩])
 (.seq (.draw [⟨(rO 13 (.mv (.tmp 3))), .p⟩,
 ⟨(rO 14 (.bin .lss (.tmp 13) (.const (.int .i64 0)))), .p⟩,
 ⟨(rO 15 (.mv (.tmp 14))), .p⟩,
 ⟨⟨(some 16), (.ld (some 8) (.tmp 5)), (some (15, false))⟩, .l⟩,
 ⟨⟨(some 17), (.mv (.tmp 0)), (some (15, false))⟩, .p⟩,
 ⟨⟨(some 18), (.mv (.tmp 3)), (some (15, false))⟩, .p⟩,
 ⟨⟨(some 19), (.ia 8 (.tmp 17) (.tmp 18)), (some (15, false))⟩, .p⟩,
 ⟨⟨(some 20), (.ld (some 8) (.tmp 19)), (some (15, false))⟩, .l⟩,
 ⟨⟨(some 21), (.call 40 [(.tmp 16), (.tmp 20)]), (some (15, false))⟩, .m⟩,
 ⟨(rO 22 (.pick (.tmp 15) (.const (.bool true)) (.tmp 21))), .p⟩])
 (.cond (.tmp 22) (.reg [(rO 23 (.mv (.tmp 4))),
 (rO 3 (.mv (.tmp 23)))])
 .skip))))
 (.reg [(rO 24 (.bin .add (.tmp 8) (.const (.int .i64 1)))),
 (rO 8 (.mv (.tmp 24)))])))))))
 (.seq (.reg [(rO 25 (.mv (.tmp 3))),
 (rO 2 (.mv (.tmp 25)))])
 .ret))))
def r37 : List RV := [.tmp 2]
theorem ok37 : FnOk Try.prog 37 26 c37 r37 := ⟨[4000067, 4000073], _, _, Try.func37, rfl, rfl, by kernel_rfl, by kernel_rfl, by kernel_rfl⟩
/-- (*vouch/table.Table).Drop -/
def c38 : C := (.seq (.reg [(rO 6 (.mv (.const (.bool false))))])
 (.seq (.reg [(rO 11 (.mv (.tmp 0))),
 (rO 12 (.mv (.tmp 1))),
 (rO 13 (.mv (.tmp 2))),
 (rO 14 (.call 66 [(.tmp 11), (.tmp 12), (.tmp 13)])),
 (rO 10 (.mv (.tmp 14))),
 (rO 15 (.ext 0 (.tmp 10))),
 (rO 16 (.ext 1 (.tmp 10))),
 (rO 7 (.mv (.tmp 15))),
 (rO 8 (.mv (.tmp 16)))])
 (.seq (.seq (.reg [(rO 17 (.mv (.tmp 8))),
 (rO 18 (.nt (.tmp 17)))])
 (.cond (.tmp 18) (.seq (.reg [(rO 6 (.mv (.const (.bool false))))])
 .ret)
 .skip))
 (.seq (.reg [(rO 19 (.mv (.tmp 0))),
 (rO 20 (.nilc (.tmp 19))),
 (rO 21 (.fa 0 (.tmp 20))),
 (rO 22 (.ld none (.tmp 21))),
 (rO 23 (.mv (.tmp 1))),
 (rO 24 (.look (.get false false) (.slice none 0 0) (.tmp 22) (.tmp 23))),
 (rO 9 (.mv (.tmp 24)))])
 (.seq (.reg [(rO 25 (.mv (.tmp 0))),
 (rO 26 (.nilc (.tmp 25))),
 (rO 27 (.fa 1 (.tmp 26))),
 (rO 28 (.ld none (.tmp 27))),
 (rO 29 (.bin .sub (.tmp 28) (.const (.int .i64 1)))),
 (rO 30 (.nilc (.tmp 25))),
 (rO 31 (.fa 1 (.tmp 30))),
 ⟨none, (.st 1 (.tmp 31) (.tmp 29)), none⟩])
 (.seq (.drawx [⟨(rO 32 (.mv (.tmp 0))), .p⟩,
 ⟨(rO 33 (.nilc (.tmp 32))), .p⟩,
 ⟨(rO 34 (.fa 2 (.tmp 33))), .p⟩,
 ⟨(rO 35 (.ld none (.tmp 34))), .l⟩,
 ⟨(rO 36 (.mv (.tmp 9))), .p⟩,
 ⟨(rO 37 (.mv (.tmp 7))), .p⟩,
 ⟨(rO 38 (.ia 8 (.tmp 36) (.tmp 37))), .p⟩,
 ⟨(rO 39 (.fa 0 (.tmp 38))), .p⟩,
 ⟨(rO 40 (.ld (some 5) (.tmp 39))), .l⟩,
 ⟨(rO 41 (.call 68 [(.tmp 40)])), .g⟩,
 ⟨(rO 42 (.bin .sub (.tmp 35) (.tmp 41))), .p⟩,
 ⟨(rO 43 (.nilc (.tmp 32))), .p⟩,
 ⟨(rO 44 (.fa 2 (.tmp 43))), .p⟩,
 ⟨⟨none, (.st 1 (.tmp 44) (.tmp 42)), none⟩, .m⟩])
 (.seq (.seq (.reg [(rO 45 (.mv (.tmp 9))),
 (rO 46 (.len true (.tmp 45))),
 (rO 47 (.bin .eql (.tmp 46) (.const (.int .i64 1))))])
 (.cond (.tmp 47) (.reg [(rO 48 (.mv (.tmp 0))),
 (rO 49 (.nilc (.tmp 48))),
 (rO 50 (.fa 0 (.tmp 49))),
 (rO 51 (.ld none (.tmp 50))),
 (rO 52 (.mv (.tmp 1))),
 ⟨none, (.mset (.del false) (.tmp 51) (.tmp 52) (.const undef)), none⟩])
 (.drawx [⟨(rO 53 (.mv (.tmp 0))), .p⟩,
 ⟨(rO 54 (.nilc (.tmp 53))), .p⟩,
 ⟨(rO 55 (.fa 0 (.tmp 54))), .p⟩,
 ⟨(rO 56 (.ld none (.tmp 55))), .l⟩,
 ⟨(rO 57 (.mv (.tmp 1))), .p⟩,
 ⟨(rO 58 (.mv (.tmp 9))), .p⟩,
 ⟨(rO 59 (.mv (.tmp 7))), .p⟩,
 ⟨(rO 60 (.mv (.tmp 7))), .p⟩,
 ⟨(rO 61 (.bin .add (.tmp 60) (.const (.int .i64 1)))), .p⟩,
 ⟨(rO 62 (.call 73 [(.tmp 58), (.tmp 59), (.tmp 61)])), .w⟩,
 ⟨⟨none, (.mset (.put false) (.tmp 56) (.tmp 57) (.tmp 62)), none⟩, .m⟩])))
 (.seq (.reg [(rO 6 (.mv (.const (.bool true))))])
 .ret))))))))
def r38 : List RV := [.tmp 6]
theorem ok38 : FnOk Try.prog 38 63 c38 r38 := ⟨[999999, 4000067, 4000073], _, _, Try.func38, rfl, rfl, by kernel_rfl, by kernel_rfl, by kernel_rfl⟩
/-- (*vouch/table.Table).Len -/
def c39 : C := (.seq (.reg [(rO 2 (.mv (.const (.int .i64 0))))])
 (.seq (.seq (.reg [(rO 3 (.mv (.tmp 0))),
 (rO 4 (.eqs false .ptr (.tmp 3) (.const (.pointer none))))])
 (.cond (.tmp 4) (.seq (.reg [(rO 2 (.mv (.const (.int .i64 0))))])
 .ret)
 .skip))
 (.seq (.reg [(rO 5 (.mv (.tmp 0))),
 (rO 6 (.nilc (.tmp 5))),
 (rO 7 (.fa 1 (.tmp 6))),
 (rO 8 (.ld none (.tmp 7))),
 (rO 2 (.mv (.tmp 8)))])
 .ret)))
def r39 : List RV := [.tmp 2]
theorem ok39 : FnOk Try.prog 39 9 c39 r39 := ⟨[4000067, 4000073], _, _, Try.func39, rfl, rfl, by kernel_rfl, by kernel_rfl, by kernel_rfl⟩
/-- vouch/policy.Before -/
def c40 : C := (.seq (.reg [(rO 2 (.box 89 (.tmp 0))),
 (rO 3 (.box 89 (.tmp 1))),
 (rO 4 (.mv (.const (.bool false))))])
 (.seq (.reg [(rO 5 (.ld (some 8) (.tmp 2))),
 (rO 6 (.ld (some 8) (.tmp 3))),
 (rO 7 (.call 72 [(.tmp 5), (.tmp 6)])),
 (rO 8 (.bin .lss (.tmp 7) (.const (.int .i64 0)))),
 (rO 4 (.mv (.tmp 8)))])
 .ret))
def r40 : List RV := [.tmp 4]
theorem ok40 : FnOk Try.prog 40 9 c40 r40 := ⟨[4000067, 4000073], _, _, Try.func40, rfl, rfl, by kernel_rfl, by kernel_rfl, by kernel_rfl⟩
/-- (*vouch/table.Table).find -/
def c66 : C := (.seq (.reg [(rO 6 (.mv (.const (.int .i64 0)))),
 (rO 7 (.mv (.const (.bool false))))])
 (.seq (.reg [(rO 8 (.mv (.tmp 0))),
 (rO 9 (.mv (.tmp 1))),
 (rO 10 (.call 86 [(.tmp 8), (.tmp 9)])),
 (rO 11 (.mv (.tmp 2))),
 (rO 12 (.call 85 [(.tmp 10), (.tmp 11), (.func 87)])),
 (rO 13 (.ext 0 (.tmp 12))),
 (rO 14 (.ext 1 (.tmp 12))),
 (rO 6 (.mv (.tmp 13))),
 (rO 7 (.mv (.tmp 14)))])
 .ret))
def r66 : List RV := [.tmp 6, .tmp 7]
theorem ok66 : FnOk Try.prog 66 15 c66 r66 := ⟨[4000067, 4000073], _, _, Try.func66, rfl, rfl, by kernel_rfl, by kernel_rfl, by kernel_rfl⟩
/-- slices.Insert[[]vouch/api.Entry,vouch/api.Entry] -/
def c67 : C := (.seq (.reg [(rO 6 (.mv (.const (.slice none 0 0))))])
 (.seq (.reg [(rO 10 (.mv (.tmp 0))),
 (rO 11 (.mv (.tmp 1))),
 (rO 12 (.fnl (.sll 8) [(.tmp 10), (.tmp 11)]))])
 (.seq (.reg [(rO 13 (.mv (.tmp 2))),
 (rO 14 (.len true (.tmp 13))),
 (rO 7 (.mv (.tmp 14)))])
 (.seq (.seq (.reg [(rO 15 (.mv (.tmp 7))),
 (rO 16 (.bin .eql (.tmp 15) (.const (.int .i64 0))))])
 (.cond (.tmp 16) (.seq (.reg [(rO 17 (.mv (.tmp 0))),
 (rO 6 (.mv (.tmp 17)))])
 .ret)
 .skip))
 (.seq (.reg [(rO 18 (.mv (.tmp 0))),
 (rO 19 (.len true (.tmp 18))),
 (rO 8 (.mv (.tmp 19)))])
 (.seq (.seq (.reg [(rO 20 (.mv (.tmp 1))),
 (rO 21 (.mv (.tmp 8))),
 (rO 22 (.bin .eql (.tmp 20) (.tmp 21)))])
 (.cond (.tmp 22) (.seq (.reg [(rO 23 (.mv (.tmp 0))),
 (rO 24 (.mv (.tmp 2))),
 (rO 25 (.app 89 8 80 (.tmp 23) (.tmp 24))),
 (rO 6 (.mv (.tmp 25)))])
 .ret)
 .skip))
 (.seq (.seq (.reg [(rO 26 (.mv (.tmp 8))),
 (rO 27 (.mv (.tmp 7))),
 (rO 28 (.bin .add (.tmp 26) (.tmp 27))),
 (rO 29 (.mv (.tmp 0))),
 (rO 30 (.raw (Go.Op.call { callee := (Go.Callee.builtin Go.Builtin.cap), args := #[(Go.Operand.tmp 29)], argTypes := #[83] }) 3)),
 (rO 31 (.bin .gtr (.tmp 28) (.tmp 30)))])
 (.cond (.tmp 31) (.seq (.reg [(rO 32 (.mv (.tmp 0))),
 (rO 33 (.mv (.tmp 1))),
 (rO 34 (.fnl (.slh 8) [(.tmp 32), (.tmp 33)])),
 (rO 35 (.mv (.tmp 8))),
 (rO 36 (.mv (.tmp 7))),
 (rO 37 (.bin .add (.tmp 35) (.tmp 36))),
 (rO 38 (.mv (.tmp 1))),
 (rO 39 (.bin .sub (.tmp 37) (.tmp 38))),
 (rO 40 (.hop (Go.Op.call { callee := (Go.Callee.builtin Go.Builtin.append), args := #[(Go.Operand.tmp 34), (Go.Operand.tmp 39)], argTypes := #[83, 3] }) 83)),
 (rO 9 (.mv (.tmp 40)))])
 (.seq (.reg [(rO 41 (.mv (.tmp 9))),
 (rO 42 (.mv (.tmp 1))),
 (rO 43 (.fnl (.sll 8) [(.tmp 41), (.tmp 42)])),
 (rO 44 (.mv (.tmp 2))),
 (rO 45 (.hop (Go.Op.call { callee := (Go.Callee.builtin Go.Builtin.copy), args := #[(Go.Operand.tmp 43), (Go.Operand.tmp 44)], argTypes := #[83, 83] }) 3))])
 (.seq (.draw [⟨(rO 46 (.mv (.tmp 9))), .p⟩,
 ⟨(rO 47 (.mv (.tmp 1))), .p⟩,
 ⟨(rO 48 (.mv (.tmp 7))), .p⟩,
 ⟨(rO 49 (.bin .add (.tmp 47) (.tmp 48))), .p⟩,
 ⟨(rO 50 (.fnl (.sll 8) [(.tmp 46), (.tmp 49)])), .p⟩,
 ⟨(rO 51 (.mv (.tmp 0))), .p⟩,
 ⟨(rO 52 (.mv (.tmp 1))), .p⟩,
 ⟨(rO 53 (.fnl (.sll 8) [(.tmp 51), (.tmp 52)])), .p⟩,
 ⟨(rO 54 (.hop (Go.Op.call { callee := (Go.Callee.builtin Go.Builtin.copy), args := #[(Go.Operand.tmp 50), (Go.Operand.tmp 53)], argTypes := #[83, 83] }) 3)), .m⟩])
 (.seq (.reg [(rO 55 (.mv (.tmp 9))),
 (rO 6 (.mv (.tmp 55)))])
 .ret))))
 .skip))
 (.seq (.reg [(rO 56 (.mv (.tmp 0))),
 (rO 57 (.mv (.tmp 8))),
 (rO 58 (.mv (.tmp 7))),
 (rO 59 (.bin .add (.tmp 57) (.tmp 58))),
 (rO 60 (.fnl (.slh 8) [(.tmp 56), (.tmp 59)])),
 (rO 0 (.mv (.tmp 60)))])
 (.seq (.seq (.reg [(rO 61 (.mv (.tmp 2))),
 (rO 62 (.mv (.tmp 0))),
 (rO 63 (.mv (.tmp 1))),
 (rO 64 (.mv (.tmp 7))),
 (rO 65 (.bin .add (.tmp 63) (.tmp 64))),
 (rO 66 (.fnl (.sll 8) [(.tmp 62), (.tmp 65)])),
 (rO 67 (.hop (Go.Op.call { callee := (Go.Callee.value (Go.Operand.func 89)), args := #[(Go.Operand.tmp 61), (Go.Operand.tmp 66)], argTypes := #[83, 83] }) 4)),
 (rO 68 (.nt (.tmp 67)))])
 (.cond (.tmp 68) (.seq (.draw [⟨(rO 69 (.mv (.tmp 0))), .p⟩,
 ⟨(rO 70 (.mv (.tmp 1))), .p⟩,
 ⟨(rO 71 (.mv (.tmp 7))), .p⟩,
 ⟨(rO 72 (.bin .add (.tmp 70) (.tmp 71))), .p⟩,
 ⟨(rO 73 (.fnl (.sll 8) [(.tmp 69), (.tmp 72)])), .p⟩,
 ⟨(rO 74 (.mv (.tmp 0))), .p⟩,
 ⟨(rO 75 (.mv (.tmp 1))), .p⟩,
 ⟨(rO 76 (.fnl (.sll 8) [(.tmp 74), (.tmp 75)])), .p⟩,
 ⟨(rO 77 (.hop (Go.Op.call { callee := (Go.Callee.builtin Go.Builtin.copy), args := #[(Go.Operand.tmp 73), (Go.Operand.tmp 76)], argTypes := #[83, 83] }) 3)), .m⟩])
 (.seq (.reg [(rO 78 (.mv (.tmp 0))),
 (rO 79 (.mv (.tmp 1))),
 (rO 80 (.fnl (.sll 8) [(.tmp 78), (.tmp 79)])),
 (rO 81 (.mv (.tmp 2))),
 (rO 82 (.hop (Go.Op.call { callee := (Go.Callee.builtin Go.Builtin.copy), args := #[(Go.Operand.tmp 80), (Go.Operand.tmp 81)], argTypes := #[83, 83] }) 3))])
 (.seq (.reg [(rO 83 (.mv (.tmp 0))),
 (rO 6 (.mv (.tmp 83)))])
 .ret)))
 .skip))
 (.seq (.reg [(rO 84 (.mv (.tmp 0))),
 (rO 85 (.mv (.tmp 8))),
 (rO 86 (.fnl (.sll 8) [(.tmp 84), (.tmp 85)])),
 (rO 87 (.mv (.tmp 2))),
 (rO 88 (.hop (Go.Op.call { callee := (Go.Callee.builtin Go.Builtin.copy), args := #[(Go.Operand.tmp 86), (Go.Operand.tmp 87)], argTypes := #[83, 83] }) 3))])
 (.seq (.reg [(rO 89 (.mv (.tmp 0))),
 (rO 90 (.mv (.tmp 1))),
 (rO 91 (.fnl (.sll 8) [(.tmp 89), (.tmp 90)])),
 (rO 92 (.mv (.tmp 7))),
 (rO 93 (.call 90 [(.tmp 91), (.tmp 92)]))])
 (.seq (.reg [(rO 94 (.mv (.tmp 0))),
 (rO 6 (.mv (.tmp 94)))])
 .ret))))))))))))
def r67 : List RV := [.tmp 6]
theorem ok67 : FnOk Try.prog 67 95 c67 r67 := ⟨[4000067, 4000073], _, _, Try.func67, rfl, rfl, by kernel_rfl, by kernel_rfl, by kernel_rfl⟩
/-- vouch/fact.Cost -/
def c68 : C := (.seq (.reg [(rO 1 (.box 39 (.tmp 0))),
 (rO 2 (.mv (.const (.int .i64 0))))])
 (.seq (.reg [(rO 3 (.fa 0 (.tmp 1))),
 (rO 4 (.ld none (.tmp 3))),
 (rO 5 (.len false (.tmp 4))),
 (rO 6 (.bin .add (.const (.int .i64 32)) (.tmp 5))),
 (rO 7 (.fa 1 (.tmp 1))),
 (rO 8 (.fa 1 (.tmp 7))),
 (rO 9 (.ld none (.tmp 8))),
 (rO 10 (.len false (.tmp 9))),
 (rO 11 (.bin .add (.tmp 6) (.tmp 10))),
 (rO 2 (.mv (.tmp 11)))])
 .ret))
def r68 : List RV := [.tmp 2]
theorem ok68 : FnOk Try.prog 68 12 c68 r68 := ⟨[4000067, 4000073], _, _, Try.func68, rfl, rfl, by kernel_rfl, by kernel_rfl, by kernel_rfl⟩
/-- vouch/policy.places -/
def c71 : C := (.seq (.reg [(rO 2 (.box 83 (.tmp 0))),
 (rO 3 (.box 162 (.tmp 1))),
 (rO 4 (.mv (.const (.slice none 0 0))))])
 (.seq (.reg [(rO 5 (.mv (.const (.slice none 0 0))))])
 (.seq (.seq (.reg [(rO 7 (.ld none (.tmp 2))),
 (rO 8 (.len true (.tmp 7))),
 (rO 9 (.mv (.const (.int .i64 0))))])
 (.block 0 (.loop (.seq (.reg [(rO 10 (.bin .lss (.tmp 9) (.tmp 8)))])
 (.seq (.cond (.tmp 10) .skip
 (.exit 0))
 (.seq (.block 1 (.seq (.reg [(rO 11 (.mv (.tmp 9))),
 (rO 6 (.mv (.tmp 11)))])
 (.reg [(rO 12 (.mv (.tmp 5))),
 (rO 13 (.mv (.tmp 6))),
 (rO 14 (.lit 3 1 1 [.int .i64 (0)] [(0, 1, (.tmp 13))])),
 (rO 15 (.app 3 1 8 (.tmp 12) (.tmp 14))),
 (rO 5 (.mv (.tmp 15)))])))
 (.reg [(rO 16 (.bin .add (.tmp 9) (.const (.int .i64 1)))),
 (rO 9 (.mv (.tmp 16)))])))))))
 (.seq (.reg [(rO 17 (.mv (.tmp 5))),
 (rO 18 (.fnl (.clo 95) [(.tmp 3), (.tmp 2)])),
 (rO 19 (.call 94 [(.tmp 17), (.tmp 18)]))])
 (.seq (.reg [(rO 20 (.mv (.tmp 5))),
 (rO 4 (.mv (.tmp 20)))])
 .ret)))))
def r71 : List RV := [.tmp 4]
theorem ok71 : FnOk Try.prog 71 21 c71 r71 := ⟨[4000067, 4000073], _, _, Try.func71, rfl, rfl, by kernel_rfl, by kernel_rfl, by kernel_rfl⟩
/-- vouch/policy.compare -/
def c72 : C := (.seq (.reg [(rO 2 (.box 89 (.tmp 0))),
 (rO 3 (.box 89 (.tmp 1))),
 (rO 4 (.mv (.const (.int .i64 0))))])
 (.seq (.draw [⟨(rO 7 (.ld (some 8) (.tmp 2))), .l⟩,
 ⟨(rO 8 (.call 96 [(.tmp 7)])), .g⟩,
 ⟨(rO 9 (.ld (some 8) (.tmp 3))), .l⟩,
 ⟨(rO 10 (.call 96 [(.tmp 9)])), .g⟩,
 ⟨(rO 5 (.new 182 [.int .i64 (0), .int .i64 (0), .int .i64 (0), .int .i64 (0)])), .f⟩,
 ⟨(rO 6 (.new 182 [.int .i64 (0), .int .i64 (0), .int .i64 (0), .int .i64 (0)])), .f⟩,
 ⟨⟨none, (.st 4 (.tmp 5) (.tmp 8)), none⟩, .m⟩,
 ⟨⟨none, (.st 4 (.tmp 6) (.tmp 10)), none⟩, .m⟩])
 (.seq (.draw [⟨(rO 11 (.raw (Go.Op.slice 182 (Go.Operand.tmp 5) none none none) 185)), .p⟩,
 ⟨(rO 12 (.raw (Go.Op.slice 182 (Go.Operand.tmp 6) none none none) 185)), .p⟩,
 ⟨(rO 13 (.call 97 [(.tmp 11), (.tmp 12)])), .m⟩,
 ⟨(rO 4 (.mv (.tmp 13))), .p⟩])
 .ret)))
def r72 : List RV := [.tmp 4]
theorem ok72 : FnOk Try.prog 72 14 c72 r72 := ⟨[4000067, 4000073], _, _, Try.func72, rfl, rfl, by kernel_rfl, by kernel_rfl, by kernel_rfl⟩
/-- slices.Delete[[]vouch/api.Entry,vouch/api.Entry] -/
def c73 : C := (.seq (.reg [(rO 6 (.mv (.const (.slice none 0 0))))])
 (.seq (.reg [(rO 8 (.mv (.tmp 0))),
 (rO 9 (.mv (.tmp 1))),
 (rO 10 (.mv (.tmp 2))),
 (rO 11 (.mv (.tmp 0))),
 (rO 12 (.len true (.tmp 11))),
 (rO 13 (.raw (Go.Op.slice 83 (Go.Operand.tmp 8) (some (Go.Operand.tmp 9)) (some (Go.Operand.tmp 10)) (some (Go.Operand.tmp 12))) 83))])
 (.seq (.seq (.reg [(rO 14 (.mv (.tmp 1))),
 (rO 15 (.mv (.tmp 2))),
 (rO 16 (.bin .eql (.tmp 14) (.tmp 15)))])
 (.cond (.tmp 16) (.seq (.reg [(rO 17 (.mv (.tmp 0))),
 (rO 6 (.mv (.tmp 17)))])
 .ret)
 .skip))
 (.seq (.reg [(rO 18 (.mv (.tmp 0))),
 (rO 19 (.len true (.tmp 18))),
 (rO 7 (.mv (.tmp 19)))])
 (.seq (.draw [⟨(rO 20 (.mv (.tmp 0))), .p⟩,
 ⟨(rO 21 (.mv (.tmp 1))), .p⟩,
 ⟨(rO 22 (.fnl (.slh 8) [(.tmp 20), (.tmp 21)])), .p⟩,
 ⟨(rO 23 (.mv (.tmp 0))), .p⟩,
 ⟨(rO 24 (.mv (.tmp 2))), .p⟩,
 ⟨(rO 25 (.fnl (.sll 8) [(.tmp 23), (.tmp 24)])), .p⟩,
 ⟨(rO 26 (.app 89 8 80 (.tmp 22) (.tmp 25))), .m⟩,
 ⟨(rO 0 (.mv (.tmp 26))), .p⟩])
 (.seq (.reg [(rO 27 (.mv (.tmp 0))),
 (rO 28 (.mv (.tmp 0))),
 (rO 29 (.len true (.tmp 28))),
 (rO 30 (.mv (.tmp 7))),
 (rO 31 (.raw (Go.Op.slice 83 (Go.Operand.tmp 27) (some (Go.Operand.tmp 29)) (some (Go.Operand.tmp 30)) none) 83)),
 ⟨none, (.hop (Go.Op.call { callee := (Go.Callee.builtin Go.Builtin.clear), args := #[(Go.Operand.tmp 31)], argTypes := #[83] }) 0), none⟩])
 (.seq (.reg [(rO 32 (.mv (.tmp 0))),
 (rO 6 (.mv (.tmp 32)))])
 .ret)))))))
def r73 : List RV := [.tmp 6]
theorem ok73 : FnOk Try.prog 73 33 c73 r73 := ⟨[4000067, 4000073], _, _, Try.func73, rfl, rfl, by kernel_rfl, by kernel_rfl, by kernel_rfl⟩
/-- slices.BinarySearchFunc[[]vouch/api.Entry,vouch/api.Entry,int64] -/
def c85 : C := (.seq (.reg [(rO 6 (.mv (.const (.int .i64 0)))),
 (rO 7 (.mv (.const (.bool false))))])
 (.seq (.reg [(rO 12 (.mv (.tmp 0))),
 (rO 13 (.len true (.tmp 12))),
 (rO 8 (.mv (.tmp 13)))])
 (.seq (.reg [(rO 14 (.mv (.tmp 8))),
 (rO 9 (.mv (.const (.int .i64 0)))),
 (rO 10 (.mv (.tmp 14)))])
 (.seq (.block 0 (.loop (.seq (.seq (.reg [(rO 15 (.mv (.tmp 9))),
 (rO 16 (.mv (.tmp 10))),
 (rO 17 (.bin .lss (.tmp 15) (.tmp 16)))])
 (.cond (.tmp 17) .skip
 (.exit 0)))
 (.block 1 (.seq (.reg [(rO 18 (.mv (.tmp 9))),
 (rO 19 (.mv (.tmp 10))),
 (rO 20 (.bin .add (.tmp 18) (.tmp 19))),
 (rO 21 (.conv .u64 (.tmp 20))),
 (rO 22 (.bin .shr (.tmp 21) (.const (.int .u64 1)))),
 (rO 23 (.conv .i64 (.tmp 22))),
 (rO 11 (.mv (.tmp 23)))])
 (.seq (.reg [(rO 24 (.mv (.tmp 2))),
 (rO 25 (.mv (.tmp 0))),
 (rO 26 (.mv (.tmp 11))),
 (rO 27 (.ia 8 (.tmp 25) (.tmp 26))),
 (rO 28 (.ld (some 8) (.tmp 27))),
 (rO 29 (.mv (.tmp 1))),
 (rO 30 (.callv (.tmp 24) [(.tmp 28), (.tmp 29)])),
 (rO 31 (.bin .lss (.tmp 30) (.const (.int .i64 0))))])
 (.cond (.tmp 31) (.reg [(rO 32 (.mv (.tmp 11))),
 (rO 33 (.bin .add (.tmp 32) (.const (.int .i64 1)))),
 (rO 9 (.mv (.tmp 33)))])
 (.reg [(rO 34 (.mv (.tmp 11))),
 (rO 10 (.mv (.tmp 34)))]))))))))
 (.seq (.reg [(rO 35 (.mv (.tmp 9))),
 (rO 36 (.mv (.tmp 9))),
 (rO 37 (.mv (.tmp 8))),
 (rO 38 (.bin .lss (.tmp 36) (.tmp 37))),
 (rO 39 (.mv (.tmp 38))),
 ⟨(some 40), (.mv (.tmp 2)), (some (39, true))⟩,
 ⟨(some 41), (.mv (.tmp 0)), (some (39, true))⟩,
 ⟨(some 42), (.mv (.tmp 9)), (some (39, true))⟩,
 ⟨(some 43), (.ia 8 (.tmp 41) (.tmp 42)), (some (39, true))⟩,
 ⟨(some 44), (.ld (some 8) (.tmp 43)), (some (39, true))⟩,
 ⟨(some 45), (.mv (.tmp 1)), (some (39, true))⟩,
 ⟨(some 46), (.callv (.tmp 40) [(.tmp 44), (.tmp 45)]), (some (39, true))⟩,
 ⟨(some 47), (.bin .eql (.tmp 46) (.const (.int .i64 0))), (some (39, true))⟩,
 (rO 48 (.pick (.tmp 39) (.tmp 47) (.const (.bool false)))),
 (rO 6 (.mv (.tmp 35))),
 (rO 7 (.mv (.tmp 48)))])
 .ret)))))
def r85 : List RV := [.tmp 6, .tmp 7]
theorem ok85 : FnOk Try.prog 85 49 c85 r85 := ⟨[4000067, 4000073], _, _, Try.func85, rfl, rfl, by kernel_rfl, by kernel_rfl, by kernel_rfl⟩
/-- (*vouch/table.Table).row -/
def c86 : C := (.seq (.reg [(rO 4 (.mv (.const (.slice none 0 0))))])
 (.seq (.seq (.reg [(rO 5 (.mv (.tmp 0))),
 (rO 6 (.eqs false .ptr (.tmp 5) (.const (.pointer none))))])
 (.cond (.tmp 6) (.seq (.reg [(rO 4 (.mv (.const (.slice none 0 0))))])
 .ret)
 .skip))
 (.seq (.reg [(rO 7 (.mv (.tmp 0))),
 (rO 8 (.nilc (.tmp 7))),
 (rO 9 (.fa 0 (.tmp 8))),
 (rO 10 (.ld none (.tmp 9))),
 (rO 11 (.mv (.tmp 1))),
 (rO 12 (.look (.get false false) (.slice none 0 0) (.tmp 10) (.tmp 11))),
 (rO 4 (.mv (.tmp 12)))])
 .ret)))
def r86 : List RV := [.tmp 4]
theorem ok86 : FnOk Try.prog 86 13 c86 r86 := ⟨[4000067, 4000073], _, _, Try.func86, rfl, rfl, by kernel_rfl, by kernel_rfl, by kernel_rfl⟩
/-- (*vouch/table.Table).find$1 -/
def c87 : C := (.seq (.reg [(rO 2 (.box 89 (.tmp 0))),
 (rO 4 (.mv (.const (.int .i64 0))))])
 (.seq (.reg [(rO 5 (.fa 0 (.tmp 2))),
 (rO 6 (.fa 3 (.tmp 5))),
 (rO 7 (.ld none (.tmp 6))),
 (rO 8 (.mv (.tmp 1))),
 (rO 9 (.call 88 [(.tmp 7), (.tmp 8)])),
 (rO 4 (.mv (.tmp 9)))])
 .ret))
def r87 : List RV := [.tmp 4]
theorem ok87 : FnOk Try.prog 87 10 c87 r87 := ⟨[4000067, 4000073], _, _, Try.func87, rfl, rfl, by kernel_rfl, by kernel_rfl, by kernel_rfl⟩
/-- cmp.Compare[int64] -/
def c88 : C := (.seq (.reg [(rO 4 (.mv (.const (.int .i64 0))))])
 (.seq (.reg [(rO 7 (.mv (.tmp 0))),
 (rO 8 (.call 109 [(.tmp 7)])),
 (rO 5 (.mv (.tmp 8)))])
 (.seq (.reg [(rO 9 (.mv (.tmp 1))),
 (rO 10 (.call 109 [(.tmp 9)])),
 (rO 6 (.mv (.tmp 10)))])
 (.seq (.seq (.reg [(rO 11 (.mv (.tmp 5)))])
 (.cond (.tmp 11) (.seq (.seq (.reg [(rO 12 (.mv (.tmp 6)))])
 (.cond (.tmp 12) (.seq (.reg [(rO 4 (.mv (.const (.int .i64 0))))])
 .ret)
 .skip))
 (.seq (.reg [(rO 4 (.mv (.const (.int .i64 (-1)))))])
 .ret))
 .skip))
 (.seq (.seq (.reg [(rO 13 (.mv (.tmp 6)))])
 (.cond (.tmp 13) (.seq (.reg [(rO 4 (.mv (.const (.int .i64 1))))])
 .ret)
 .skip))
 (.seq (.seq (.reg [(rO 14 (.mv (.tmp 0))),
 (rO 15 (.mv (.tmp 1))),
 (rO 16 (.bin .lss (.tmp 14) (.tmp 15)))])
 (.cond (.tmp 16) (.seq (.reg [(rO 4 (.mv (.const (.int .i64 (-1)))))])
 .ret)
 .skip))
 (.seq (.seq (.reg [(rO 17 (.mv (.tmp 0))),
 (rO 18 (.mv (.tmp 1))),
 (rO 19 (.bin .gtr (.tmp 17) (.tmp 18)))])
 (.cond (.tmp 19) (.seq (.reg [(rO 4 (.mv (.const (.int .i64 1))))])
 .ret)
 .skip))
 (.seq (.reg [(rO 4 (.mv (.const (.int .i64 0))))])
 .ret))))))))
def r88 : List RV := [.tmp 4]
theorem ok88 : FnOk Try.prog 88 20 c88 r88 := ⟨[4000067, 4000073], _, _, Try.func88, rfl, rfl, by kernel_rfl, by kernel_rfl, by kernel_rfl⟩
/-- slices.SortStableFunc[[]int,int] -/
def c94 : C := (.reg [(rO 4 (.mv (.tmp 0))),
 (rO 5 (.mv (.tmp 0))),
 (rO 6 (.len true (.tmp 5))),
 (rO 7 (.mv (.tmp 1))),
 (rO 8 (.call 114 [(.tmp 4), (.tmp 6), (.tmp 7)]))])
def r94 : List RV := []
theorem ok94 : FnOk Try.prog 94 9 c94 r94 := ⟨[4000067, 4000073], _, _, Try.func94, rfl, rfl, by kernel_rfl, by kernel_rfl, by kernel_rfl⟩
/-- vouch/policy.places$1 -/
def c95 : C := (.seq (.reg [(rO 6 (.mv (.const (.int .i64 0))))])
 (.seq (.draw [⟨(rO 7 (.ld none (.tmp 2))), .l⟩,
 ⟨(rO 8 (.ld none (.tmp 3))), .l⟩,
 ⟨(rO 9 (.mv (.tmp 0))), .p⟩,
 ⟨(rO 10 (.ia 8 (.tmp 8) (.tmp 9))), .p⟩,
 ⟨(rO 11 (.ld (some 8) (.tmp 10))), .l⟩,
 ⟨(rO 12 (.ld none (.tmp 3))), .l⟩,
 ⟨(rO 13 (.mv (.tmp 1))), .p⟩,
 ⟨(rO 14 (.ia 8 (.tmp 12) (.tmp 13))), .p⟩,
 ⟨(rO 15 (.ld (some 8) (.tmp 14))), .l⟩,
 ⟨(rO 16 (.callv (.tmp 7) [(.tmp 11), (.tmp 15)])), .m⟩,
 ⟨(rO 6 (.mv (.tmp 16))), .p⟩])
 .ret))
def r95 : List RV := [.tmp 6]
theorem ok95 : FnOk Try.prog 95 17 c95 r95 := ⟨[4000067, 4000073], _, _, Try.func95, rfl, rfl, by kernel_rfl, by kernel_rfl, by kernel_rfl⟩
/-- vouch/policy.rank -/
def c96 : C := (.seq (.reg [(rO 1 (.box 89 (.tmp 0))),
 (rO 2 (.new 182 [.int .i64 (0), .int .i64 (0), .int .i64 (0), .int .i64 (0)]))])
 (.seq (.seq (.reg [(rO 4 (.fa 0 (.tmp 1))),
 (rO 5 (.fa 4 (.tmp 4))),
 (rO 6 (.ld none (.tmp 5))),
 (rO 7 (.bin .neq (.tmp 6) (.const (.int .i64 4611686018427387904))))])
 (.cond (.tmp 7) (.seq (.reg [(rO 8 (.fa 0 (.tmp 1))),
 (rO 9 (.fa 4 (.tmp 8))),
 (rO 10 (.ld none (.tmp 9))),
 (rO 11 (.fa 7 (.tmp 1))),
 (rO 12 (.ld none (.tmp 11))),
 (rO 13 (.bld [.int .i64 (0), .int .i64 (0), .int .i64 (0), .int .i64 (0)] [(0, 1, (.const (.int .i64 0))), (1, 1, (.const (.int .i64 0))), (2, 1, (.tmp 10)), (3, 1, (.tmp 12))])),
 ⟨none, (.st 4 (.tmp 2) (.tmp 13)), none⟩])
 .ret)
 .skip))
 (.seq (.reg [(rO 3 (.mv (.const (.int .i64 0))))])
 (.seq (.seq (.reg [(rO 14 (.fa 5 (.tmp 1))),
 (rO 15 (.ld none (.tmp 14)))])
 (.cond (.tmp 15) (.reg [(rO 3 (.mv (.const (.int .i64 1))))])
 .skip))
 (.seq (.reg [(rO 16 (.mv (.tmp 3))),
 (rO 17 (.fa 6 (.tmp 1))),
 (rO 18 (.ld none (.tmp 17))),
 (rO 19 (.fa 7 (.tmp 1))),
 (rO 20 (.ld none (.tmp 19))),
 (rO 21 (.bld [.int .i64 (0), .int .i64 (0), .int .i64 (0), .int .i64 (0)] [(0, 1, (.const (.int .i64 1))), (1, 1, (.tmp 16)), (2, 1, (.tmp 18)), (3, 1, (.tmp 20))])),
 ⟨none, (.st 4 (.tmp 2) (.tmp 21)), none⟩])
 .ret)))))
def r96 : List RV := [.agg 2 4]
theorem ok96 : FnOk Try.prog 96 22 c96 r96 := ⟨[4000067, 4000073], _, _, Try.func96, rfl, rfl, by kernel_rfl, by kernel_rfl, by kernel_rfl⟩
/-- slices.Compare[[]int64,int64] -/
def c97 : C := (.seq (.reg [(rO 4 (.mv (.const (.int .i64 0))))])
 (.seq (.seq (.reg [(rO 9 (.mv (.tmp 0))),
 (rO 10 (.len true (.tmp 9))),
 (rO 11 (.mv (.const (.int .i64 0))))])
 (.block 0 (.loop (.seq (.reg [(rO 12 (.bin .lss (.tmp 11) (.tmp 10)))])
 (.seq (.cond (.tmp 12) .skip
 (.exit 0))
 (.seq (.block 1 (.seq (.reg [(rO 13 (.mv (.tmp 11))),
 (rO 14 (.ia 1 (.tmp 9) (.tmp 11))),
 (rO 15 (.ld none (.tmp 14))),
 (rO 5 (.mv (.tmp 13))),
 (rO 6 (.mv (.tmp 15)))])
 (.seq (.seq (.reg [(rO 16 (.mv (.tmp 5))),
 (rO 17 (.mv (.tmp 1))),
 (rO 18 (.len true (.tmp 17))),
 (rO 19 (.bin .geq (.tmp 16) (.tmp 18)))])
 (.cond (.tmp 19) (.seq (.reg [(rO 4 (.mv (.const (.int .i64 1))))])
 .ret)
 .skip))
 (.seq (.reg [(rO 20 (.mv (.tmp 1))),
 (rO 21 (.mv (.tmp 5))),
 (rO 22 (.ia 1 (.tmp 20) (.tmp 21))),
 (rO 23 (.ld none (.tmp 22))),
 (rO 7 (.mv (.tmp 23)))])
 (.seq (.reg [(rO 24 (.mv (.tmp 6))),
 (rO 25 (.mv (.tmp 7))),
 (rO 26 (.call 88 [(.tmp 24), (.tmp 25)])),
 (rO 8 (.mv (.tmp 26)))])
 (.seq (.reg [(rO 27 (.mv (.tmp 8))),
 (rO 28 (.bin .neq (.tmp 27) (.const (.int .i64 0))))])
 (.cond (.tmp 28) (.seq (.reg [(rO 29 (.mv (.tmp 8))),
 (rO 4 (.mv (.tmp 29)))])
 .ret)
 .skip)))))))
 (.reg [(rO 30 (.bin .add (.tmp 11) (.const (.int .i64 1)))),
 (rO 11 (.mv (.tmp 30)))])))))))
 (.seq (.seq (.reg [(rO 31 (.mv (.tmp 0))),
 (rO 32 (.len true (.tmp 31))),
 (rO 33 (.mv (.tmp 1))),
 (rO 34 (.len true (.tmp 33))),
 (rO 35 (.bin .lss (.tmp 32) (.tmp 34)))])
 (.cond (.tmp 35) (.seq (.reg [(rO 4 (.mv (.const (.int .i64 (-1)))))])
 .ret)
 .skip))
 (.seq (.reg [(rO 4 (.mv (.const (.int .i64 0))))])
 .ret))))
def r97 : List RV := [.tmp 4]
theorem ok97 : FnOk Try.prog 97 36 c97 r97 := ⟨[4000067, 4000073], _, _, Try.func97, rfl, rfl, by kernel_rfl, by kernel_rfl, by kernel_rfl⟩
/-- cmp.isNaN[int64] -/
def c109 : C := (.seq (.reg [(rO 2 (.mv (.const (.bool false))))])
 (.seq (.reg [(rO 3 (.mv (.tmp 0))),
 (rO 4 (.mv (.tmp 0))),
 (rO 5 (.bin .neq (.tmp 3) (.tmp 4))),
 (rO 2 (.mv (.tmp 5)))])
 .ret))
def r109 : List RV := [.tmp 2]
theorem ok109 : FnOk Try.prog 109 6 c109 r109 := ⟨[4000067, 4000073], _, _, Try.func109, rfl, rfl, by kernel_rfl, by kernel_rfl, by kernel_rfl⟩
/-- slices.stableCmpFunc[int] -/
def c114 : C := (.seq (.reg [(rO 6 (.mv (.const (.int .i64 20))))])
 (.seq (.reg [(rO 10 (.mv (.tmp 6))),
 (rO 7 (.mv (.const (.int .i64 0)))),
 (rO 8 (.mv (.tmp 10)))])
 (.seq (.block 0 (.loop (.seq (.seq (.reg [(rO 11 (.mv (.tmp 8))),
 (rO 12 (.mv (.tmp 1))),
 (rO 13 (.bin .leq (.tmp 11) (.tmp 12)))])
 (.cond (.tmp 13) .skip
 (.exit 0)))
 (.block 1 (.seq (.reg [(rO 14 (.mv (.tmp 0))),
 (rO 15 (.mv (.tmp 7))),
 (rO 16 (.mv (.tmp 8))),
 (rO 17 (.mv (.tmp 2))),
 (rO 18 (.call 141 [(.tmp 14), (.tmp 15), (.tmp 16), (.tmp 17)]))])
 (.seq (.reg [(rO 19 (.mv (.tmp 8))),
 (rO 7 (.mv (.tmp 19)))])
 (.reg [(rO 20 (.mv (.tmp 8))),
 (rO 21 (.mv (.tmp 6))),
 (rO 22 (.bin .add (.tmp 20) (.tmp 21))),
 (rO 8 (.mv (.tmp 22)))])))))))
 (.seq (.reg [(rO 23 (.mv (.tmp 0))),
 (rO 24 (.mv (.tmp 7))),
 (rO 25 (.mv (.tmp 1))),
 (rO 26 (.mv (.tmp 2))),
 (rO 27 (.call 141 [(.tmp 23), (.tmp 24), (.tmp 25), (.tmp 26)]))])
 (.block 2 (.loop (.seq (.seq (.reg [(rO 28 (.mv (.tmp 6))),
 (rO 29 (.mv (.tmp 1))),
 (rO 30 (.bin .lss (.tmp 28) (.tmp 29)))])
 (.cond (.tmp 30) .skip
 (.exit 2)))
 (.block 3 (.seq (.reg [(rO 31 (.mv (.tmp 6))),
 (rO 32 (.bin .mul (.const (.int .i64 2)) (.tmp 31))),
 (rO 7 (.mv (.const (.int .i64 0)))),
 (rO 8 (.mv (.tmp 32)))])
 (.seq (.block 4 (.loop (.seq (.seq (.reg [(rO 33 (.mv (.tmp 8))),
 (rO 34 (.mv (.tmp 1))),
 (rO 35 (.bin .leq (.tmp 33) (.tmp 34)))])
 (.cond (.tmp 35) .skip
 (.exit 4)))
 (.block 5 (.seq (.reg [(rO 36 (.mv (.tmp 0))),
 (rO 37 (.mv (.tmp 7))),
 (rO 38 (.mv (.tmp 7))),
 (rO 39 (.mv (.tmp 6))),
 (rO 40 (.bin .add (.tmp 38) (.tmp 39))),
 (rO 41 (.mv (.tmp 8))),
 (rO 42 (.mv (.tmp 2))),
 (rO 43 (.call 142 [(.tmp 36), (.tmp 37), (.tmp 40), (.tmp 41), (.tmp 42)]))])
 (.seq (.reg [(rO 44 (.mv (.tmp 8))),
 (rO 7 (.mv (.tmp 44)))])
 (.reg [(rO 45 (.mv (.tmp 8))),
 (rO 46 (.mv (.tmp 6))),
 (rO 47 (.bin .mul (.const (.int .i64 2)) (.tmp 46))),
 (rO 48 (.bin .add (.tmp 45) (.tmp 47))),
 (rO 8 (.mv (.tmp 48)))])))))))
 (.seq (.seq (.reg [(rO 49 (.mv (.tmp 7))),
 (rO 50 (.mv (.tmp 6))),
 (rO 51 (.bin .add (.tmp 49) (.tmp 50))),
 (rO 9 (.mv (.tmp 51)))])
 (.seq (.reg [(rO 52 (.mv (.tmp 9))),
 (rO 53 (.mv (.tmp 1))),
 (rO 54 (.bin .lss (.tmp 52) (.tmp 53)))])
 (.cond (.tmp 54) (.reg [(rO 55 (.mv (.tmp 0))),
 (rO 56 (.mv (.tmp 7))),
 (rO 57 (.mv (.tmp 9))),
 (rO 58 (.mv (.tmp 1))),
 (rO 59 (.mv (.tmp 2))),
 (rO 60 (.call 142 [(.tmp 55), (.tmp 56), (.tmp 57), (.tmp 58), (.tmp 59)]))])
 .skip)))
 (.reg [(rO 61 (.mv (.tmp 6))),
 (rO 62 (.bin .mul (.tmp 61) (.const (.int .i64 2)))),
 (rO 6 (.mv (.tmp 62)))]))))))))))))
def r114 : List RV := []
theorem ok114 : FnOk Try.prog 114 63 c114 r114 := ⟨[4000067, 4000073], _, _, Try.func114, rfl, rfl, by kernel_rfl, by kernel_rfl, by kernel_rfl⟩
/-- slices.insertionSortCmpFunc[int] -/
def c141 : C := (.seq (.reg [(rO 10 (.mv (.tmp 1))),
 (rO 11 (.bin .add (.tmp 10) (.const (.int .i64 1)))),
 (rO 8 (.mv (.tmp 11)))])
 (.block 0 (.loop (.seq (.seq (.reg [(rO 12 (.mv (.tmp 8))),
 (rO 13 (.mv (.tmp 2))),
 (rO 14 (.bin .lss (.tmp 12) (.tmp 13)))])
 (.cond (.tmp 14) .skip
 (.exit 0)))
 (.seq (.block 1 (.seq (.reg [(rO 17 (.mv (.tmp 8))),
 (rO 9 (.mv (.tmp 17)))])
 (.block 2 (.loop (.seq (.seq (.draw [⟨(rO 18 (.mv (.tmp 9))), .p⟩,
 ⟨(rO 19 (.mv (.tmp 1))), .p⟩,
 ⟨(rO 20 (.bin .gtr (.tmp 18) (.tmp 19))), .p⟩,
 ⟨(rO 21 (.mv (.tmp 20))), .p⟩,
 ⟨⟨(some 22), (.mv (.tmp 3)), (some (21, true))⟩, .p⟩,
 ⟨⟨(some 23), (.mv (.tmp 0)), (some (21, true))⟩, .p⟩,
 ⟨⟨(some 24), (.mv (.tmp 9)), (some (21, true))⟩, .p⟩,
 ⟨⟨(some 25), (.ia 1 (.tmp 23) (.tmp 24)), (some (21, true))⟩, .p⟩,
 ⟨⟨(some 26), (.ld none (.tmp 25)), (some (21, true))⟩, .l⟩,
 ⟨⟨(some 27), (.mv (.tmp 0)), (some (21, true))⟩, .p⟩,
 ⟨⟨(some 28), (.mv (.tmp 9)), (some (21, true))⟩, .p⟩,
 ⟨⟨(some 29), (.bin .sub (.tmp 28) (.const (.int .i64 1))), (some (21, true))⟩, .p⟩,
 ⟨⟨(some 30), (.ia 1 (.tmp 27) (.tmp 29)), (some (21, true))⟩, .p⟩,
 ⟨⟨(some 31), (.ld none (.tmp 30)), (some (21, true))⟩, .l⟩,
 ⟨⟨(some 32), (.callv (.tmp 22) [(.tmp 26), (.tmp 31)]), (some (21, true))⟩, .m⟩,
 ⟨⟨(some 33), (.bin .lss (.tmp 32) (.const (.int .i64 0))), (some (21, true))⟩, .p⟩,
 ⟨(rO 34 (.pick (.tmp 21) (.tmp 33) (.const (.bool false)))), .p⟩])
 (.cond (.tmp 34) .skip
 (.exit 2)))
 (.seq (.block 3 (.draw [⟨(rO 37 (.mv (.tmp 0))), .p⟩,
 ⟨(rO 38 (.mv (.tmp 9))), .p⟩,
 ⟨(rO 39 (.mv (.tmp 0))), .p⟩,
 ⟨(rO 40 (.mv (.tmp 9))), .p⟩,
 ⟨(rO 41 (.bin .sub (.tmp 40) (.const (.int .i64 1)))), .p⟩,
 ⟨(rO 42 (.mv (.tmp 0))), .p⟩,
 ⟨(rO 43 (.mv (.tmp 9))), .p⟩,
 ⟨(rO 44 (.bin .sub (.tmp 43) (.const (.int .i64 1)))), .p⟩,
 ⟨(rO 45 (.ia 1 (.tmp 42) (.tmp 44))), .p⟩,
 ⟨(rO 46 (.ld none (.tmp 45))), .l⟩,
 ⟨(rO 47 (.mv (.tmp 0))), .p⟩,
 ⟨(rO 48 (.mv (.tmp 9))), .p⟩,
 ⟨(rO 49 (.ia 1 (.tmp 47) (.tmp 48))), .p⟩,
 ⟨(rO 50 (.ld none (.tmp 49))), .l⟩,
 ⟨(rO 51 (.ia 1 (.tmp 37) (.tmp 38))), .p⟩,
 ⟨⟨none, (.st 1 (.tmp 51) (.tmp 46)), none⟩, .m⟩,
 ⟨(rO 52 (.ia 1 (.tmp 39) (.tmp 41))), .p⟩,
 ⟨⟨none, (.st 1 (.tmp 52) (.tmp 50)), none⟩, .m⟩]))
 (.reg [(rO 35 (.mv (.tmp 9))),
 (rO 36 (.bin .sub (.tmp 35) (.const (.int .i64 1)))),
 (rO 9 (.mv (.tmp 36)))])))))))
 (.reg [(rO 15 (.mv (.tmp 8))),
 (rO 16 (.bin .add (.tmp 15) (.const (.int .i64 1)))),
 (rO 8 (.mv (.tmp 16)))]))))))
def r141 : List RV := []
theorem ok141 : FnOk Try.prog 141 53 c141 r141 := ⟨[4000067, 4000073], _, _, Try.func141, rfl, rfl, by kernel_rfl, by kernel_rfl, by kernel_rfl⟩
def c142_br177 : C := (.reg [(rO 175 (.mv (.tmp 19))),
 (rO 176 (.mv (.tmp 20))),
 (rO 177 (.bin .sub (.tmp 175) (.tmp 176))),
 (rO 24 (.mv (.tmp 177)))])
def c142_tr177 : C := (.seq (.seq (.reg [(rO 178 (.mv (.tmp 20))),
 (rO 179 (.mv (.tmp 2))),
 (rO 180 (.bin .lss (.tmp 178) (.tmp 179))),
 (rO 181 (.mv (.tmp 180))),
 ⟨(some 182), (.mv (.tmp 2)), (some (181, true))⟩,
 ⟨(some 183), (.mv (.tmp 24)), (some (181, true))⟩,
 ⟨(some 184), (.bin .lss (.tmp 182) (.tmp 183)), (some (181, true))⟩,
 (rO 185 (.pick (.tmp 181) (.tmp 184) (.const (.bool false))))])
 (.cond (.tmp 185) (.reg [(rO 186 (.mv (.tmp 0))),
 (rO 187 (.mv (.tmp 20))),
 (rO 188 (.mv (.tmp 2))),
 (rO 189 (.mv (.tmp 24))),
 (rO 190 (.mv (.tmp 4))),
 (rO 191 (.call 151 [(.tmp 186), (.tmp 187), (.tmp 188), (.tmp 189), (.tmp 190)]))])
 .skip))
 (.seq (.seq (.reg [(rO 192 (.mv (.tmp 1))),
 (rO 193 (.mv (.tmp 20))),
 (rO 194 (.bin .lss (.tmp 192) (.tmp 193))),
 (rO 195 (.mv (.tmp 194))),
 ⟨(some 196), (.mv (.tmp 20)), (some (195, true))⟩,
 ⟨(some 197), (.mv (.tmp 18)), (some (195, true))⟩,
 ⟨(some 198), (.bin .lss (.tmp 196) (.tmp 197)), (some (195, true))⟩,
 (rO 199 (.pick (.tmp 195) (.tmp 198) (.const (.bool false))))])
 (.cond (.tmp 199) (.reg [(rO 200 (.mv (.tmp 0))),
 (rO 201 (.mv (.tmp 1))),
 (rO 202 (.mv (.tmp 20))),
 (rO 203 (.mv (.tmp 18))),
 (rO 204 (.mv (.tmp 4))),
 (rO 205 (.call 142 [(.tmp 200), (.tmp 201), (.tmp 202), (.tmp 203), (.tmp 204)]))])
 .skip))
 (.seq (.reg [(rO 206 (.mv (.tmp 18))),
 (rO 207 (.mv (.tmp 24))),
 (rO 208 (.bin .lss (.tmp 206) (.tmp 207))),
 (rO 209 (.mv (.tmp 208))),
 ⟨(some 210), (.mv (.tmp 24)), (some (209, true))⟩,
 ⟨(some 211), (.mv (.tmp 3)), (some (209, true))⟩,
 ⟨(some 212), (.bin .lss (.tmp 210) (.tmp 211)), (some (209, true))⟩,
 (rO 213 (.pick (.tmp 209) (.tmp 212) (.const (.bool false))))])
 (.cond (.tmp 213) (.reg [(rO 214 (.mv (.tmp 0))),
 (rO 215 (.mv (.tmp 18))),
 (rO 216 (.mv (.tmp 24))),
 (rO 217 (.mv (.tmp 3))),
 (rO 218 (.mv (.tmp 4))),
 (rO 219 (.call 142 [(.tmp 214), (.tmp 215), (.tmp 216), (.tmp 217), (.tmp 218)]))])
 .skip))))
def c142_sr177 : C := .seq c142_br177 c142_tr177
def c142_br148 : C := (.reg [(rO 147 (.mv (.tmp 19))),
 (rO 148 (.bin .sub (.tmp 147) (.const (.int .i64 1)))),
 (rO 22 (.mv (.tmp 148)))])
def c142_tr148 : C := (.seq (.block 8 (.loop (.seq (.seq (.reg [(rO 149 (.mv (.tmp 20))),
 (rO 150 (.mv (.tmp 21))),
 (rO 151 (.bin .lss (.tmp 149) (.tmp 150)))])
 (.cond (.tmp 151) .skip
 (.exit 8)))
 (.block 9 (.seq (.reg [(rO 152 (.mv (.tmp 20))),
 (rO 153 (.mv (.tmp 21))),
 (rO 154 (.bin .add (.tmp 152) (.tmp 153))),
 (rO 155 (.conv .u64 (.tmp 154))),
 (rO 156 (.bin .shr (.tmp 155) (.const (.int .u64 1)))),
 (rO 157 (.conv .i64 (.tmp 156))),
 (rO 23 (.mv (.tmp 157)))])
 (.seq (.draw [⟨(rO 158 (.mv (.tmp 4))), .p⟩,
 ⟨(rO 159 (.mv (.tmp 0))), .p⟩,
 ⟨(rO 160 (.mv (.tmp 22))), .p⟩,
 ⟨(rO 161 (.mv (.tmp 23))), .p⟩,
 ⟨(rO 162 (.bin .sub (.tmp 160) (.tmp 161))), .p⟩,
 ⟨(rO 163 (.ia 1 (.tmp 159) (.tmp 162))), .p⟩,
 ⟨(rO 164 (.ld none (.tmp 163))), .l⟩,
 ⟨(rO 165 (.mv (.tmp 0))), .p⟩,
 ⟨(rO 166 (.mv (.tmp 23))), .p⟩,
 ⟨(rO 167 (.ia 1 (.tmp 165) (.tmp 166))), .p⟩,
 ⟨(rO 168 (.ld none (.tmp 167))), .l⟩,
 ⟨(rO 169 (.callv (.tmp 158) [(.tmp 164), (.tmp 168)])), .m⟩,
 ⟨(rO 170 (.bin .lss (.tmp 169) (.const (.int .i64 0)))), .p⟩,
 ⟨(rO 171 (.nt (.tmp 170))), .p⟩])
 (.cond (.tmp 171) (.reg [(rO 172 (.mv (.tmp 23))),
 (rO 173 (.bin .add (.tmp 172) (.const (.int .i64 1)))),
 (rO 20 (.mv (.tmp 173)))])
 (.reg [(rO 174 (.mv (.tmp 23))),
 (rO 21 (.mv (.tmp 174)))]))))))))
 c142_sr177)
def c142_sr148 : C := .seq c142_br148 c142_tr148
/-- slices.symMergeCmpFunc[int] -/
def c142 : C := (.seq (.seq (.reg [(rO 25 (.mv (.tmp 2))),
 (rO 26 (.mv (.tmp 1))),
 (rO 27 (.bin .sub (.tmp 25) (.tmp 26))),
 (rO 28 (.bin .eql (.tmp 27) (.const (.int .i64 1))))])
 (.cond (.tmp 28) (.seq (.reg [(rO 29 (.mv (.tmp 2))),
 (rO 10 (.mv (.tmp 29)))])
 (.seq (.reg [(rO 30 (.mv (.tmp 3))),
 (rO 11 (.mv (.tmp 30)))])
 (.seq (.block 0 (.loop (.seq (.seq (.reg [(rO 31 (.mv (.tmp 10))),
 (rO 32 (.mv (.tmp 11))),
 (rO 33 (.bin .lss (.tmp 31) (.tmp 32)))])
 (.cond (.tmp 33) .skip
 (.exit 0)))
 (.block 1 (.seq (.reg [(rO 34 (.mv (.tmp 10))),
 (rO 35 (.mv (.tmp 11))),
 (rO 36 (.bin .add (.tmp 34) (.tmp 35))),
 (rO 37 (.conv .u64 (.tmp 36))),
 (rO 38 (.bin .shr (.tmp 37) (.const (.int .u64 1)))),
 (rO 39 (.conv .i64 (.tmp 38))),
 (rO 12 (.mv (.tmp 39)))])
 (.seq (.draw [⟨(rO 40 (.mv (.tmp 4))), .p⟩,
 ⟨(rO 41 (.mv (.tmp 0))), .p⟩,
 ⟨(rO 42 (.mv (.tmp 12))), .p⟩,
 ⟨(rO 43 (.ia 1 (.tmp 41) (.tmp 42))), .p⟩,
 ⟨(rO 44 (.ld none (.tmp 43))), .l⟩,
 ⟨(rO 45 (.mv (.tmp 0))), .p⟩,
 ⟨(rO 46 (.mv (.tmp 1))), .p⟩,
 ⟨(rO 47 (.ia 1 (.tmp 45) (.tmp 46))), .p⟩,
 ⟨(rO 48 (.ld none (.tmp 47))), .l⟩,
 ⟨(rO 49 (.callv (.tmp 40) [(.tmp 44), (.tmp 48)])), .m⟩,
 ⟨(rO 50 (.bin .lss (.tmp 49) (.const (.int .i64 0)))), .p⟩])
 (.cond (.tmp 50) (.reg [(rO 51 (.mv (.tmp 12))),
 (rO 52 (.bin .add (.tmp 51) (.const (.int .i64 1)))),
 (rO 10 (.mv (.tmp 52)))])
 (.reg [(rO 53 (.mv (.tmp 12))),
 (rO 11 (.mv (.tmp 53)))]))))))))
 (.seq (.seq (.reg [(rO 54 (.mv (.tmp 1))),
 (rO 13 (.mv (.tmp 54)))])
 (.block 2 (.loop (.seq (.seq (.reg [(rO 55 (.mv (.tmp 13))),
 (rO 56 (.mv (.tmp 10))),
 (rO 57 (.bin .sub (.tmp 56) (.const (.int .i64 1)))),
 (rO 58 (.bin .lss (.tmp 55) (.tmp 57)))])
 (.cond (.tmp 58) .skip
 (.exit 2)))
 (.seq (.block 3 (.draw [⟨(rO 61 (.mv (.tmp 0))), .p⟩,
 ⟨(rO 62 (.mv (.tmp 13))), .p⟩,
 ⟨(rO 63 (.mv (.tmp 0))), .p⟩,
 ⟨(rO 64 (.mv (.tmp 13))), .p⟩,
 ⟨(rO 65 (.bin .add (.tmp 64) (.const (.int .i64 1)))), .p⟩,
 ⟨(rO 66 (.mv (.tmp 0))), .p⟩,
 ⟨(rO 67 (.mv (.tmp 13))), .p⟩,
 ⟨(rO 68 (.bin .add (.tmp 67) (.const (.int .i64 1)))), .p⟩,
 ⟨(rO 69 (.ia 1 (.tmp 66) (.tmp 68))), .p⟩,
 ⟨(rO 70 (.ld none (.tmp 69))), .l⟩,
 ⟨(rO 71 (.mv (.tmp 0))), .p⟩,
 ⟨(rO 72 (.mv (.tmp 13))), .p⟩,
 ⟨(rO 73 (.ia 1 (.tmp 71) (.tmp 72))), .p⟩,
 ⟨(rO 74 (.ld none (.tmp 73))), .l⟩,
 ⟨(rO 75 (.ia 1 (.tmp 61) (.tmp 62))), .p⟩,
 ⟨⟨none, (.st 1 (.tmp 75) (.tmp 70)), none⟩, .m⟩,
 ⟨(rO 76 (.ia 1 (.tmp 63) (.tmp 65))), .p⟩,
 ⟨⟨none, (.st 1 (.tmp 76) (.tmp 74)), none⟩, .m⟩]))
 (.reg [(rO 59 (.mv (.tmp 13))),
 (rO 60 (.bin .add (.tmp 59) (.const (.int .i64 1)))),
 (rO 13 (.mv (.tmp 60)))]))))))
 .ret))))
 .skip))
 (.seq (.seq (.reg [(rO 77 (.mv (.tmp 3))),
 (rO 78 (.mv (.tmp 2))),
 (rO 79 (.bin .sub (.tmp 77) (.tmp 78))),
 (rO 80 (.bin .eql (.tmp 79) (.const (.int .i64 1))))])
 (.cond (.tmp 80) (.seq (.reg [(rO 81 (.mv (.tmp 1))),
 (rO 14 (.mv (.tmp 81)))])
 (.seq (.reg [(rO 82 (.mv (.tmp 2))),
 (rO 15 (.mv (.tmp 82)))])
 (.seq (.block 4 (.loop (.seq (.seq (.reg [(rO 83 (.mv (.tmp 14))),
 (rO 84 (.mv (.tmp 15))),
 (rO 85 (.bin .lss (.tmp 83) (.tmp 84)))])
 (.cond (.tmp 85) .skip
 (.exit 4)))
 (.block 5 (.seq (.reg [(rO 86 (.mv (.tmp 14))),
 (rO 87 (.mv (.tmp 15))),
 (rO 88 (.bin .add (.tmp 86) (.tmp 87))),
 (rO 89 (.conv .u64 (.tmp 88))),
 (rO 90 (.bin .shr (.tmp 89) (.const (.int .u64 1)))),
 (rO 91 (.conv .i64 (.tmp 90))),
 (rO 16 (.mv (.tmp 91)))])
 (.seq (.draw [⟨(rO 92 (.mv (.tmp 4))), .p⟩,
 ⟨(rO 93 (.mv (.tmp 0))), .p⟩,
 ⟨(rO 94 (.mv (.tmp 2))), .p⟩,
 ⟨(rO 95 (.ia 1 (.tmp 93) (.tmp 94))), .p⟩,
 ⟨(rO 96 (.ld none (.tmp 95))), .l⟩,
 ⟨(rO 97 (.mv (.tmp 0))), .p⟩,
 ⟨(rO 98 (.mv (.tmp 16))), .p⟩,
 ⟨(rO 99 (.ia 1 (.tmp 97) (.tmp 98))), .p⟩,
 ⟨(rO 100 (.ld none (.tmp 99))), .l⟩,
 ⟨(rO 101 (.callv (.tmp 92) [(.tmp 96), (.tmp 100)])), .m⟩,
 ⟨(rO 102 (.bin .lss (.tmp 101) (.const (.int .i64 0)))), .p⟩,
 ⟨(rO 103 (.nt (.tmp 102))), .p⟩])
 (.cond (.tmp 103) (.reg [(rO 104 (.mv (.tmp 16))),
 (rO 105 (.bin .add (.tmp 104) (.const (.int .i64 1)))),
 (rO 14 (.mv (.tmp 105)))])
 (.reg [(rO 106 (.mv (.tmp 16))),
 (rO 15 (.mv (.tmp 106)))]))))))))
 (.seq (.seq (.reg [(rO 107 (.mv (.tmp 2))),
 (rO 17 (.mv (.tmp 107)))])
 (.block 6 (.loop (.seq (.seq (.reg [(rO 108 (.mv (.tmp 17))),
 (rO 109 (.mv (.tmp 14))),
 (rO 110 (.bin .gtr (.tmp 108) (.tmp 109)))])
 (.cond (.tmp 110) .skip
 (.exit 6)))
 (.seq (.block 7 (.draw [⟨(rO 113 (.mv (.tmp 0))), .p⟩,
 ⟨(rO 114 (.mv (.tmp 17))), .p⟩,
 ⟨(rO 115 (.mv (.tmp 0))), .p⟩,
 ⟨(rO 116 (.mv (.tmp 17))), .p⟩,
 ⟨(rO 117 (.bin .sub (.tmp 116) (.const (.int .i64 1)))), .p⟩,
 ⟨(rO 118 (.mv (.tmp 0))), .p⟩,
 ⟨(rO 119 (.mv (.tmp 17))), .p⟩,
 ⟨(rO 120 (.bin .sub (.tmp 119) (.const (.int .i64 1)))), .p⟩,
 ⟨(rO 121 (.ia 1 (.tmp 118) (.tmp 120))), .p⟩,
 ⟨(rO 122 (.ld none (.tmp 121))), .l⟩,
 ⟨(rO 123 (.mv (.tmp 0))), .p⟩,
 ⟨(rO 124 (.mv (.tmp 17))), .p⟩,
 ⟨(rO 125 (.ia 1 (.tmp 123) (.tmp 124))), .p⟩,
 ⟨(rO 126 (.ld none (.tmp 125))), .l⟩,
 ⟨(rO 127 (.ia 1 (.tmp 113) (.tmp 114))), .p⟩,
 ⟨⟨none, (.st 1 (.tmp 127) (.tmp 122)), none⟩, .m⟩,
 ⟨(rO 128 (.ia 1 (.tmp 115) (.tmp 117))), .p⟩,
 ⟨⟨none, (.st 1 (.tmp 128) (.tmp 126)), none⟩, .m⟩]))
 (.reg [(rO 111 (.mv (.tmp 17))),
 (rO 112 (.bin .sub (.tmp 111) (.const (.int .i64 1)))),
 (rO 17 (.mv (.tmp 112)))]))))))
 .ret))))
 .skip))
 (.seq (.reg [(rO 129 (.mv (.tmp 1))),
 (rO 130 (.mv (.tmp 3))),
 (rO 131 (.bin .add (.tmp 129) (.tmp 130))),
 (rO 132 (.conv .u64 (.tmp 131))),
 (rO 133 (.bin .shr (.tmp 132) (.const (.int .u64 1)))),
 (rO 134 (.conv .i64 (.tmp 133))),
 (rO 18 (.mv (.tmp 134)))])
 (.seq (.reg [(rO 135 (.mv (.tmp 18))),
 (rO 136 (.mv (.tmp 2))),
 (rO 137 (.bin .add (.tmp 135) (.tmp 136))),
 (rO 19 (.mv (.tmp 137)))])
 (.seq (.reg [(rO 20 (.mv (.const (.int .i64 0)))),
 (rO 21 (.mv (.const (.int .i64 0))))])
 (.seq (.seq (.reg [(rO 138 (.mv (.tmp 2))),
 (rO 139 (.mv (.tmp 18))),
 (rO 140 (.bin .gtr (.tmp 138) (.tmp 139)))])
 (.cond (.tmp 140) (.seq (.reg [(rO 141 (.mv (.tmp 19))),
 (rO 142 (.mv (.tmp 3))),
 (rO 143 (.bin .sub (.tmp 141) (.tmp 142))),
 (rO 20 (.mv (.tmp 143)))])
 (.reg [(rO 144 (.mv (.tmp 18))),
 (rO 21 (.mv (.tmp 144)))]))
 (.seq (.reg [(rO 145 (.mv (.tmp 1))),
 (rO 20 (.mv (.tmp 145)))])
 (.reg [(rO 146 (.mv (.tmp 2))),
 (rO 21 (.mv (.tmp 146)))]))))
 c142_sr148))))))
def r142 : List RV := []
theorem ok142 : FnOk Try.prog 142 220 c142 r142 := ⟨[4000067, 4000073], _, _, Try.func142, rfl, rfl, by kernel_rfl, by kernel_rfl, by kernel_rfl⟩
/-- slices.rotateCmpFunc[int] -/
def c151 : C := (.seq (.reg [(rO 12 (.mv (.tmp 2))),
 (rO 13 (.mv (.tmp 1))),
 (rO 14 (.bin .sub (.tmp 12) (.tmp 13))),
 (rO 10 (.mv (.tmp 14)))])
 (.seq (.reg [(rO 15 (.mv (.tmp 3))),
 (rO 16 (.mv (.tmp 2))),
 (rO 17 (.bin .sub (.tmp 15) (.tmp 16))),
 (rO 11 (.mv (.tmp 17)))])
 (.seq (.block 0 (.loop (.seq (.seq (.reg [(rO 18 (.mv (.tmp 10))),
 (rO 19 (.mv (.tmp 11))),
 (rO 20 (.bin .neq (.tmp 18) (.tmp 19)))])
 (.cond (.tmp 20) .skip
 (.exit 0)))
 (.block 1 (.seq (.reg [(rO 21 (.mv (.tmp 10))),
 (rO 22 (.mv (.tmp 11))),
 (rO 23 (.bin .gtr (.tmp 21) (.tmp 22)))])
 (.cond (.tmp 23) (.seq (.reg [(rO 24 (.mv (.tmp 0))),
 (rO 25 (.mv (.tmp 2))),
 (rO 26 (.mv (.tmp 10))),
 (rO 27 (.bin .sub (.tmp 25) (.tmp 26))),
 (rO 28 (.mv (.tmp 2))),
 (rO 29 (.mv (.tmp 11))),
 (rO 30 (.mv (.tmp 4))),
 (rO 31 (.call 153 [(.tmp 24), (.tmp 27), (.tmp 28), (.tmp 29), (.tmp 30)]))])
 (.reg [(rO 32 (.mv (.tmp 10))),
 (rO 33 (.mv (.tmp 11))),
 (rO 34 (.bin .sub (.tmp 32) (.tmp 33))),
 (rO 10 (.mv (.tmp 34)))]))
 (.seq (.reg [(rO 35 (.mv (.tmp 0))),
 (rO 36 (.mv (.tmp 2))),
 (rO 37 (.mv (.tmp 10))),
 (rO 38 (.bin .sub (.tmp 36) (.tmp 37))),
 (rO 39 (.mv (.tmp 2))),
 (rO 40 (.mv (.tmp 11))),
 (rO 41 (.bin .add (.tmp 39) (.tmp 40))),
 (rO 42 (.mv (.tmp 10))),
 (rO 43 (.bin .sub (.tmp 41) (.tmp 42))),
 (rO 44 (.mv (.tmp 10))),
 (rO 45 (.mv (.tmp 4))),
 (rO 46 (.call 153 [(.tmp 35), (.tmp 38), (.tmp 43), (.tmp 44), (.tmp 45)]))])
 (.reg [(rO 47 (.mv (.tmp 11))),
 (rO 48 (.mv (.tmp 10))),
 (rO 49 (.bin .sub (.tmp 47) (.tmp 48))),
 (rO 11 (.mv (.tmp 49)))]))))))))
 (.reg [(rO 50 (.mv (.tmp 0))),
 (rO 51 (.mv (.tmp 2))),
 (rO 52 (.mv (.tmp 10))),
 (rO 53 (.bin .sub (.tmp 51) (.tmp 52))),
 (rO 54 (.mv (.tmp 2))),
 (rO 55 (.mv (.tmp 10))),
 (rO 56 (.mv (.tmp 4))),
 (rO 57 (.call 153 [(.tmp 50), (.tmp 53), (.tmp 54), (.tmp 55), (.tmp 56)]))]))))
def r151 : List RV := []
theorem ok151 : FnOk Try.prog 151 58 c151 r151 := ⟨[4000067, 4000073], _, _, Try.func151, rfl, rfl, by kernel_rfl, by kernel_rfl, by kernel_rfl⟩
/-- slices.swapRangeCmpFunc[int] -/
def c153 : C := (.seq (.reg [(rO 10 (.mv (.const (.int .i64 0))))])
 (.block 0 (.loop (.seq (.seq (.reg [(rO 11 (.mv (.tmp 10))),
 (rO 12 (.mv (.tmp 3))),
 (rO 13 (.bin .lss (.tmp 11) (.tmp 12)))])
 (.cond (.tmp 13) .skip
 (.exit 0)))
 (.seq (.block 1 (.draw [⟨(rO 16 (.mv (.tmp 0))), .p⟩,
 ⟨(rO 17 (.mv (.tmp 1))), .p⟩,
 ⟨(rO 18 (.mv (.tmp 10))), .p⟩,
 ⟨(rO 19 (.bin .add (.tmp 17) (.tmp 18))), .p⟩,
 ⟨(rO 20 (.mv (.tmp 0))), .p⟩,
 ⟨(rO 21 (.mv (.tmp 2))), .p⟩,
 ⟨(rO 22 (.mv (.tmp 10))), .p⟩,
 ⟨(rO 23 (.bin .add (.tmp 21) (.tmp 22))), .p⟩,
 ⟨(rO 24 (.mv (.tmp 0))), .p⟩,
 ⟨(rO 25 (.mv (.tmp 2))), .p⟩,
 ⟨(rO 26 (.mv (.tmp 10))), .p⟩,
 ⟨(rO 27 (.bin .add (.tmp 25) (.tmp 26))), .p⟩,
 ⟨(rO 28 (.ia 1 (.tmp 24) (.tmp 27))), .p⟩,
 ⟨(rO 29 (.ld none (.tmp 28))), .l⟩,
 ⟨(rO 30 (.mv (.tmp 0))), .p⟩,
 ⟨(rO 31 (.mv (.tmp 1))), .p⟩,
 ⟨(rO 32 (.mv (.tmp 10))), .p⟩,
 ⟨(rO 33 (.bin .add (.tmp 31) (.tmp 32))), .p⟩,
 ⟨(rO 34 (.ia 1 (.tmp 30) (.tmp 33))), .p⟩,
 ⟨(rO 35 (.ld none (.tmp 34))), .l⟩,
 ⟨(rO 36 (.ia 1 (.tmp 16) (.tmp 19))), .p⟩,
 ⟨⟨none, (.st 1 (.tmp 36) (.tmp 29)), none⟩, .m⟩,
 ⟨(rO 37 (.ia 1 (.tmp 20) (.tmp 23))), .p⟩,
 ⟨⟨none, (.st 1 (.tmp 37) (.tmp 35)), none⟩, .m⟩]))
 (.reg [(rO 14 (.mv (.tmp 10))),
 (rO 15 (.bin .add (.tmp 14) (.const (.int .i64 1)))),
 (rO 10 (.mv (.tmp 15)))]))))))
def r153 : List RV := []
theorem ok153 : FnOk Try.prog 153 38 c153 r153 := ⟨[4000067, 4000073], _, _, Try.func153, rfl, rfl, by kernel_rfl, by kernel_rfl, by kernel_rfl⟩
end Go.Proofs.Ytpnghjmphbhkjaa

-- SpM
namespace Go.Sp
set_option linter.unusedSimpArgs false
set_option linter.unusedVariables false
/-- From σ to σ' nothing that was known has turned but the block of v; the block of v' is that of v or new. -/
structure Grew (σ : Hp) (v : Value) (σ' : Hp) (v' : Value) : Prop where
  same : Same (fun k => blk v = some k) σ σ'
  new : ∀ k, blk v' = some k → blk v = some k ∨ σ k = none
theorem app_rowv {α : Type} {E size bytes : Nat} {f : α → List Value} (hf : ∀ x, (f x).length = size) {K : Value → Hp → Prop} {σ : Hp} {δ} {v : Value} {l : List α} (hv : RowsAt E size f σ v l) {b off m c : Nat} {ys : List α} (h1 : (ys.flatMap f).all one = true)
    (hy : rdn σ b off (m * size) = some (ys.flatMap f)) (hm : ys.length = m) (hm0 : 0 < m) (hb : (l.length + m) * bytes ≤ 140737488355328) (hl : l.length + m ≤ maxLen)
    (hk : ∀ v' σ', RowsAt E size f σ' v' (l ++ ys) → Grew σ v σ' v' → K v' σ') : appF E size bytes v (.slice (some ⟨b, off, none⟩) m c) K σ δ := by
  rcases hv with ⟨rfl, rfl⟩ | ⟨g, cap, rfl, hcap, hg⟩
  · refine app_n hy h1 hm0 (by simpa using hb) (by simpa using hl) fun b' c' hb' hc' => hk _ _ ?_ ⟨?_, ?_⟩
    · exact .inr ⟨b', c', by simp [hm], by simp [hm]; exact hc', by simp [upd_same]⟩
    · exact Same.updNew hb' (Same.refl _ _)
    · intro k hk; cases hk; exact .inr hb'
  · refine app_b hy h1 hg (flat_len hf _) hcap hb hl (fun c' hc' => hk _ _ ?_ ⟨?_, ?_⟩) (fun b' c' hb' hc' => hk _ _ ?_ ⟨?_, ?_⟩)
    · refine .inr ⟨g, c', by simp [hm], by simp [hm]; exact hc', ?_⟩
      show upd σ g _ g = _
      rw [upd_same, List.flatMap_append]
    · exact Same.updIn (F := fun k => blk (.slice (some ⟨g, 0, none⟩) l.length cap) = some k) rfl (Same.refl _ _)
    · intro k hk; cases hk; exact .inl rfl
    · refine .inr ⟨b', c', by simp [hm], by simp [hm]; exact hc', ?_⟩
      rw [upd_same, List.flatMap_append]
    · exact Same.updNew hb' (Same.updIn (F := fun k => blk (.slice (some ⟨g, 0, none⟩) l.length cap) = some k) rfl (Same.refl _ _))
    · intro k hk; cases hk; exact .inr hb'
theorem app_row {α : Type} {E size bytes : Nat} {f : α → List Value} (hf : ∀ x, (f x).length = size) (hone : ∀ x, (f x).all one = true) {K : Value → Hp → Prop} {σ : Hp} {δ} {v : Value} {l : List α} (hv : RowsAt E size f σ v l) {b off m c : Nat} {ys : List α}
    (hy : rdn σ b off (m * size) = some (ys.flatMap f)) (hm : ys.length = m) (hm0 : 0 < m) (hb : (l.length + m) * bytes ≤ 140737488355328) (hl : l.length + m ≤ maxLen)
    (hk : ∀ v' σ', RowsAt E size f σ' v' (l ++ ys) → Grew σ v σ' v' → K v' σ') : appF E size bytes v (.slice (some ⟨b, off, none⟩) m c) K σ δ := by
  refine app_rowv hf hv ?_ hy hm hm0 hb hl hk
  clear hy hm hk
  induction ys with
  | nil => rfl
  | cons y r ih => rw [List.flatMap_cons, List.all_append, ih, hone]; rfl
theorem Grew.refl (σ : Hp) (v : Value) : Grew σ v σ v := ⟨Same.refl _ _, fun _ h => .inl h⟩
/-- A slice that lies in what is new since σ0 stays so. -/
theorem Made.grew {σ0 σ σ' : Hp} {v v' : Value} (h : Made σ0 σ v) (k : Grew σ v σ' v') : Made σ0 σ' v' :=
  ⟨h.1.trans k.same fun i hi hb => absurd (h.2 i hb) hi, fun i hi => by
    rcases k.new i hi with e | e
    · exact h.2 i e
    · exact h.old e⟩
theorem Made.nil (σ : Hp) : Made σ σ (.slice none 0 0) := ⟨Same.refl _ _, fun k hk => by cases hk⟩
/-- A block that is made anew beside. -/
theorem Made.beside {σ0 σ : Hp} {v : Value} (h : Made σ0 σ v) {b : Nat} (hb : σ b = none) (o : Blk) : Made σ0 (upd σ b o) v := h.grow hb o
/-- What was known stays, but for blocks of the kind p. -/
def KSame (p : Blk → Prop) (σ σ' : Hp) : Prop := ∀ k o, σ k = some o → ¬ p o → σ' k = some o
def isRow (E : TypeId) : Blk → Prop | .row _ _ E' => E' = E | _ => False
theorem KSame.refl (p : Blk → Prop) (σ : Hp) : KSame p σ σ := fun _ _ h _ => h
theorem KSame.trans {p : Blk → Prop} {σ σ1 σ2 : Hp} (h : KSame p σ σ1) (k : KSame p σ1 σ2) : KSame p σ σ2 := fun i o ho hp => k i o (h i o ho hp) hp
theorem KSame.mono {p q : Blk → Prop} {σ σ' : Hp} (h : KSame p σ σ') (hpq : ∀ o, p o → q o) : KSame q σ σ' := fun k o ho hq => h k o ho fun hp => hq (hpq o hp)
theorem KSame.ofSame {p : Blk → Prop} {F : Nat → Prop} {σ σ' : Hp} (h : Same F σ σ') (hF : ∀ k o, F k → σ k = some o → p o) : KSame p σ σ' := fun k o ho hp => by
  rw [h k (by rw [ho]; simp) (fun f => hp (hF k o f ho))]; exact ho
theorem KSame.made {p : Blk → Prop} {σ σ' : Hp} (h : Same (fun _ => False) σ σ') : KSame p σ σ' := KSame.ofSame h fun _ _ f => f.elim
theorem KSame.new {p : Blk → Prop} {σ σ' : Hp} (h : KSame p σ σ') {b : Nat} (hb : σ b = none) (o : Blk) : KSame p σ (upd σ' b o) := fun k o' ho hp => by
  rw [upd_ne _ _ (fun e => by subst e; rw [hb] at ho; cases ho)]; exact h k o' ho hp
theorem KSame.turn {p : Blk → Prop} {σ σ' : Hp} (h : KSame p σ σ') {b : Nat} {X : Blk} (hb : σ b = some X) (hX : p X) (o : Blk) : KSame p σ (upd σ' b o) := fun k o' ho hp => by
  rw [upd_ne _ _ (fun e => by subst e; rw [hb] at ho; cases ho; exact hp hX)]; exact h k o' ho hp
theorem KSame.both {p : Blk → Prop} {σ σ' : Hp} (h : KSame p σ σ') {b : Nat} {X : Blk} (hX : p X) (Y : Blk) : KSame p (upd σ b X) (upd σ' b Y) := fun k o ho hp => by
  by_cases e : k = b
  · subst e; rw [upd_same] at ho; cases ho; exact absurd hX hp
  · rw [upd_ne _ _ e] at ho ⊢; exact h k o ho hp
/-- A heap of blocks that are only read. -/
def RoHeap (σ : Hp) : Prop := ∀ k o, σ k = some o → ∃ x, o = .ro x
theorem KSame.sub {p : Blk → Prop} {σ0 σ σ' : Hp} (h : KSame p σ σ') (h0 : RoHeap σ0) (hs : Sub σ0 σ) (hp : ∀ x, ¬ p (.ro x)) : Sub σ0 σ' := fun k => by
  cases hk : σ0 k with
  | none => exact .inl rfl
  | some o =>
    obtain ⟨x, rfl⟩ := h0 k o hk
    rcases hs k with e | e
    · rw [hk] at e; cases e
    · rw [hk] at e; exact .inr (h k _ e.symm (hp x)).symm
theorem RowsAt.ks {α : Type} {E sz : Nat} {f : α → List Value} {σ σ' : Hp} {v : Value} {l : List α} {p : Blk → Prop} (h : RowsAt E sz f σ v l) (hs : KSame p σ σ') (hp : ∀ cs r, ¬ p (.row cs r E)) : RowsAt E sz f σ' v l := by
  rcases h with h | ⟨b, c, rfl, hc, hb⟩
  · exact .inl h
  · exact .inr ⟨b, c, rfl, hc, hs _ _ hb (hp _ _)⟩
theorem Grew.ks {α : Type} {E sz : Nat} {f : α → List Value} {σ σ' : Hp} {v v' : Value} {l : List α} (h : Grew σ v σ' v') (hr : RowsAt E sz f σ v l) : KSame (isRow E) σ σ' := KSame.ofSame h.same fun k o hk ho => by
  rcases hr with ⟨rfl, _⟩ | ⟨b, c, rfl, _, hb⟩
  · cases hk
  · cases hk; rw [hb] at ho; cases ho; rfl
end Go.Sp

-- XP6
namespace Go.Proofs.Ytpnghjmphbhkjaa
open Go.Sp
set_option linter.unusedSimpArgs false
set_option linter.unusedVariables false
/-- g is f moved about within [a, b). -/
def Mv (a b : Nat) (f g : Nat → Nat) : Prop := ∃ π ρ : Nat → Nat, (∀ k, g k = f (π k)) ∧ (∀ k, ρ (π k) = k ∧ π (ρ k) = k) ∧ (∀ k, ¬ (a ≤ k ∧ k < b) → π k = k) ∧ (∀ k, a ≤ k → k < b → a ≤ π k ∧ π k < b)
theorem Mv.refl (a b : Nat) (f : Nat → Nat) : Mv a b f f := ⟨id, id, fun _ => rfl, fun _ => ⟨rfl, rfl⟩, fun _ _ => rfl, fun _ h1 h2 => ⟨h1, h2⟩⟩
theorem Mv.trans {a b : Nat} {f g h : Nat → Nat} (x : Mv a b f g) (y : Mv a b g h) : Mv a b f h := by
  obtain ⟨π, π', p1, p2, p3, p4⟩ := x
  obtain ⟨ρ, ρ', q1, q2, q3, q4⟩ := y
  refine ⟨fun k => π (ρ k), fun k => ρ' (π' k), fun k => by rw [q1, p1], fun k => ⟨by show ρ' (π' (π (ρ k))) = k; rw [(p2 _).1, (q2 _).1], by show π (ρ (ρ' (π' k))) = k; rw [(q2 _).2, (p2 _).2]⟩, fun k hk => by show π (ρ k) = k; rw [q3 k hk, p3 k hk], fun k h1 h2 => ?_⟩
  have := q4 k h1 h2
  exact p4 _ this.1 this.2
theorem Mv.mono {a b a' b' : Nat} {f g : Nat → Nat} (x : Mv a b f g) (h1 : a' ≤ a) (h2 : b ≤ b') : Mv a' b' f g := by
  obtain ⟨π, π', p1, p2, p3, p4⟩ := x
  refine ⟨π, π', p1, p2, fun k hk => p3 k (by omega), fun k h3 h4 => ?_⟩
  by_cases h : a ≤ k ∧ k < b
  · have := p4 k h.1 h.2; omega
  · rw [p3 k h]; exact ⟨h3, h4⟩
theorem Mv.out {a b : Nat} {f g : Nat → Nat} (x : Mv a b f g) {k : Nat} (hk : ¬ (a ≤ k ∧ k < b)) : g k = f k := by
  obtain ⟨π, π', p1, p2, p3, p4⟩ := x
  rw [p1, p3 k hk]
theorem Mv.inn {a b : Nat} {f g : Nat → Nat} (x : Mv a b f g) {k : Nat} (h1 : a ≤ k) (h2 : k < b) : ∃ i, a ≤ i ∧ i < b ∧ g k = f i := by
  obtain ⟨π, π', p1, p2, p3, p4⟩ := x
  have := p4 k h1 h2
  exact ⟨π k, this.1, this.2, p1 k⟩
/-- What is moved about within [0, n) out of 0, 1, .. is just these. -/
theorem Mv.perm {n : Nat} {g : Nat → Nat} (x : Mv 0 n id g) : ((List.range n).map g).Perm (List.range n) := by
  obtain ⟨π, π', p1, p2, p3, p4⟩ := x
  have e : g = π := funext p1
  subst e
  refine (List.perm_ext_iff_of_nodup ?_ List.nodup_range).2 fun k => ?_
  · refine List.pairwise_map.2 (List.Pairwise.imp (fun {a b} hab e => hab ?_) List.nodup_range)
    rw [← (p2 a).1, e, (p2 b).1]
  · rw [List.mem_map, List.mem_range]
    constructor
    · rintro ⟨i, hi, rfl⟩
      exact (p4 i (Nat.zero_le _) (List.mem_range.1 hi)).2
    · intro hk
      refine ⟨π' k, List.mem_range.2 ?_, (p2 k).2⟩
      rcases Nat.lt_or_ge (π' k) n with q | q
      · exact q
      · have := p3 (π' k) (by omega)
        rw [(p2 k).2] at this; omega
/-- f with i and j exchanged. -/
def swp (i j : Nat) (f : Nat → Nat) : Nat → Nat := fun k => if k = j then f i else if k = i then f j else f k
theorem swp_inv (i j k : Nat) : (if (if k = j then i else if k = i then j else k) = j then i else if (if k = j then i else if k = i then j else k) = i then j else (if k = j then i else if k = i then j else k)) = k := by
  by_cases h1 : k = j
  · subst h1; rw [if_pos rfl]
    by_cases h2 : i = k
    · subst h2; simp
    · rw [if_neg h2, if_pos rfl]
  · rw [if_neg h1]
    by_cases h2 : k = i
    · subst h2; rw [if_pos rfl, if_pos rfl]
    · rw [if_neg h2, if_neg h1, if_neg h2]
theorem Mv.swp {a b i j : Nat} (f : Nat → Nat) (h1 : a ≤ i) (h2 : i < b) (h3 : a ≤ j) (h4 : j < b) : Mv a b f (swp i j f) := by
  refine ⟨fun k => if k = j then i else if k = i then j else k, fun k => if k = j then i else if k = i then j else k, fun k => ?_, fun k => ⟨swp_inv i j k, swp_inv i j k⟩, fun k hk => ?_, fun k h5 h6 => ?_⟩
  · show (if k = j then f i else if k = i then f j else f k) = f _
    dsimp only
    split
    · rfl
    · split <;> rfl
  · dsimp only
    rw [if_neg (by omega), if_neg (by omega)]
  · dsimp only
    split
    · omega
    · split <;> omega
/-- [m, b) ahead of [a, m). -/
def rot (a m b : Nat) (f : Nat → Nat) : Nat → Nat := fun k => if a ≤ k ∧ k < b then (if k < a + (b - m) then f (k + (m - a)) else f (k - (b - m))) else f k
theorem Mv.rot {a m b : Nat} (f : Nat → Nat) (h1 : a ≤ m) (h2 : m ≤ b) : Mv a b f (rot a m b f) := by
  refine ⟨fun k => if a ≤ k ∧ k < b then (if k < a + (b - m) then k + (m - a) else k - (b - m)) else k, fun k => if a ≤ k ∧ k < b then (if k < m then k + (b - m) else k - (m - a)) else k, fun k => ?_, fun k => ⟨?_, ?_⟩, fun k hk => ?_, fun k h5 h6 => ?_⟩
  · show (if a ≤ k ∧ k < b then (if k < a + (b - m) then f (k + (m - a)) else f (k - (b - m))) else f k) = f _
    dsimp only
    split
    · split <;> rfl
    · rfl
  · dsimp only
    by_cases c1 : a ≤ k ∧ k < b
    · rw [if_pos c1]
      by_cases c2 : k < a + (b - m)
      · rw [if_pos c2, if_pos (by omega), if_neg (by omega)]; omega
      · rw [if_neg c2, if_pos (by omega), if_pos (by omega)]; omega
    · rw [if_neg c1, if_neg c1]
  · dsimp only
    by_cases c1 : a ≤ k ∧ k < b
    · rw [if_pos c1]
      by_cases c2 : k < m
      · rw [if_pos c2, if_pos (by omega), if_neg (by omega)]; omega
      · rw [if_neg c2, if_pos (by omega), if_pos (by omega)]; omega
    · rw [if_neg c1, if_neg c1]
  · dsimp only
    rw [if_neg hk]
  · dsimp only
    rw [if_pos ⟨h5, h6⟩]
    split <;> omega
theorem rot_self (a b : Nat) (f : Nat → Nat) : rot a b b f = f := by
  funext k; unfold rot
  split
  · rw [if_neg (by omega)]; congr 1; omega
  · rfl
theorem rot_self' (a b : Nat) (f : Nat → Nat) : rot a a b f = f := by
  funext k; unfold rot
  split
  · rw [if_pos (by omega)]; congr 1; omega
  · rfl
/-- The ranges [a, a + n) and [b, b + n) exchanged. -/
def swr (a b n : Nat) (f : Nat → Nat) : Nat → Nat := fun k => if a ≤ k ∧ k < a + n then f (k + (b - a)) else if b ≤ k ∧ k < b + n then f (k - (b - a)) else f k
theorem swr_zero (a b : Nat) (f : Nat → Nat) : swr a b 0 f = f := by
  funext k; unfold swr; rw [if_neg (by omega), if_neg (by omega)]
theorem swr_step {a b n : Nat} (f : Nat → Nat) (h : a + n < b) : swp (a + n) (b + n) (swr a b n f) = swr a b (n + 1) f := by
  funext k; unfold swp swr
  by_cases e1 : k = b + n
  · subst e1; rw [if_pos rfl, if_neg (by omega), if_neg (by omega), if_neg (by omega), if_pos (by omega)]; congr 1; omega
  · rw [if_neg e1]
    by_cases e2 : k = a + n
    · subst e2; rw [if_pos rfl, if_neg (by omega), if_neg (by omega), if_pos (by omega)]; congr 1; omega
    · rw [if_neg e2]
      by_cases e3 : a ≤ k ∧ k < a + n
      · rw [if_pos e3, if_pos (by omega)]
      · rw [if_neg e3, if_neg (show ¬ (a ≤ k ∧ k < a + (n + 1)) by omega)]
        by_cases e4 : b ≤ k ∧ k < b + n
        · rw [if_pos e4, if_pos (by omega)]
        · rw [if_neg e4, if_neg (by omega)]
/-- The steps of a rotation: what lies ahead is the longer. -/
theorem rot_gt {m i j : Nat} (f : Nat → Nat) (h1 : i ≤ m) (h2 : j < i) : rot (m - i + j) m (m + j) (swr (m - i) m j f) = rot (m - i) m (m + j) f := by
  funext k; unfold rot swr
  by_cases c1 : m - i ≤ k ∧ k < m + j
  · rw [if_pos c1]
    by_cases c2 : k < m - i + j
    · rw [if_neg (by omega), if_pos (by omega), if_pos (by omega)]
    · rw [if_pos (by omega), if_neg (show ¬ k < m - i + (m + j - m) by omega)]
      by_cases c3 : k < m - i + j + (m + j - m)
      · rw [if_pos c3, if_neg (by omega), if_pos (by omega)]; congr 1; omega
      · rw [if_neg c3, if_neg (by omega), if_neg (by omega)]
  · rw [if_neg c1, if_neg (by omega), if_neg (by omega), if_neg (by omega)]
theorem rot_lt {m i j : Nat} (f : Nat → Nat) (h1 : i ≤ m) (h2 : i < j) : rot (m - i) m (m + (j - i)) (swr (m - i) (m + j - i) i f) = rot (m - i) m (m + j) f := by
  funext k; unfold rot swr
  by_cases c1 : m - i ≤ k ∧ k < m + j
  · rw [if_pos c1]
    by_cases c2 : k < m + (j - i)
    · rw [if_pos (by omega)]
      by_cases c3 : k < m - i + (m + (j - i) - m)
      · rw [if_pos c3, if_neg (by omega)]
        by_cases c4 : m + j - i ≤ k + (m - (m - i)) ∧ k + (m - (m - i)) < m + j - i + i
        · omega
        · rw [if_neg c4, if_pos (by omega)]
      · rw [if_neg c3, if_pos (by omega)]
        rw [if_pos (by omega)]; congr 1; omega
    · rw [if_neg (by omega), if_neg (by omega), if_pos (by omega), if_neg (by omega)]; congr 1; omega
  · rw [if_neg c1, if_neg (by omega), if_neg (by omega), if_neg (by omega)]
theorem rot_eq {m i : Nat} (f : Nat → Nat) (h1 : i ≤ m) : swr (m - i) m i f = rot (m - i) m (m + i) f := by
  funext k; unfold rot swr
  by_cases c1 : m - i ≤ k ∧ k < m + i
  · rw [if_pos c1]
    by_cases c2 : k < m
    · rw [if_pos (by omega), if_pos (by omega)]
    · rw [if_neg (by omega), if_pos (by omega), if_neg (by omega)]; congr 1; omega
  · rw [if_neg c1, if_neg (by omega), if_neg (by omega)]
/-- One moved up by exchanges; one moved down. -/
theorem rot_up {a k : Nat} (f : Nat → Nat) (h : a ≤ k) : swp k (k + 1) (rot a (a + 1) (k + 1) f) = rot a (a + 1) (k + 2) f := by
  funext x; unfold swp rot
  by_cases e1 : x = k + 1
  · subst e1; rw [if_pos rfl, if_pos (by omega), if_neg (by omega), if_pos (by omega), if_neg (by omega)]; congr 1; omega
  · rw [if_neg e1]
    by_cases e2 : x = k
    · subst e2; rw [if_pos rfl, if_neg (by omega), if_pos (by omega), if_pos (by omega)]; congr 1; omega
    · rw [if_neg e2]
      by_cases e3 : a ≤ x ∧ x < k + 1
      · rw [if_pos e3, if_pos (by omega), if_pos (by omega), if_pos (by omega)]
      · rw [if_neg e3, if_neg (by omega)]
theorem rot_down {k m : Nat} (f : Nat → Nat) (h0 : 0 < k) (h : k ≤ m) : swp k (k - 1) (rot k m (m + 1) f) = rot (k - 1) m (m + 1) f := by
  funext x; unfold swp rot
  by_cases e1 : x = k - 1
  · subst e1; rw [if_pos rfl, if_pos (by omega), if_pos (by omega), if_pos (by omega), if_pos (by omega)]; congr 1; omega
  · rw [if_neg e1]
    by_cases e2 : x = k
    · subst e2; rw [if_pos rfl, if_neg (by omega), if_pos (by omega), if_neg (by omega)]; congr 1; omega
    · rw [if_neg e2]
      by_cases e3 : k ≤ x ∧ x < m + 1
      · rw [if_pos e3, if_neg (by omega), if_pos (by omega), if_neg (by omega)]
      · rw [if_neg e3, if_neg (by omega)]
structure Lin (le : Nat → Nat → Prop) : Prop where
  tot : ∀ x y, le x y ∨ le y x
  tr : ∀ x y z, le x y → le y z → le x z
/-- Sorted from a to b. -/
def So (le : Nat → Nat → Prop) (f : Nat → Nat) (a b : Nat) : Prop := ∀ i j, a ≤ i → i < j → j < b → le (f i) (f j)
theorem So.part {le : Nat → Nat → Prop} {f : Nat → Nat} {a b a' b' : Nat} (h : So le f a b) (h1 : a ≤ a') (h2 : b' ≤ b) : So le f a' b' := fun i j x y z => h i j (by omega) y (by omega)
theorem So.le {le : Nat → Nat → Prop} {f : Nat → Nat} {a b i j : Nat} (hl : Lin le) (h : So le f a b) (h1 : a ≤ i) (h2 : i ≤ j) (h3 : j < b) : le (f i) (f j) := by
  rcases Nat.lt_or_ge i j with h4 | h4
  · exact h i j h1 h4 h3
  · have : i = j := by omega
    subst this; exact (hl.tot _ _).elim id id
theorem So.glue {le : Nat → Nat → Prop} {f : Nat → Nat} {a m b : Nat} (h1 : So le f a m) (h2 : So le f m b) (h : ∀ i j, a ≤ i → i < m → m ≤ j → j < b → le (f i) (f j)) : So le f a b := fun i j x y z => by
  rcases Nat.lt_or_ge j m with q | q
  · exact h1 i j x y q
  · rcases Nat.lt_or_ge i m with p | p
    · exact h i j x p q z
    · exact h2 i j p y z
theorem So.congr {le : Nat → Nat → Prop} {f g : Nat → Nat} {a b : Nat} (h : So le f a b) (e : ∀ k, a ≤ k → k < b → g k = f k) : So le g a b := fun i j x y z => by
  rw [e i x (by omega), e j (by omega) z]; exact h i j x y z
theorem rot_mid {s m e k : Nat} (f : Nat → Nat) (h1 : s ≤ k) (h2 : k < s + (e - m)) (hm : s ≤ m) (he : m ≤ e) : rot s m e f k = f (k + (m - s)) := by unfold rot; rw [if_pos (by omega), if_pos h2]
theorem rot_end {s m e k : Nat} (f : Nat → Nat) (h1 : s + (e - m) ≤ k) (h2 : k < e) : rot s m e f k = f (k - (e - m)) := by unfold rot; rw [if_pos (by omega), if_neg (by omega)]
theorem rot_out {s m e k : Nat} (f : Nat → Nat) (h : ¬ (s ≤ k ∧ k < e)) : rot s m e f k = f k := by unfold rot; rw [if_neg h]
/-- Two sorted halves, rotated about the middle so that all on the left comes ahead of all on the right. -/
theorem split_law {le : Nat → Nat → Prop} (hl : Lin le) {f : Nat → Nat} {a s m e b mid : Nat} (hA : So le f a m) (hB : So le f m b) (h1 : a ≤ s) (h2 : s ≤ m) (h3 : m ≤ e) (h4 : e ≤ b) (hmid : s + e = mid + m)
    (H1 : a < s → e < b → le (f (s - 1)) (f e)) (H2 : s < m → m < e → le (f (e - 1)) (f s)) :
    So le (rot s m e f) a s ∧ So le (rot s m e f) s mid ∧ So le (rot s m e f) mid e ∧ So le (rot s m e f) e b ∧ ∀ i j, a ≤ i → i < mid → mid ≤ j → j < b → le (rot s m e f i) (rot s m e f j) := by
  have em : s + (e - m) = mid := by omega
  refine ⟨fun i j x y z => ?_, fun i j x y z => ?_, fun i j x y z => ?_, fun i j x y z => ?_, fun i j x y z w => ?_⟩
  · rw [rot_out f (by omega), rot_out f (by omega)]; exact hA i j x y (by omega)
  · rw [rot_mid f x (by omega) h2 h3, rot_mid f (by omega) (by omega) h2 h3]; exact hB _ _ (by omega) (by omega) (by omega)
  · rw [rot_end f (by omega) (by omega), rot_end f (by omega) z]; exact hA _ _ (by omega) (by omega) (by omega)
  · rw [rot_out f (by omega), rot_out f (by omega)]; exact hB i j (by omega) y z
  · rcases Nat.lt_or_ge i s with p | p
    · rw [rot_out f (by omega)]
      rcases Nat.lt_or_ge j e with q | q
      · rw [rot_end f (by omega) q]; exact hA _ _ x (by omega) (by omega)
      · rw [rot_out f (by omega)]
        exact hl.tr _ _ _ (hA.le hl x (show i ≤ s - 1 by omega) (by omega)) (hl.tr _ _ _ (H1 (by omega) (by omega)) (hB.le hl (by omega) q w))
    · rw [rot_mid f p (by omega) h2 h3]
      rcases Nat.lt_or_ge j e with q | q
      · rw [rot_end f (by omega) q]
        exact hl.tr _ _ _ (hB.le hl (by omega) (show i + (m - s) ≤ e - 1 by omega) (by omega)) (hl.tr _ _ _ (H2 (by omega) (by omega)) (hA.le hl (by omega) (show s ≤ j - (e - m) by omega) (by omega)))
      · rw [rot_out f (by omega)]; exact hB _ _ (by omega) (by omega) w
theorem So.moved {le : Nat → Nat → Prop} {g h1 h2 : Nat → Nat} {a mid b : Nat} (x : Mv a mid g h1) (s1 : So le h1 a mid) (y : Mv mid b h1 h2) (s2 : So le h2 mid b) (h : ∀ i j, a ≤ i → i < mid → mid ≤ j → j < b → le (g i) (g j)) : So le h2 a b := by
  refine So.glue (m := mid) (s1.congr fun k k1 k2 => y.out (by omega)) s2 fun i j p q r s => ?_
  rw [y.out (k := i) (by omega)]
  obtain ⟨i', i1, i2, ei⟩ := x.inn p q
  obtain ⟨j', j1, j2, ej⟩ := y.inn r s
  rw [ei, ej, x.out (k := j') (by omega)]
  exact h i' j' i1 i2 j1 j2
/-- One item laid into a sorted row. -/
theorem up_law {le : Nat → Nat → Prop} (hl : Lin le) {f : Nat → Nat} {a i b : Nat} (hB : So le f (a + 1) b) (h1 : a + 1 ≤ i) (h2 : i ≤ b) (H1 : ∀ c, a + 1 ≤ c → c < i → le (f c) (f a)) (H2 : ∀ c, i ≤ c → c < b → le (f a) (f c)) : So le (rot a (a + 1) i f) a b := by
  intro x y p q r
  rcases Nat.lt_or_ge y (i - 1) with c | c
  · rw [rot_mid f p (by omega) (by omega) (by omega), rot_mid f (by omega) (by omega) (by omega) (by omega)]; exact hB _ _ (by omega) (by omega) (by omega)
  · rcases Nat.lt_or_ge y i with d | d
    · rw [rot_mid f p (by omega) (by omega) (by omega), rot_end f (by omega) d, show y - (i - (a + 1)) = a by omega]; exact H1 _ (by omega) (by omega)
    · rw [rot_out (k := y) f (by omega)]
      rcases Nat.lt_or_ge x (i - 1) with e | e
      · rw [rot_mid f p (by omega) (by omega) (by omega)]; exact hB _ _ (by omega) (by omega) r
      · rcases Nat.lt_or_ge x i with g | g
        · rw [rot_end f (by omega) g, show x - (i - (a + 1)) = a by omega]; exact H2 _ d r
        · rw [rot_out f (by omega)]; exact hB _ _ (by omega) q r
theorem down_law {le : Nat → Nat → Prop} (hl : Lin le) {f : Nat → Nat} {a i m : Nat} (hA : So le f a m) (h1 : a ≤ i) (h2 : i ≤ m) (H1 : ∀ c, a ≤ c → c < i → le (f c) (f m)) (H2 : ∀ c, i ≤ c → c < m → le (f m) (f c)) : So le (rot i m (m + 1) f) a (m + 1) := by
  intro x y p q r
  rcases Nat.lt_or_ge x i with c | c
  · rw [rot_out (k := x) f (by omega)]
    rcases Nat.lt_or_ge y i with d | d
    · rw [rot_out f (by omega)]; exact hA _ _ p q (by omega)
    · rcases Nat.lt_or_ge y (i + 1) with e | e
      · rw [rot_mid f d (by omega) h2 (by omega), show y + (m - i) = m by omega]; exact H1 _ p c
      · rw [rot_end f (by omega) r]; exact hA _ _ p (by omega) (by omega)
  · rcases Nat.lt_or_ge x (i + 1) with d | d
    · rw [rot_mid f c (by omega) h2 (by omega), show x + (m - i) = m by omega, rot_end f (by omega) r]; exact H2 _ (by omega) (by omega)
    · rw [rot_end f (by omega) (by omega), rot_end f (by omega) r]; exact hA _ _ (by omega) (by omega) (by omega)
/-- A search by halves: all before i are so, none from j on. -/
structure Srch (p : Nat → Prop) (lo i j hi : Nat) : Prop where
  r : lo ≤ i ∧ i ≤ j ∧ j ≤ hi
  yes : ∀ c, lo ≤ c → c < i → p c
  no : ∀ c, j ≤ c → c < hi → ¬ p c
theorem Srch.right {p : Nat → Prop} {lo i j hi : Nat} (h : Srch p lo i j hi) {c : Nat} (h1 : i ≤ c) (h2 : c < j) (hp : p c) (down : ∀ x y, lo ≤ x → x ≤ y → y < hi → p y → p x) : Srch p lo (c + 1) j hi :=
  ⟨by have := h.r; omega, fun x x1 x2 => down x c x1 (by omega) (by have := h.r; omega) hp, h.no⟩
theorem Srch.left {p : Nat → Prop} {lo i j hi : Nat} (h : Srch p lo i j hi) {c : Nat} (h1 : i ≤ c) (h2 : c < j) (hp : ¬ p c) (down : ∀ x y, lo ≤ x → x ≤ y → y < hi → p y → p x) : Srch p lo i c hi :=
  ⟨by have := h.r; omega, h.yes, fun x x1 x2 hx => hp (down c x (by have := h.r; omega) x1 x2 hx)⟩
structure En where
  key : ByteArray
  has : Bool
  data : ByteArray
  lo : Int
  hi : Int
  hot : Bool
  stamp : Int
  ins : Int
def En.cells (e : En) : List Value := [.string e.key, .bool e.has, .string e.data, .int .i64 e.lo, .int .i64 e.hi, .bool e.hot, .int .i64 e.stamp, .int .i64 e.ins]
theorem En.cells_len (e : En) : e.cells.length = 8 := rfl
/-- What decides, the weightiest first. -/
def En.rk (e : En) : List Int := if e.hi = 4611686018427387904 then [1, if e.hot = true then 1 else 0, e.stamp, e.ins] else [0, 0, e.hi, e.ins]
theorem l4 {a b c d a' b' c' d' : Int} (h : [a, b, c, d] = [a', b', c', d']) : d = d' := by
  injection h with _ h; injection h with _ h; injection h with _ h; injection h
theorem En.rk_ins {a b : En} (h : a.rk = b.rk) : a.ins = b.ins := by
  unfold En.rk at h
  by_cases h1 : a.hi = 4611686018427387904
  · by_cases h2 : b.hi = 4611686018427387904
    · rw [if_pos h1, if_pos h2] at h; exact l4 h
    · rw [if_pos h1, if_neg h2] at h; exact l4 h
  · by_cases h2 : b.hi = 4611686018427387904
    · rw [if_neg h1, if_pos h2] at h; exact l4 h
    · rw [if_neg h1, if_neg h2] at h; exact l4 h
def cmpI (a b : Int) : Int := if a < b then -1 else if a > b then 1 else 0
def cmpL : List Int → List Int → Int
  | [], [] => 0
  | [], _ :: _ => -1
  | _ :: _, [] => 1
  | a :: r, b :: t => if cmpI a b = 0 then cmpL r t else cmpI a b
def Lt : List Int → List Int → Prop
  | [], [] => False
  | [], _ :: _ => True
  | _ :: _, [] => False
  | a :: r, b :: t => a < b ∨ a = b ∧ Lt r t
theorem cmpL_lt : ∀ (x y : List Int), cmpL x y < 0 ↔ Lt x y
  | [], [] => by simp [cmpL, Lt]
  | [], _ :: _ => by simp [cmpL, Lt]
  | _ :: _, [] => by simp [cmpL, Lt]
  | a :: r, b :: t => by
    have ih := cmpL_lt r t
    unfold cmpL Lt cmpI
    rcases Int.lt_trichotomy a b with h | h | h
    · rw [if_pos h, if_neg (by decide)]
      exact ⟨fun _ => .inl h, fun _ => by decide⟩
    · subst h
      rw [if_neg (Int.lt_irrefl a), if_neg (Int.lt_irrefl a), if_pos rfl, ih]
      exact ⟨fun q => .inr ⟨rfl, q⟩, fun q => q.elim (fun q => absurd q (Int.lt_irrefl a)) fun q => q.2⟩
    · rw [if_neg (show ¬ a < b by omega), if_pos h, if_neg (by decide)]
      exact ⟨fun q => absurd q (by decide), fun q => by omega⟩
theorem Lt.irr : ∀ (x : List Int), ¬ Lt x x
  | [], h => h
  | a :: r, h => h.elim (Int.lt_irrefl a) fun q => Lt.irr r q.2
theorem Lt.trans : ∀ {x y z : List Int}, Lt x y → Lt y z → Lt x z
  | [], [], _, h, _ => h.elim
  | [], _ :: _, [], _, k => k.elim
  | [], _ :: _, _ :: _, _, _ => trivial
  | _ :: _, [], _, h, _ => h.elim
  | _ :: _, _ :: _, [], _, k => k.elim
  | a :: r, b :: s, c :: t, h, k => by
    rcases h with h | ⟨h, h'⟩
    · rcases k with k | ⟨k, k'⟩
      · exact .inl (by omega)
      · exact .inl (by omega)
    · rcases k with k | ⟨k, k'⟩
      · exact .inl (by omega)
      · exact .inr ⟨by omega, h'.trans k'⟩
theorem Lt.tri : ∀ (x y : List Int), Lt x y ∨ x = y ∨ Lt y x
  | [], [] => .inr (.inl rfl)
  | [], _ :: _ => .inl trivial
  | _ :: _, [] => .inr (.inr trivial)
  | a :: r, b :: t => by
    rcases Int.lt_trichotomy a b with h | h | h
    · exact .inl (.inl h)
    · subst h
      rcases Lt.tri r t with q | q | q
      · exact .inl (.inr ⟨rfl, q⟩)
      · exact .inr (.inl (by rw [q]))
      · exact .inr (.inr (.inr ⟨rfl, q⟩))
    · exact .inr (.inr (.inl h))
/-- a goes ahead of b. -/
def En.bef (a b : En) : Bool := decide (cmpL a.rk b.rk < 0)
theorem En.bef_iff (a b : En) : a.bef b = true ↔ Lt a.rk b.rk := by unfold En.bef; rw [decide_eq_true_eq]; exact cmpL_lt _ _
def En.le (a b : En) : Prop := ¬ Lt b.rk a.rk
theorem En.le_tot (a b : En) : a.le b ∨ b.le a := by
  rcases Lt.tri a.rk b.rk with h | h | h
  · exact .inl fun k => Lt.irr _ (h.trans k)
  · exact .inl fun k => by rw [h] at k; exact Lt.irr _ k
  · exact .inr fun k => Lt.irr _ (h.trans k)
theorem En.le_tr {a b c : En} (h : a.le b) (k : b.le c) : a.le c := fun q => by
  rcases Lt.tri a.rk b.rk with h1 | h1 | h1
  · exact k (q.trans h1)
  · rw [h1] at q; exact k q
  · exact h h1
theorem En.le_anti {a b : En} (h : a.le b) (k : b.le a) : a.rk = b.rk := by
  rcases Lt.tri a.rk b.rk with h1 | h1 | h1
  · exact absurd h1 k
  · exact h1
  · exact absurd h1 h
def En.leB (a b : En) : Bool := !(b.bef a)
theorem En.leB_iff (a b : En) : a.leB b = true ↔ a.le b := by
  unfold En.leB En.le
  rw [Bool.not_eq_true', ← En.bef_iff]; simp
/-- Entries that are told apart by what they were laid in as. -/
def InsNodup (L : List En) : Prop := (L.map En.ins).Nodup
theorem InsNodup.perm {L M : List En} (h : InsNodup L) (p : L.Perm M) : InsNodup M := ((p.map En.ins).nodup_iff).1 h
theorem InsNodup.inj {L : List En} (h : InsNodup L) {a b : En} (ha : a ∈ L) (hb : b ∈ L) (e : a.ins = b.ins) : a = b := by
  unfold InsNodup at h
  obtain ⟨i, hi, rfl⟩ := List.getElem_of_mem ha
  obtain ⟨j, hj, rfl⟩ := List.getElem_of_mem hb
  have := (List.getElem_inj (i := i) (j := j) (h₀ := by simpa using hi) (h₁ := by simpa using hj) h).1 (by simpa using e)
  subst this; rfl
/-- The list sorted is but one. -/
theorem sorted_one {L M N : List En} (hn : InsNodup L) (hM : M.Perm L) (hN : N.Perm L) (sM : M.Pairwise En.le) (sN : N.Pairwise En.le) : M = N :=
  List.Perm.eq_of_pairwise (le := En.le) (fun a b ha hb h1 h2 => hn.inj (hM.mem_iff.1 ha) (hN.mem_iff.1 hb) (En.rk_ins (En.le_anti h1 h2))) sM sN (hM.trans hN.symm)
/-- What has been taken out so far, what stays. -/
structure Squeeze (all gone now : List En) : Prop where
  perm : (gone ++ now).Perm all
  sort : gone.Pairwise En.le
  ahead : ∀ g ∈ gone, ∀ x ∈ now, g.le x
theorem Squeeze.start (all : List En) : Squeeze all [] all := ⟨List.Perm.refl _, List.Pairwise.nil, fun g hg => by cases hg⟩
theorem Squeeze.step {all gone now now' : List En} {v : En} (h : Squeeze all gone now) (hp : now.Perm (v :: now')) (hv : ∀ x ∈ now, v.le x) : Squeeze all (gone ++ [v]) now' :=
  ⟨by rw [List.append_assoc]; exact ((hp.symm.append_left gone)).trans h.perm,
   List.pairwise_append.2 ⟨h.sort, List.pairwise_singleton _ _, fun g hg x hx => by rw [List.mem_singleton.1 hx]; exact h.ahead g hg v (hp.mem_iff.2 (List.mem_cons_self ..))⟩,
   fun g hg x hx => by
    have hx' : x ∈ now := hp.mem_iff.2 (List.mem_cons_of_mem _ hx)
    rcases List.mem_append.1 hg with hg | hg
    · exact h.ahead g hg x hx'
    · rw [List.mem_singleton.1 hg]; exact hv x hx'⟩
theorem Squeeze.law {all gone now O : List En} (h : Squeeze all gone now) (hn : InsNodup all) (hO : O.Perm all) (sO : O.Pairwise En.le) : gone.length ≤ O.length ∧ ∀ (i : Nat) (e : En), gone[i]? = some e → O[i]? = some e := by
  have tr : ∀ a b c : En, a.leB b = true → b.leB c = true → a.leB c = true := fun a b c x y => (En.leB_iff _ _).2 (En.le_tr ((En.leB_iff _ _).1 x) ((En.leB_iff _ _).1 y))
  have tt : ∀ a b : En, (a.leB b || b.leB a) = true := fun a b => by
    rcases En.le_tot a b with q | q
    · rw [(En.leB_iff _ _).2 q]; rfl
    · rw [(En.leB_iff _ _).2 q]; simp
  have hp := List.mergeSort_perm now En.leB
  have hs : (now.mergeSort En.leB).Pairwise En.le := (List.pairwise_mergeSort tr tt now).imp fun {a b} q => (En.leB_iff _ _).1 q
  have e := sorted_one hn hO ((hp.append_left gone).trans h.perm) sO (List.pairwise_append.2 ⟨h.sort, hs, fun g hg x hx => h.ahead g hg x (hp.mem_iff.1 hx)⟩)
  subst e
  refine ⟨by simp, fun i e he => ?_⟩
  rw [List.getElem?_append_left (List.getElem?_eq_some_iff.1 he).1]; exact he
/-- The entry at a place. -/
def atE (L : List En) (i : Nat) : En := L.getD i ⟨⟨#[]⟩, false, ⟨#[]⟩, 0, 0, false, 0, 0⟩
theorem atE_get {L : List En} {i : Nat} (h : i < L.length) : L[i]? = some (atE L i) := by unfold atE; rw [List.getD_eq_getElem?_getD, List.getElem?_eq_getElem h]; rfl
def leP (L : List En) (i j : Nat) : Prop := (atE L i).le (atE L j)
theorem leP_lin (L : List En) : Lin (leP L) := ⟨fun _ _ => En.le_tot _ _, fun _ _ _ h k => En.le_tr h k⟩
def inOrder (L : List En) (f : Nat → Nat) : List En := (List.range L.length).map fun k => atE L (f k)
theorem inOrder_perm {L : List En} {f : Nat → Nat} (h : Mv 0 L.length id f) : (inOrder L f).Perm L := by
  have e : inOrder L f = ((List.range L.length).map f).map (atE L) := by unfold inOrder; rw [List.map_map]; rfl
  have e2 : (List.range L.length).map (atE L) = L := by
    refine List.ext_getElem (by simp) fun i h1 h2 => ?_
    rw [List.getElem_map, List.getElem_range]
    have := atE_get h2
    rw [List.getElem?_eq_getElem h2] at this
    exact (Option.some.inj this).symm
  rw [e]
  have := (h.perm).map (atE L)
  rwa [e2] at this
theorem inOrder_at {L : List En} {f : Nat → Nat} {i : Nat} (hi : i < (inOrder L f).length) : (inOrder L f)[i] = atE L (f i) := by simp [inOrder]
theorem inOrder_sorted {L : List En} {f : Nat → Nat} (h : So (leP L) f 0 L.length) : (inOrder L f).Pairwise En.le := by
  refine List.pairwise_iff_getElem.2 fun i j hi hj hij => ?_
  rw [inOrder_at hi, inOrder_at hj]
  exact h i j (Nat.zero_le _) hij (by unfold inOrder at hj; simpa using hj)
theorem inOrder_get {L : List En} {f : Nat → Nat} {i : Nat} {e : En} (h : (inOrder L f)[i]? = some e) : i < L.length ∧ e = atE L (f i) := by
  obtain ⟨hi, rfl⟩ := List.getElem?_eq_some_iff.1 h
  exact ⟨by unfold inOrder at hi; simpa using hi, inOrder_at hi⟩
/-- An entry that went is not behind one that stays. -/
theorem Squeeze.notBef {all gone now : List En} (h : Squeeze all gone now) {g x : En} (hg : g ∈ gone) (hx : x ∈ now) : x.bef g = false := by
  have := h.ahead g hg x hx
  cases e : x.bef g with
  | false => rfl
  | true => exact absurd ((En.bef_iff _ _).1 e) this
end Go.Proofs.Ytpnghjmphbhkjaa

-- SpP
namespace Go.Sp
set_option linter.unusedSimpArgs false
set_option linter.unusedVariables false
variable {P : Program}
theorem raw_arr {t e : TypeId} {n : Nat} {ty : TypeId} {x : Operand} {K : Value → Prop} {s : Sl} {δ} {b : Nat} (ht : P.underlying t = some (.array n e)) (hi : (P.info? e).isSome = true) (hx : ev s x = .pointer (some ⟨b, 0, none⟩)) (h0 : 0 < n)
    (hk : K (.slice (some ⟨b, 0, none⟩) n n)) : rawF P (.slice t x none none none) ty K s δ := by
  refine ⟨_, fun w => ?_, hk⟩
  cases hq : P.info? e with
  | none => rw [hq] at hi; cases hi
  | some i =>
    have hn : ¬ n = 0 := by omega
    have ha : (⟨b, 0, none⟩ : Addr).add 0 = ⟨b, 0, none⟩ := by rw [addr_add]
    simp [execOp, mkO, Instr.sliceAt, Instr.sureAddr, Instr.sliceBounds, run_underlying ht, hx, sizeOf, typeInfo, hq, hn, ha]
theorem bound_run {k : IntKind} {i : Int} {y : Nat} {c : Go.BoundsCode} {w : World} (h : 0 ≤ i ∧ i ≤ y) : (Instr.sliceBound (.int k i) y c).run P w = .ok i.toNat w := by
  simp [Instr.sliceBound, asIntOf, h]
theorem raw_s3 {t e : TypeId} {ty : TypeId} {x lo hi mx : Operand} {K : Value → Prop} {s : Sl} {δ} {A : Option Addr} {n c : Nat} {i j m : Int} (ht : P.underlying t = some (.slice e)) (he : (P.info? e).isSome = true) (hx : ev s x = .slice A n c)
    (h1 : ev s lo = .int .i64 i) (h2 : ev s hi = .int .i64 j) (h3 : ev s mx = .int .i64 m) (hb : 0 ≤ i ∧ i ≤ j ∧ j ≤ m ∧ m ≤ c) (hk : ∀ v, K v) : rawF P (.slice t x (some lo) (some hi) (some mx)) ty K s δ := by
  cases hq : P.info? e with
  | none => rw [hq] at he; cases he
  | some ie =>
    refine ⟨.slice (if m.toNat = i.toNat then A else A.map (·.add (i.toNat * ie.size))) (j.toNat - i.toNat) (m.toNat - i.toNat), fun w => ?_, hk _⟩
    have b1 : ∀ c', (Instr.sliceBound (.int .i64 m) c c').run P w = .ok m.toNat w := fun c' => bound_run (by omega)
    have b2 : ∀ c', (Instr.sliceBound (.int .i64 j) m.toNat c').run P w = .ok j.toNat w := fun c' => bound_run (by omega)
    have b3 : ∀ c', (Instr.sliceBound (.int .i64 i) j.toNat c').run P w = .ok i.toNat w := fun c' => bound_run (by omega)
    simp [execOp, mkO, Instr.sliceAt, Instr.slice, Instr.sliceBounds, run_underlying ht, hx, h1, h2, h3, sizeOf, typeInfo, hq, b1, b2, b3]
theorem raw_s2 {t e : TypeId} {ty : TypeId} {x lo hi : Operand} {K : Value → Prop} {s : Sl} {δ} {b o n c : Nat} {i j : Nat} (ht : P.underlying t = some (.slice e)) {size : Nat} (he : (P.info? e).map (·.size) = some size) (hx : ev s x = .slice (some ⟨b, o, none⟩) n c)
    (h1 : ev s lo = .int .i64 i) (h2 : ev s hi = .int .i64 j) (hb : i ≤ j ∧ j ≤ c ∧ i < c) (hk : K (.slice (some ⟨b, o + i * size, none⟩) (j - i) (c - i))) : rawF P (.slice t x (some lo) (some hi) none) ty K s δ := by
  refine ⟨_, fun w => ?_, hk⟩
  cases hq : P.info? e with
  | none => rw [hq] at he; cases he
  | some ie =>
    rw [hq] at he
    simp only [Option.map_some, Option.some.injEq] at he
    have hc : ¬ c = i := by omega
    have b2 : ∀ c', (Instr.sliceBound (.int .i64 (j : Int)) c c').run P w = .ok j w := fun c' => by have := bound_run (P := P) (w := w) (k := .i64) (i := (j : Int)) (y := c) (c := c') (by omega); simpa using this
    have b3 : ∀ c', (Instr.sliceBound (.int .i64 (i : Int)) j c').run P w = .ok i w := fun c' => by have := bound_run (P := P) (w := w) (k := .i64) (i := (i : Int)) (y := j) (c := c') (by omega); simpa using this
    simp [execOp, mkO, Instr.sliceAt, Instr.slice, Instr.sliceBounds, run_underlying ht, hx, h1, h2, sizeOf, typeInfo, hq, b2, b3, he, hc, addr_add]
theorem raw_cap {t e : TypeId} {ty : TypeId} {x : Operand} {K : Value → Prop} {s : Sl} {δ} {A : Option Addr} {n c : Nat} (ht : P.underlying t = some (.slice e)) (hx : ev s x = .slice A n c) (hk : K (.int .i64 (c : Nat))) : rawF P (.call { callee := .builtin .cap, args := #[x], argTypes := #[t] }) ty K s δ := by
  refine ⟨_, fun w => ?_, hk⟩
  simp [execOp, mkO, resolve, invoke, builtin, Builtin.cap_, hx, goInt, run_underlying ht]
theorem map_eq {t a b : TypeId} (ht : P.underlying t = some (.map a b)) (d : Nat) (m : Option Nat) (w : World) : (Op.equalIn (d + 1) t (.map m) (.map none)).run P w = .ok (decide (m = none)) w := by
  cases m <;> simp [Op.equalIn, run_underlying ht]
theorem raw_mapnil {t a b : TypeId} {x : Operand} {ty : TypeId} {K : Value → Prop} {s : Sl} {δ} {m : Option Nat} (ht : P.underlying t = some (.map a b)) (hx : ev s x = .map m) (hk : K (.bool (decide (m = none)))) : rawF P (.binOp .eql t x (.const (.map none)) t) ty K s δ := by
  refine ⟨_, fun w => ?_, hk⟩
  have he : (Op.equal t (.map m) (.map none)).run P w = .ok (decide (m = none)) w := map_eq ht 9999 m w
  have hc : ev s (.const (.map none)) = .map none := rfl
  simp only [execOp, mkO, hx, hc]
  simp [eqGuard, binOp, he]
theorem row_put {σ : Hp} {w : World} (hs : Sat σ w) {g o room : Nat} {T : TypeId} {xs ys : List Value} (hg : σ g = some (.row xs room T)) (h1 : ys.all one = true) (ho : o ≤ xs.length) (hf : o + ys.length ≤ room) :
    ∃ w', (storeCells ⟨g, o, none⟩ ys 0).run P w = .ok () w' ∧ Sat (upd σ g (.row (xs.take o ++ ys ++ xs.drop (o + ys.length)) room T)) w' ∧ ∀ w0 σ0, Fr w0 w σ0 σ → Fr w0 w' σ0 (upd σ g (.row (xs.take o ++ ys ++ xs.drop (o + ys.length)) room T)) := by
  obtain ⟨rest, hrl, ha⟩ := hs g _ hg
  have h1' : ∀ v ∈ ys, v.oneCell' = true := fun v hv => by rw [← one_eq]; exact List.all_eq_true.1 h1 v hv
  have hst := run_storeCells_at P g o T ys 0 _ w ha (by simp; omega) h1'
  rw [setRow_put ha] at hst
  refine ⟨_, hst, ?_, fun w0 σ0 h => h.put (by rw [hg]; simp) _ _⟩
  refine hs.put (hs.lt (by rw [hg]; simp)) _ _ ⟨rest.drop (o + ys.length - xs.length), ?_, ?_⟩
  · simp only [List.length_append, List.length_take, List.length_drop]; omega
  · congr 2
    simp only [Nat.add_zero]
    rw [List.take_append_of_le_length ho, List.drop_append]
    simp
theorem hop_copy {t t' e ty : TypeId} {x y : Operand} {K : Value → Hp → Prop} {s : Sl} {σ : Hp} {δ} {g o dLen dCap b off sLen sCap room size : Nat} {T : TypeId} {xs ys : List Value} (ht : P.underlying t = some (.slice e)) (he : (P.info? e).map (·.size) = some size)
    (hx : ev s x = .slice (some ⟨g, o, none⟩) dLen dCap) (hy : ev s y = .slice (some ⟨b, off, none⟩) sLen sCap) (hg : σ g = some (.row xs room T)) {n : Nat} (hn : Nat.min sLen dLen = n) (hys : rdn σ b off (n * size) = some ys) (h1 : ys.all one = true) (ho : o ≤ xs.length) (hf : o + ys.length ≤ room)
    (hk : K (.int .i64 n) (upd σ g (.row (xs.take o ++ ys ++ xs.drop (o + ys.length)) room T))) : hopF P (.call { callee := .builtin .copy, args := #[x, y], argTypes := #[t, t'] }) ty K s σ δ := by
  subst hn
  refine ⟨(fun cs b h => by cases h), fun v σ' => v = .int .i64 (Nat.min sLen dLen : Nat) ∧ σ' = upd σ g (.row (xs.take o ++ ys ++ xs.drop (o + ys.length)) room T), fun w hs => ?_, fun v σ' h _ => by obtain ⟨rfl, rfl⟩ := h; exact hk⟩
  obtain ⟨hl, hnews⟩ := rdn_cells hs hys
  have hfirst := run_firstCells_some (P := P) w size (Nat.min sLen dLen) ⟨b, off, none⟩ sLen sCap ys hl hnews
  obtain ⟨w', hst, h2, h3⟩ := row_put (P := P) hs hg h1 ho hf
  refine ⟨_, w', _, ?_, h2, h3, rfl, rfl⟩
  cases hq : P.info? e with
  | none => rw [hq] at he; cases he
  | some ie =>
    rw [hq] at he
    simp only [Option.map_some, Option.some.injEq] at he
    have e : (Builtin.copy_ #[t, t'] ty #[.slice (some ⟨g, o, none⟩) dLen dCap, .slice (some ⟨b, off, none⟩) sLen sCap]).run P w = .ok (.int .i64 (Nat.min sLen dLen : Nat)) w' := by
      simp [Builtin.copy_, run_underlying ht, Builtin.lenOf, sizeOf, typeInfo, hq, he, hfirst, hst, goInt]
    simp [execOp, mkO, resolve, invoke, builtin, hx, hy, e]
theorem zeros_one (z : Array Value) : (Builtin.zeroCells z 1).toList = z.toList := by
  refine List.ext_getElem (by simp [Builtin.zeroCells]) fun i h1 h2 => ?_
  have hi : i < z.size := by simpa using h2
  simp [Builtin.zeroCells, Nat.mod_eq_of_lt hi, getElem!_pos, hi]
theorem row_less {σ : Hp} {w : World} {g room : Nat} {T : TypeId} {xs tl : List Value} (hs : Sat (upd σ g (.row (xs ++ tl) room T)) w) : Sat (upd σ g (.row xs room T)) w := fun k o hk => by
  by_cases ek : k = g
  · subst ek
    rw [upd_same] at hk; cases hk
    obtain ⟨rest, h4, h5⟩ := hs k _ (upd_same _ _ _)
    exact ⟨tl ++ rest, by simp only [List.length_append] at h4 ⊢; omega, by rw [h5, List.append_assoc]⟩
  · rw [upd_ne _ _ ek] at hk; exact hs k o (by rw [upd_ne _ _ ek]; exact hk)
/-- One element behind those that are kept is cleared, and forgotten. -/
theorem hop_clear {t e ty : TypeId} {ie : TypeInfo} {z : Value} {x : Operand} {K : Value → Hp → Prop} {s : Sl} {σ : Hp} {δ} {g o c room size : Nat} {T : TypeId} {xs tl : List Value} (ht : P.underlying t = some (.slice e)) (hi : P.info? e = some ie) (hz : ie.zero = some z) (hzs : z.cells.size = size)
    (hx : ev s x = .slice (some ⟨g, o, none⟩) 1 c) (hg : σ g = some (.row (xs ++ tl) room T)) (h1 : z.cells.toList.all one = true) (ho : o = xs.length) (hf : o + size ≤ room)
    (hk : K (.tuple #[]) (upd σ g (.row xs room T))) : hopF P (.call { callee := .builtin .clear, args := #[x], argTypes := #[t] }) ty K s σ δ := by
  subst ho
  have hlen : z.cells.toList.length = size := by rw [Array.length_toList]; exact hzs
  refine ⟨(fun cs b h => by cases h), fun v σ' => v = .tuple #[] ∧ σ' = upd σ g (.row xs room T), fun w hs => ?_, fun v σ' h _ => by obtain ⟨rfl, rfl⟩ := h; exact hk⟩
  obtain ⟨w', hst, h2, h3⟩ := row_put (P := P) hs hg (ys := z.cells.toList) h1 (show xs.length ≤ (xs ++ tl).length by simp) (by rw [hlen]; exact hf)
  refine ⟨_, w', _, ?_, ?_, fun w0 σ0 h => ?_, rfl, rfl⟩
  · have e : (Builtin.clear_ #[t] ty #[.slice (some ⟨g, xs.length, none⟩) 1 c]).run P w = .ok (.tuple #[]) w' := by
      simp [Builtin.clear_, run_underlying ht, zeroValue, typeInfo, hi, hz, zeros_one, hst]
    simp [execOp, mkO, resolve, invoke, builtin, hx, e]
  · rw [List.take_left, List.append_assoc] at h2
    exact row_less h2
  · have := h3 w0 σ0 h
    exact ⟨this.os, this.tape, this.output, this.size, this.block, fun k hk hn => by
      have := this.know k hk hn
      have hkg : k ≠ g := fun e => by rw [e, upd_same] at this; cases this
      rw [upd_ne _ _ hkg] at this ⊢; exact this⟩
theorem hop_zeros {t tn e ty : TypeId} {kn : IntKind} {ie : TypeInfo} {z : Value} {x y : Operand} {K : Value → Hp → Prop} {s : Sl} {σ : Hp} {δ} {g i c k room size bytes : Nat} {T : TypeId} {xs tl : List Value} (ht : P.underlying t = some (.slice e)) (htn : P.underlying tn = some (.int kn)) (hi : P.info? e = some ie) (hz : ie.zero = some z)
    (hsz : ie.size = size) (hby : ie.bytes = bytes) (hzs : z.cells.size = size) (h0 : 0 < size) (hx : ev s x = .slice (some ⟨g, 0, none⟩) i c) (hy : ev s y = .int .i64 (k : Nat)) (hg : σ g = some (.row (xs ++ tl) room T)) (hxl : xs.length = i * size) (hk0 : 0 < k) (hc : c < i + k)
    (hb : (i + k) * bytes ≤ 140737488355328) (hm : i + k ≤ maxLen)
    (hk : ∀ b' c' Z, σ b' = none → i + k ≤ c' → Z.length = k * size → K (.slice (some ⟨b', 0, none⟩) (i + k) c') (upd σ b' (.row (xs ++ Z) (c' * size) e))) : hopF P (.call { callee := .builtin .append, args := #[x, y], argTypes := #[t, tn] }) ty K s σ δ := by
  refine ⟨(fun cs b h => by cases h), fun v σ' => ∃ b' c' Z, σ b' = none ∧ i + k ≤ c' ∧ Z.length = k * size ∧ v = .slice (some ⟨b', 0, none⟩) (i + k) c' ∧ σ' = upd σ b' (.row (xs ++ Z) (c' * size) e), fun w hs => ?_, fun v σ' h _ => by obtain ⟨b', c', Z, h1, h2, h3, rfl, rfl⟩ := h; exact hk b' c' Z h1 h2 h3⟩
  obtain ⟨rest, hrl, ha⟩ := hs g _ hg
  have holds : ∀ j v, xs[j]? = some v → w.drew.cell? ((⟨g, 0, none⟩ : Addr).add j) = some v := fun j v hv => by
    rw [addr_add, Nat.zero_add]
    show w.cell? _ = _
    rw [cell_of_cells ha, List.append_assoc, List.getElem?_append_left (List.getElem?_eq_some_iff.mp hv).1]; exact hv
  have hfo := run_firstCells_some (P := P) w.drew ie.size i ⟨g, 0, none⟩ i c xs (by rw [hsz]; exact hxl) holds
  unfold maxLen at hm
  have hrun := Lib.run_append_grow_zeros (P := P) w t tn ty e ie z .i64 kn ht htn hi hz (some ⟨g, 0, none⟩) i c xs hfo k hk0 (by omega) hc (by omega) (by rw [hby]; have := Nat.mul_le_mul_right bytes (show k ≤ i + k by omega); omega) (by rw [hby]; exact growslice_fits hc hb)
  have hge := grownCap_ge w (i + k) c e
  refine ⟨.slice (some ⟨w.heap.size, 0, none⟩) (i + k) (grownCap w (i + k) c e), w.drew.alloc (.cells (xs.toArray ++ Builtin.zeroCells z.cells k ++ Builtin.zeroCells z.cells (grownCap w (i + k) c e - (i + k))) e), upd σ w.heap.size (.row (xs ++ (Builtin.zeroCells z.cells k).toList) (grownCap w (i + k) c e * size) e), ?_, ?_, ?_, w.heap.size, grownCap w (i + k) c e, (Builtin.zeroCells z.cells k).toList, hs.none_of_le (Nat.le_refl _), hge, by rw [zc_len, hzs], rfl, rfl⟩
  · simp [execOp, mkO, resolve, invoke, builtin, hx, hy, hrun]
  · refine Sat.push (w := w.drew) (hs.drew _) _ _ ⟨(Builtin.zeroCells z.cells (grownCap w (i + k) c e - (i + k))).toList, ?_, ?_⟩
    · rw [zc_len, hzs, List.length_append, zc_len, hzs, hxl, ← Nat.add_mul, ← Nat.add_mul]; congr 1; omega
    · congr 2; apply Array.ext'; simp
  · exact fun w0 σ0 hf => (hf.drew _).push _ _
theorem hop_overlaps {f : FuncId} {t t' tR e ty : TypeId} {x y : Operand} {K : Value → Hp → Prop} {s : Sl} {σ : Hp} {δ} {vb g o1 o2 n1 c1 n2 c2 r1 r2 size : Nat} {T1 T2 : TypeId} {xs1 xs2 : List Value}
    (hf : ∀ args w, (callFunc f args).run P w = ((Extern.SlicesOverlaps.overlaps #[t, t] #[tR] args).run P w).andThen fun v w' => .ok (.value v) w') (ht : P.underlying t = some (.slice e)) (hz : ∀ w, (Go.sizeOf e).run P w = .ok size w)
    (hx : ev s x = .slice (some ⟨vb, o1, none⟩) n1 c1) (hy : ev s y = .slice (some ⟨g, o2, none⟩) n2 c2) (h1 : σ vb = some (.row xs1 r1 T1)) (h2 : σ g = some (.row xs2 r2 T2)) (hne : vb ≠ g) (hr : r2 ≠ 0)
    (hk : K (.bool false) σ) : hopF P (.call { callee := .value (.func f), args := #[x, y], argTypes := #[t, t'] }) ty K s σ δ := by
  refine ⟨(fun cs b h => by cases h), fun v σ' => v = .bool false ∧ σ' = σ, fun w hs => ?_, fun v σ' h _ => by obtain ⟨rfl, rfl⟩ := h; exact hk⟩
  obtain ⟨q1, l1, a1⟩ := hs vb _ h1
  obtain ⟨q2, l2, a2⟩ := hs g _ h2
  have hov := Lib.run_overlaps_apart (P := P) w t tR e ht size hz ⟨vb, o1, none⟩ ⟨g, o2, none⟩ n1 c1 n2 c2 hne T1 T2 r1 r2 (by simp [World.shape?, a1]; omega) (by simp [World.shape?, a2]; omega) hr (by simp [World.frozen?, a1]) (by simp [World.frozen?, a1])
  refine ⟨_, w, σ, ?_, hs, fun w0 σ0 h => h, rfl, rfl⟩
  have e := hf #[.slice (some ⟨vb, o1, none⟩) n1 c1, .slice (some ⟨g, o2, none⟩) n2 c2] w
  rw [hov] at e
  have hv : ev s (.func f) = .func (.func f) #[] #[] := rfl
  simp [execOp, mkO, resolve, Deferred.ofValue, invoke, hx, hy, hv, e]
end Go.Sp

-- V1
namespace Go.Proofs.Ytpnghjmphbhkjaa
open Go.Sp
set_option linter.unusedSimpArgs false
set_option linter.unusedVariables false
theorem isNaN109 (x : Int) (σ : Hp) : ACalls Try.prog 109 #[.int .i64 x] σ fun u σ' => u = .bool false ∧ σ' = σ := by
  (refine acalls_F ok109 (by simp) ?_; unfold c109 r109)
  (repeat' (first | (simp +contextual -dsimp only [*, ↓reduceIte, ↓evP, evQ, splice, Nat.reduceAdd, Nat.reduceEqDiff, Nat.reduceLeDiff, Nat.reduceMul, reduceCtorEq, Int.reduceLT, Int.reduceLE, Int.reduceGT, Int.reduceGE, Int.reduceEq, Int.reduceNeg]) | (refine condF_split (fun hc => ?_) (fun hc => ?_) <;> (try simp only [Bool.not_eq_true', Bool.not_eq_false', Bool.and_eq_true, Bool.or_eq_false_iff] at hc)) | (intro _; intros) | (refine And.intro ?_ ?_; focus (first | omega | ((repeat (first | exact Sub.refl _ | (refine Sub.drop ?_ ?_; focus (simp only [evN, *]; done)) | refine Sub.both ?_)); done) | (simp_all; done) | (simp_all; omega)))))
  all_goals (refine endF_det ?_ ?_; (focus ((try simp only [cond_true, cond_false, *]) <;> ((try simp only [decide_eq_true_eq, decide_eq_false_iff_not] at *) <;> first | rfl | (simp []; done) | (simp_all []; done) | (simp []; omega) | (simp []; (rw [Bool.eq_iff_iff]); simp; omega) | (simp_all [] <;> omega) | ((try unfold id); (rw [Value.bool.injEq, Bool.eq_iff_iff]); simp <;> omega) | ((try unfold id); (repeat' split) <;> simp_all <;> omega) | (simp_all [] <;> (repeat' split) <;> simp_all <;> omega)))); (focus ((try simp only [cond_true, cond_false, set_same, *]); exact (by (repeat (first | exact Sub.refl _ | (refine Sub.drop ?_ ?_; focus (simp only [evN, *]; done)) | refine Sub.both ?_)); done))))
theorem cmp88 (x y : Int) (σ : Hp) : ACalls Try.prog 88 #[.int .i64 x, .int .i64 y] σ fun u σ' => u = .int .i64 (cmpI x y) ∧ σ' = σ := by
  (refine acalls_F ok88 (by simp) ?_; unfold c88 r88)
  (repeat' (first | (simp +contextual -dsimp only [*, ↓reduceIte, ↓evP, evQ, splice, Nat.reduceAdd, Nat.reduceEqDiff, Nat.reduceLeDiff, Nat.reduceMul, reduceCtorEq, Int.reduceLT, Int.reduceLE, Int.reduceGT, Int.reduceGE, Int.reduceEq, Int.reduceNeg]) | (refine condF_split (fun hc => ?_) (fun hc => ?_) <;> (try simp only [Bool.not_eq_true', Bool.not_eq_false', Bool.and_eq_true, Bool.or_eq_false_iff] at hc)) | refine callF_v (isNaN109 _ _) ?_ | refine ccallF_of (isNaN109 _ _) ?_ | refine gcallF_of (isNaN109 _ _) ?_ | (intro _; intros) | (refine And.intro ?_ ?_; focus (first | omega | ((repeat (first | exact Sub.refl _ | (refine Sub.drop ?_ ?_; focus (simp only [evN, *]; done)) | refine Sub.both ?_)); done) | (simp_all; done) | (simp_all; omega)))))
  all_goals (refine endF_det ?_ (Sub.refl _))
  all_goals (simp only [cmpI]; simp_all)
  rw [if_neg (by omega), if_neg (by omega)]
theorem cmpL_step {xs ys : List Int} {i : Nat} {x y : Int} (hx : xs[i]? = some x) (hy : ys[i]? = some y) : cmpL (xs.drop i) (ys.drop i) = if cmpI x y = 0 then cmpL (xs.drop (i + 1)) (ys.drop (i + 1)) else cmpI x y := by
  obtain ⟨h1, rfl⟩ := List.getElem?_eq_some_iff.1 hx
  obtain ⟨h2, rfl⟩ := List.getElem?_eq_some_iff.1 hy
  rw [List.drop_eq_getElem_cons h1, List.drop_eq_getElem_cons h2]; rfl
theorem compare97 {σ : Hp} {b1 b2 : Nat} {xs ys : List Int} (h1 : ∀ i x, xs[i]? = some x → Go.Sp.rd σ b1 i = some (.int .i64 x)) (h2 : ∀ i x, ys[i]? = some x → Go.Sp.rd σ b2 i = some (.int .i64 x)) (l1 : xs.length = 4) (l2 : ys.length = 4) :
    ACalls Try.prog 97 #[.slice (some ⟨b1, 0, none⟩) 4 4, .slice (some ⟨b2, 0, none⟩) 4 4] σ fun u σ' => u = .int .i64 (cmpL xs ys) ∧ σ' = σ := by
  have H1 := Hid.mk h1
  have H2 := Hid.mk h2
  clear h1 h2
  (refine acalls_F ok97 (by simp) ?_; unfold c97 r97)
  (repeat' (first | (simp +contextual -dsimp only [*, ↓reduceIte, ↓evP, evQ, splice, Nat.reduceAdd, Nat.reduceEqDiff, Nat.reduceLeDiff, Nat.reduceMul, reduceCtorEq, Int.reduceLT, Int.reduceLE, Int.reduceGT, Int.reduceGE, Int.reduceEq, Int.reduceNeg]) | (refine condF_split (fun hc => ?_) (fun hc => ?_) <;> (try simp only [Bool.not_eq_true', Bool.not_eq_false', Bool.and_eq_true, Bool.or_eq_false_iff] at hc)) | (intro _; intros) | (refine And.intro ?_ ?_; focus (first | omega | ((repeat (first | exact Sub.refl _ | (refine Sub.drop ?_ ?_; focus (simp only [evN, *]; done)) | refine Sub.both ?_)); done) | (simp_all; done) | (simp_all; omega)))))
  refine loopF_of (fun k s σ' => ∃ i : Nat, i ≤ 4 ∧ k = 4 - i ∧ s 11 = .int .i64 i ∧ s 10 = .int .i64 4 ∧ s 9 = .slice (some ⟨b1, 0, none⟩) 4 4 ∧ s 0 = .slice (some ⟨b1, 0, none⟩) 4 4 ∧ s 1 = .slice (some ⟨b2, 0, none⟩) 4 4 ∧ σ' = σ ∧ cmpL xs ys = cmpL (xs.drop i) (ys.drop i)) 4 (Sub.refl _)
    ⟨0, by omega, rfl, (by first | rfl | (simp only [↓putO_get, ↓putO_no, init_zero, init_succ, Nat.reduceEqDiff, ↓reduceIte, *]; done) | (simp only [↓putO_get, ↓putO_no, init_zero, init_succ, Nat.reduceEqDiff, ↓reduceIte, *]; rfl)), (by first | rfl | (simp only [↓putO_get, ↓putO_no, init_zero, init_succ, Nat.reduceEqDiff, ↓reduceIte, *]; done) | (simp only [↓putO_get, ↓putO_no, init_zero, init_succ, Nat.reduceEqDiff, ↓reduceIte, *]; rfl)), (by first | rfl | (simp only [↓putO_get, ↓putO_no, init_zero, init_succ, Nat.reduceEqDiff, ↓reduceIte, *]; done) | (simp only [↓putO_get, ↓putO_no, init_zero, init_succ, Nat.reduceEqDiff, ↓reduceIte, *]; rfl)), (by first | rfl | (simp only [↓putO_get, ↓putO_no, init_zero, init_succ, Nat.reduceEqDiff, ↓reduceIte, *]; done) | (simp only [↓putO_get, ↓putO_no, init_zero, init_succ, Nat.reduceEqDiff, ↓reduceIte, *]; rfl)), (by first | rfl | (simp only [↓putO_get, ↓putO_no, init_zero, init_succ, Nat.reduceEqDiff, ↓reduceIte, *]; done) | (simp only [↓putO_get, ↓putO_no, init_zero, init_succ, Nat.reduceEqDiff, ↓reduceIte, *]; rfl)), rfl, rfl⟩ ?_
  rintro k s τ ⟨i, hi, hk, s11, s10, s9, s0, s1, hτ, hc⟩
  subst hτ
  rcases Nat.lt_or_ge i 4 with hlt | hge
  · obtain ⟨x, hx⟩ : ∃ x, xs[i]? = some x := ⟨_, List.getElem?_eq_getElem (by omega)⟩
    obtain ⟨y, hy⟩ : ∃ y, ys[i]? = some y := ⟨_, List.getElem?_eq_getElem (by omega)⟩
    have r1 : Go.Sp.rd τ b1 (i * 1) = some (.int .i64 x) := by rw [Nat.mul_one]; exact H1.out i x hx
    have r2 : Go.Sp.rd τ b2 (i * 1) = some (.int .i64 y) := by rw [Nat.mul_one]; exact H2.out i y hy
    have hs := cmpL_step hx hy
    have HC := Hid.mk (And.intro hc hs)
    have hd : decide ((i : Int) < 4) = true := by simp; omega
    have hd' : decide ((i : Int) ≥ 4) = false := by simp; omega
    have e1 : IntKind.i64.wrap ((i : Int) + 1) = ((i + 1 : Nat) : Int) := by rw [wi64 (by omega)]; rfl
    clear hc hs hx hy
    cases hz : decide (cmpI x y = 0) with
    | true =>
      have hz' : decide (¬ cmpI x y = 0) = false := by have := of_decide_eq_true hz; simp [this]
      have HZ := Hid.mk (of_decide_eq_true hz)
      (repeat' (first | (simp +contextual -dsimp only [*, ↓reduceIte, ↓evP, evQ, splice, Nat.reduceAdd, Nat.reduceEqDiff, Nat.reduceLeDiff, Nat.reduceMul, reduceCtorEq, Int.reduceLT, Int.reduceLE, Int.reduceGT, Int.reduceGE, Int.reduceEq, Int.reduceNeg]) | (refine condF_split (fun hc => ?_) (fun hc => ?_) <;> (try simp only [Bool.not_eq_true', Bool.not_eq_false', Bool.and_eq_true, Bool.or_eq_false_iff] at hc)) | refine callF_v (cmp88 _ _ _) ?_ | refine ccallF_of (cmp88 _ _ _) ?_ | refine gcallF_of (cmp88 _ _ _) ?_ | (intro _; intros) | (refine And.intro ?_ ?_; focus (first | omega | ((repeat (first | exact Sub.refl _ | (refine Sub.drop ?_ ?_; focus (simp only [evN, *]; done)) | refine Sub.both ?_)); done) | (simp_all; done) | (simp_all; omega)))))
      refine nextF_of (4 - (i + 1)) (by omega) (Sub.refl _) ⟨i + 1, by omega, rfl, (by first | rfl | (simp only [↓putO_get, ↓putO_no, init_zero, init_succ, Nat.reduceEqDiff, ↓reduceIte, *]; done) | (simp only [↓putO_get, ↓putO_no, init_zero, init_succ, Nat.reduceEqDiff, ↓reduceIte, *]; rfl)), (by first | rfl | (simp only [↓putO_get, ↓putO_no, init_zero, init_succ, Nat.reduceEqDiff, ↓reduceIte, *]; done) | (simp only [↓putO_get, ↓putO_no, init_zero, init_succ, Nat.reduceEqDiff, ↓reduceIte, *]; rfl)), (by first | rfl | (simp only [↓putO_get, ↓putO_no, init_zero, init_succ, Nat.reduceEqDiff, ↓reduceIte, *]; done) | (simp only [↓putO_get, ↓putO_no, init_zero, init_succ, Nat.reduceEqDiff, ↓reduceIte, *]; rfl)), (by first | rfl | (simp only [↓putO_get, ↓putO_no, init_zero, init_succ, Nat.reduceEqDiff, ↓reduceIte, *]; done) | (simp only [↓putO_get, ↓putO_no, init_zero, init_succ, Nat.reduceEqDiff, ↓reduceIte, *]; rfl)), (by first | rfl | (simp only [↓putO_get, ↓putO_no, init_zero, init_succ, Nat.reduceEqDiff, ↓reduceIte, *]; done) | (simp only [↓putO_get, ↓putO_no, init_zero, init_succ, Nat.reduceEqDiff, ↓reduceIte, *]; rfl)), rfl, ?_⟩
      rw [HC.out.1, HC.out.2, if_pos HZ.out]
    | false =>
      have hz' : decide (¬ cmpI x y = 0) = true := by have := of_decide_eq_false hz; simp [this]
      have HZ := Hid.mk (of_decide_eq_false hz)
      (repeat' (first | (simp +contextual -dsimp only [*, ↓reduceIte, ↓evP, evQ, splice, Nat.reduceAdd, Nat.reduceEqDiff, Nat.reduceLeDiff, Nat.reduceMul, reduceCtorEq, Int.reduceLT, Int.reduceLE, Int.reduceGT, Int.reduceGE, Int.reduceEq, Int.reduceNeg]) | (refine condF_split (fun hc => ?_) (fun hc => ?_) <;> (try simp only [Bool.not_eq_true', Bool.not_eq_false', Bool.and_eq_true, Bool.or_eq_false_iff] at hc)) | refine callF_v (cmp88 _ _ _) ?_ | refine ccallF_of (cmp88 _ _ _) ?_ | refine gcallF_of (cmp88 _ _ _) ?_ | (intro _; intros) | (refine And.intro ?_ ?_; focus (first | omega | ((repeat (first | exact Sub.refl _ | (refine Sub.drop ?_ ?_; focus (simp only [evN, *]; done)) | refine Sub.both ?_)); done) | (simp_all; done) | (simp_all; omega)))))
      refine endF_det ?_ (Sub.refl _)
      rw [HC.out.1, HC.out.2, if_neg HZ.out]
  · have hd : decide ((i : Int) < 4) = false := by simp; omega
    have e : cmpL xs ys = 0 := by rw [hc, List.drop_of_length_le (by omega), List.drop_of_length_le (by omega)]; rfl
    have HE := Hid.mk e
    clear hc e
    (repeat' (first | (simp +contextual -dsimp only [*, ↓reduceIte, ↓evP, evQ, splice, Nat.reduceAdd, Nat.reduceEqDiff, Nat.reduceLeDiff, Nat.reduceMul, reduceCtorEq, Int.reduceLT, Int.reduceLE, Int.reduceGT, Int.reduceGE, Int.reduceEq, Int.reduceNeg]) | (refine condF_split (fun hc => ?_) (fun hc => ?_) <;> (try simp only [Bool.not_eq_true', Bool.not_eq_false', Bool.and_eq_true, Bool.or_eq_false_iff] at hc)) | (intro _; intros) | (refine And.intro ?_ ?_; focus (first | omega | ((repeat (first | exact Sub.refl _ | (refine Sub.drop ?_ ?_; focus (simp only [evN, *]; done)) | refine Sub.both ?_)); done) | (simp_all; done) | (simp_all; omega)))))
    refine endF_det ?_ (Sub.refl _)
    rw [HE.out]
theorem rank96 (e : En) (σ : Hp) : ACalls Try.prog 96 #[.agg e.cells.toArray] σ fun u σ' => u = .agg (e.rk.map (Value.int .i64)).toArray ∧ σ' = σ := by
  obtain ⟨key, has, data, lo, hi, hot, stamp, ins⟩ := e
  cases hot <;> cases hh : decide (hi = 4611686018427387904)
  all_goals (have hh' : decide (¬ hi = 4611686018427387904) = !decide (hi = 4611686018427387904) := by simp)
  all_goals (rw [hh] at hh')
  all_goals ((refine acalls_F ok96 (by simp) ?_; unfold c96 r96; simp +contextual -dsimp only [↓reduceIte, ↓evP, evQ, splice, Nat.reduceAdd, Nat.reduceEqDiff, Nat.reduceLeDiff, Nat.reduceMul, reduceCtorEq, Int.reduceLT, Int.reduceLE, Int.reduceGT, Int.reduceGE, Int.reduceEq, Int.reduceNeg]))
  all_goals (unfold En.cells; simp +contextual -dsimp only [*, ↓reduceIte, ↓evP, evQ, splice, Nat.reduceAdd, Nat.reduceEqDiff, Nat.reduceLeDiff, Nat.reduceMul, reduceCtorEq, Int.reduceLT, Int.reduceLE, Int.reduceGT, Int.reduceGE, Int.reduceEq, Int.reduceNeg])
  all_goals (repeat' (first | (simp +contextual -dsimp only [*, ↓reduceIte, ↓evP, evQ, splice, Nat.reduceAdd, Nat.reduceEqDiff, Nat.reduceLeDiff, Nat.reduceMul, reduceCtorEq, Int.reduceLT, Int.reduceLE, Int.reduceGT, Int.reduceGE, Int.reduceEq, Int.reduceNeg]) | (refine condF_split (fun hc => ?_) (fun hc => ?_) <;> (try simp only [Bool.not_eq_true', Bool.not_eq_false', Bool.and_eq_true, Bool.or_eq_false_iff] at hc)) | (intro _; intros) | (refine And.intro ?_ ?_; focus (first | omega | ((repeat (first | exact Sub.refl _ | (refine Sub.drop ?_ ?_; focus (simp only [evN, *]; done)) | refine Sub.both ?_)); done) | (simp_all; done) | (simp_all; omega)))))
  · refine endF_det ?_ (by (repeat (first | exact Sub.refl _ | (refine Sub.drop ?_ ?_; focus (simp only [evN, *]; done)) | refine Sub.both ?_)); done)
    unfold En.rk; rw [if_neg (of_decide_eq_false hh)]; rfl
  · refine endF_det ?_ (by (repeat (first | exact Sub.refl _ | (refine Sub.drop ?_ ?_; focus (simp only [evN, *]; done)) | refine Sub.both ?_)); done)
    unfold En.rk; rw [if_pos (of_decide_eq_true hh)]; rfl
  · refine endF_det ?_ (by (repeat (first | exact Sub.refl _ | (refine Sub.drop ?_ ?_; focus (simp only [evN, *]; done)) | refine Sub.both ?_)); done)
    unfold En.rk; rw [if_neg (of_decide_eq_false hh)]; rfl
  · refine endF_det ?_ (by (repeat (first | exact Sub.refl _ | (refine Sub.drop ?_ ?_; focus (simp only [evN, *]; done)) | refine Sub.both ?_)); done)
    unfold En.rk; rw [if_pos (of_decide_eq_true hh)]; rfl
theorem rd4 {σ : Hp} {b : Nat} {x0 x1 x2 x3 : Int} {T : TypeId} (hb : σ b = some (.cells [.int .i64 x0, .int .i64 x1, .int .i64 x2, .int .i64 x3] T)) : ∀ (i : Nat) (x : Int), [x0, x1, x2, x3][i]? = some x → Go.Sp.rd σ b i = some (.int .i64 x) := fun i x h => by
  unfold Go.Sp.rd; rw [hb]
  rcases i with _ | _ | _ | _ | i <;> simp at h <;> subst h <;> rfl
set_option maxRecDepth 100000 in
theorem compare72 (a b : En) (σ : Hp) : ACalls Try.prog 72 #[.agg a.cells.toArray, .agg b.cells.toArray] σ fun u σ' => u = .int .i64 (cmpL a.rk b.rk) ∧ σ' = σ := by
  have ha := rank96 a
  have hb := rank96 b
  obtain ⟨x0, x1, x2, x3, hx⟩ : ∃ x0 x1 x2 x3, a.rk = [x0, x1, x2, x3] := by unfold En.rk; split <;> exact ⟨_, _, _, _, rfl⟩
  obtain ⟨y0, y1, y2, y3, hy⟩ : ∃ y0 y1 y2 y3, b.rk = [y0, y1, y2, y3] := by unfold En.rk; split <;> exact ⟨_, _, _, _, rfl⟩
  rw [hx] at ha
  rw [hy] at hb
  (refine acalls_F ok72 (by simp) ?_; unfold c72 r72; simp +contextual -dsimp only [↓reduceIte, ↓evP, evQ, splice, Nat.reduceAdd, Nat.reduceEqDiff, Nat.reduceLeDiff, Nat.reduceMul, reduceCtorEq, Int.reduceLT, Int.reduceLE, Int.reduceGT, Int.reduceGE, Int.reduceEq, Int.reduceNeg])
  have HA := Hid.mk ha
  clear ha
  have HB := Hid.mk hb
  clear hb
  unfold En.cells
  (repeat' (first | (simp +contextual -dsimp only [*, ↓reduceIte, ↓evP, evQ, splice, Nat.reduceAdd, Nat.reduceEqDiff, Nat.reduceLeDiff, Nat.reduceMul, reduceCtorEq, Int.reduceLT, Int.reduceLE, Int.reduceGT, Int.reduceGE, Int.reduceEq, Int.reduceNeg]) | (refine condF_split (fun hc => ?_) (fun hc => ?_) <;> (try simp only [Bool.not_eq_true', Bool.not_eq_false', Bool.and_eq_true, Bool.or_eq_false_iff] at hc)) | (intro _; intros) | (refine And.intro ?_ ?_; focus (first | omega | ((repeat (first | exact Sub.refl _ | (refine Sub.drop ?_ ?_; focus (simp only [evN, *]; done)) | refine Sub.both ?_)); done) | (simp_all; done) | (simp_all; omega)))))
  all_goals refine gcallF_of (HA.out _) ?_
  all_goals (repeat' (first | (simp +contextual -dsimp only [*, ↓reduceIte, ↓evP, evQ, splice, Nat.reduceAdd, Nat.reduceEqDiff, Nat.reduceLeDiff, Nat.reduceMul, reduceCtorEq, Int.reduceLT, Int.reduceLE, Int.reduceGT, Int.reduceGE, Int.reduceEq, Int.reduceNeg]) | (refine condF_split (fun hc => ?_) (fun hc => ?_) <;> (try simp only [Bool.not_eq_true', Bool.not_eq_false', Bool.and_eq_true, Bool.or_eq_false_iff] at hc)) | (intro _; intros) | (refine And.intro ?_ ?_; focus (first | omega | ((repeat (first | exact Sub.refl _ | (refine Sub.drop ?_ ?_; focus (simp only [evN, *]; done)) | refine Sub.both ?_)); done) | (simp_all; done) | (simp_all; omega)))))
  all_goals refine gcallF_of (HB.out _) ?_
  all_goals (repeat' (first | (simp +contextual -dsimp only [*, ↓reduceIte, ↓evP, evQ, splice, Nat.reduceAdd, Nat.reduceEqDiff, Nat.reduceLeDiff, Nat.reduceMul, reduceCtorEq, Int.reduceLT, Int.reduceLE, Int.reduceGT, Int.reduceGE, Int.reduceEq, Int.reduceNeg]) | (refine condF_split (fun hc => ?_) (fun hc => ?_) <;> (try simp only [Bool.not_eq_true', Bool.not_eq_false', Bool.and_eq_true, Bool.or_eq_false_iff] at hc)) | (intro _; intros) | (refine And.intro ?_ ?_; focus (first | omega | ((repeat (first | exact Sub.refl _ | (refine Sub.drop ?_ ?_; focus (simp only [evN, *]; done)) | refine Sub.both ?_)); done) | (simp_all; done) | (simp_all; omega)))))
  all_goals (refine raw_arr (e := 2) (n := 4) Try.underlying182 (by kernel_rfl) (by first | rfl | (simp only [↓putO_get, ↓putO_no, init_zero, init_succ, Nat.reduceEqDiff, ↓reduceIte, *]; done) | (simp only [↓putO_get, ↓putO_no, init_zero, init_succ, Nat.reduceEqDiff, ↓reduceIte, *]; rfl)) (by decide) ?_)
  all_goals (repeat' (first | (simp +contextual -dsimp only [*, ↓reduceIte, ↓evP, evQ, splice, Nat.reduceAdd, Nat.reduceEqDiff, Nat.reduceLeDiff, Nat.reduceMul, reduceCtorEq, Int.reduceLT, Int.reduceLE, Int.reduceGT, Int.reduceGE, Int.reduceEq, Int.reduceNeg]) | (refine condF_split (fun hc => ?_) (fun hc => ?_) <;> (try simp only [Bool.not_eq_true', Bool.not_eq_false', Bool.and_eq_true, Bool.or_eq_false_iff] at hc)) | (intro _; intros) | (refine And.intro ?_ ?_; focus (first | omega | ((repeat (first | exact Sub.refl _ | (refine Sub.drop ?_ ?_; focus (simp only [evN, *]; done)) | refine Sub.both ?_)); done) | (simp_all; done) | (simp_all; omega)))))
  all_goals (refine raw_arr (e := 2) (n := 4) Try.underlying182 (by kernel_rfl) (by first | rfl | (simp only [↓putO_get, ↓putO_no, init_zero, init_succ, Nat.reduceEqDiff, ↓reduceIte, *]; done) | (simp only [↓putO_get, ↓putO_no, init_zero, init_succ, Nat.reduceEqDiff, ↓reduceIte, *]; rfl)) (by decide) ?_)
  all_goals (repeat' (first | (simp +contextual -dsimp only [*, ↓reduceIte, ↓evP, evQ, splice, Nat.reduceAdd, Nat.reduceEqDiff, Nat.reduceLeDiff, Nat.reduceMul, reduceCtorEq, Int.reduceLT, Int.reduceLE, Int.reduceGT, Int.reduceGE, Int.reduceEq, Int.reduceNeg]) | (refine condF_split (fun hc => ?_) (fun hc => ?_) <;> (try simp only [Bool.not_eq_true', Bool.not_eq_false', Bool.and_eq_true, Bool.or_eq_false_iff] at hc)) | (intro _; intros) | (refine And.intro ?_ ?_; focus (first | omega | ((repeat (first | exact Sub.refl _ | (refine Sub.drop ?_ ?_; focus (simp only [evN, *]; done)) | refine Sub.both ?_)); done) | (simp_all; done) | (simp_all; omega)))))
  all_goals (refine callF_v (compare97 (xs := [x0, x1, x2, x3]) (ys := [y0, y1, y2, y3]) (rd4 (by first | (simp only [upd_at, *, ↓reduceIte]; done) | (simp only [upd_at, *, ↓reduceIte]; rfl))) (rd4 (by first | (simp only [upd_at, *, ↓reduceIte]; done) | (simp only [upd_at, *, ↓reduceIte]; rfl))) rfl rfl) ?_)
  all_goals (repeat' (first | (simp +contextual -dsimp only [*, ↓reduceIte, ↓evP, evQ, splice, Nat.reduceAdd, Nat.reduceEqDiff, Nat.reduceLeDiff, Nat.reduceMul, reduceCtorEq, Int.reduceLT, Int.reduceLE, Int.reduceGT, Int.reduceGE, Int.reduceEq, Int.reduceNeg]) | (refine condF_split (fun hc => ?_) (fun hc => ?_) <;> (try simp only [Bool.not_eq_true', Bool.not_eq_false', Bool.and_eq_true, Bool.or_eq_false_iff] at hc)) | (intro _; intros) | (refine And.intro ?_ ?_; focus (first | omega | ((repeat (first | exact Sub.refl _ | (refine Sub.drop ?_ ?_; focus (simp only [evN, *]; done)) | refine Sub.both ?_)); done) | (simp_all; done) | (simp_all; omega)))))
  all_goals (refine endF_det (by rw [hx, hy]) (by (repeat (first | exact Sub.refl _ | (refine Sub.drop ?_ ?_; focus (simp only [evN, *]; done)) | refine Sub.both ?_)); done))
theorem before40 (a b : En) (σ : Hp) : ACalls Try.prog 40 #[.agg a.cells.toArray, .agg b.cells.toArray] σ fun u σ' => u = .bool (a.bef b) ∧ σ' = σ := by
  have h := compare72 a b
  have H := Hid.mk h
  clear h
  (refine acalls_F ok40 (by simp) ?_; unfold c40 r40; simp +contextual -dsimp only [↓reduceIte, ↓evP, evQ, splice, Nat.reduceAdd, Nat.reduceEqDiff, Nat.reduceLeDiff, Nat.reduceMul, reduceCtorEq, Int.reduceLT, Int.reduceLE, Int.reduceGT, Int.reduceGE, Int.reduceEq, Int.reduceNeg])
  unfold En.cells
  (repeat' (first | (simp +contextual -dsimp only [*, ↓reduceIte, ↓evP, evQ, splice, Nat.reduceAdd, Nat.reduceEqDiff, Nat.reduceLeDiff, Nat.reduceMul, reduceCtorEq, Int.reduceLT, Int.reduceLE, Int.reduceGT, Int.reduceGE, Int.reduceEq, Int.reduceNeg]) | (refine condF_split (fun hc => ?_) (fun hc => ?_) <;> (try simp only [Bool.not_eq_true', Bool.not_eq_false', Bool.and_eq_true, Bool.or_eq_false_iff] at hc)) | (intro _; intros) | (refine And.intro ?_ ?_; focus (first | omega | ((repeat (first | exact Sub.refl _ | (refine Sub.drop ?_ ?_; focus (simp only [evN, *]; done)) | refine Sub.both ?_)); done) | (simp_all; done) | (simp_all; omega)))))
  refine callF_v (H.out _) ?_
  (repeat' (first | (simp +contextual -dsimp only [*, ↓reduceIte, ↓evP, evQ, splice, Nat.reduceAdd, Nat.reduceEqDiff, Nat.reduceLeDiff, Nat.reduceMul, reduceCtorEq, Int.reduceLT, Int.reduceLE, Int.reduceGT, Int.reduceGE, Int.reduceEq, Int.reduceNeg]) | (refine condF_split (fun hc => ?_) (fun hc => ?_) <;> (try simp only [Bool.not_eq_true', Bool.not_eq_false', Bool.and_eq_true, Bool.or_eq_false_iff] at hc)) | (intro _; intros) | (refine And.intro ?_ ?_; focus (first | omega | ((repeat (first | exact Sub.refl _ | (refine Sub.drop ?_ ?_; focus (simp only [evN, *]; done)) | refine Sub.both ?_)); done) | (simp_all; done) | (simp_all; omega)))))
  refine endF_det ?_ (by (repeat (first | exact Sub.refl _ | (refine Sub.drop ?_ ?_; focus (simp only [evN, *]; done)) | refine Sub.both ?_)); done)
  rfl
def rowN (n : Nat) (f : Nat → Nat) : List Value := (List.range n).map fun i => .int .i64 (f i : Nat)
theorem rowN_len (n : Nat) (f : Nat → Nat) : (rowN n f).length = n := by unfold rowN; simp
theorem rowN_get {n k : Nat} (f : Nat → Nat) (h : k < n) : (rowN n f)[k * 1]? = some (.int .i64 (f k : Nat)) := by
  unfold rowN; rw [Nat.mul_one, List.getElem?_map, List.getElem?_range h]; rfl
def one1 (k x : Nat) (f : Nat → Nat) : Nat → Nat := fun j => if j = k then x else f j
theorem rowN_set {n k : Nat} (f : Nat → Nat) (h : k < n) (x : Nat) : splice (rowN n f) (k * 1) [.int .i64 (x : Nat)] = rowN n (one1 k x f) := by
  unfold splice
  refine List.ext_getElem? fun i => ?_
  have hl := rowN_len n f
  rw [Nat.mul_one, List.length_singleton, List.append_assoc]
  rcases Nat.lt_trichotomy i k with c | c | c
  · rw [List.getElem?_append_left (by rw [List.length_take]; omega), List.getElem?_take_of_lt c]
    unfold rowN
    rw [List.getElem?_map, List.getElem?_map, List.getElem?_range (by omega)]
    unfold one1
    simp only [Option.map_some]
    rw [if_neg (by omega)]
  · subst c
    rw [List.getElem?_append_right (by rw [List.length_take]; omega), List.length_take, Nat.min_eq_left (by omega), Nat.sub_self]
    unfold rowN
    rw [List.getElem?_map, List.getElem?_range h]
    unfold one1
    simp
  · rw [List.getElem?_append_right (by rw [List.length_take]; omega), List.length_take, Nat.min_eq_left (by omega), List.getElem?_append_right (by simp; omega), List.getElem?_drop]
    unfold rowN
    rw [List.getElem?_map, List.getElem?_map, show k + 1 + (i - k - [Value.int .i64 (x : Nat)].length) = i by simp; omega]
    by_cases hi : i < n
    · rw [List.getElem?_range hi]
      unfold one1
      simp only [Option.map_some]
      rw [if_neg (by omega)]
    · rw [List.getElem?_eq_none (by simp; omega)]; rfl
theorem rowN_swp {n i j : Nat} (f : Nat → Nat) (h : j < n) : splice (rowN n (one1 i (f j) f)) (j * 1) [.int .i64 (f i : Nat)] = rowN n (swp i j f) := by
  rw [rowN_set _ h]; rfl
set_option maxRecDepth 100000 in
set_option maxHeartbeats 2000000 in
theorem swr153 {σ : Hp} {g n c a b m : Nat} {f : Nat → Nat} {cv : Value} (hab : a + m ≤ b) (hb : b + m ≤ n) (hn : n ≤ 1099511627776) :
    ACalls Try.prog 153 #[.slice (some ⟨g, 0, none⟩) n c, .int .i64 a, .int .i64 b, .int .i64 m, cv] (upd σ g (.row (rowN n f) (c * 1) 3)) fun u σ' => σ' = upd σ g (.row (rowN n (swr a b m f)) (c * 1) 3) := by
  (refine acalls_F ok153 (by simp) ?_; unfold c153 r153)
  (repeat' (first | (simp +contextual -dsimp only [*, ↓reduceIte, ↓evP, evQ, splice_nil, splice_zero, splice_skip, Nat.reduceAdd, Nat.reduceEqDiff, Nat.reduceLeDiff, Nat.reduceMul, reduceCtorEq, Int.reduceLT, Int.reduceLE, Int.reduceGT, Int.reduceGE, Int.reduceEq, Int.reduceNeg]) | (refine condF_split (fun hc => ?_) (fun hc => ?_) <;> (try simp only [Bool.not_eq_true', Bool.not_eq_false', Bool.and_eq_true, Bool.or_eq_false_iff] at hc)) | (intro _; intros) | (refine And.intro ?_ ?_; focus (first | omega | ((repeat (first | exact Sub.refl _ | (refine Sub.drop ?_ ?_; focus (simp only [evN, *]; done)) | refine Sub.both ?_)); done) | (simp_all; done) | (simp_all; omega)))))
  refine loopF_of (fun k s σ' => ∃ i : Nat, i ≤ m ∧ k = m - i ∧ s 10 = .int .i64 i ∧ s 0 = .slice (some ⟨g, 0, none⟩) n c ∧ s 1 = .int .i64 a ∧ s 2 = .int .i64 b ∧ s 3 = .int .i64 m ∧ σ' = upd σ g (.row (rowN n (swr a b i f)) (c * 1) 3)) m (Sub.refl _)
    ⟨0, by omega, rfl, (by first | rfl | (simp only [↓putO_get, ↓putO_no, init_zero, init_succ, Nat.reduceEqDiff, ↓reduceIte, *]; done) | (simp only [↓putO_get, ↓putO_no, init_zero, init_succ, Nat.reduceEqDiff, ↓reduceIte, *]; rfl)), (by first | rfl | (simp only [↓putO_get, ↓putO_no, init_zero, init_succ, Nat.reduceEqDiff, ↓reduceIte, *]; done) | (simp only [↓putO_get, ↓putO_no, init_zero, init_succ, Nat.reduceEqDiff, ↓reduceIte, *]; rfl)), (by first | rfl | (simp only [↓putO_get, ↓putO_no, init_zero, init_succ, Nat.reduceEqDiff, ↓reduceIte, *]; done) | (simp only [↓putO_get, ↓putO_no, init_zero, init_succ, Nat.reduceEqDiff, ↓reduceIte, *]; rfl)), (by first | rfl | (simp only [↓putO_get, ↓putO_no, init_zero, init_succ, Nat.reduceEqDiff, ↓reduceIte, *]; done) | (simp only [↓putO_get, ↓putO_no, init_zero, init_succ, Nat.reduceEqDiff, ↓reduceIte, *]; rfl)), (by first | rfl | (simp only [↓putO_get, ↓putO_no, init_zero, init_succ, Nat.reduceEqDiff, ↓reduceIte, *]; done) | (simp only [↓putO_get, ↓putO_no, init_zero, init_succ, Nat.reduceEqDiff, ↓reduceIte, *]; rfl)), by rw [swr_zero]⟩ ?_
  rintro k s τ ⟨i, hi, hk, s10, s0, s1, s2, s3, hτ⟩
  subst hτ
  rcases Nat.lt_or_ge i m with hlt | hge
  · have hd : decide ((i : Int) < (m : Int)) = true := by simp; omega
    have w1 : IntKind.i64.wrap ((a : Int) + (i : Int)) = ((a + i : Nat) : Int) := by rw [wi64 (by omega)]; rfl
    have w2 : IntKind.i64.wrap ((b : Int) + (i : Int)) = ((b + i : Nat) : Int) := by rw [wi64 (by omega)]; rfl
    have w3 : IntKind.i64.wrap ((i : Int) + 1) = ((i + 1 : Nat) : Int) := by rw [wi64 (by omega)]; rfl
    have i1 : a + i < n := by omega
    have i2 : b + i < n := by omega
    obtain ⟨h, hh⟩ : ∃ h, h = swr a b i f := ⟨_, rfl⟩
    rw [← hh]
    have r1 := rowN_get h i1
    have r2 := rowN_get h i2
    have l1 := rowN_len n h
    have l2 := rowN_len n (one1 (a + i) (h (b + i)) h)
    have f1 : (a + i) * 1 + 1 ≤ n := by omega
    have f2 : (b + i) * 1 + 1 ≤ n := by omega
    have p1 := rowN_set h i1 (h (b + i))
    have p2 := rowN_swp (i := a + i) h i2
    have e : swp (a + i) (b + i) h = swr a b (i + 1) f := by rw [hh]; exact swr_step f (by omega)
    have HE := Hid.mk e
    clear e hh
    (repeat' (first | (simp +contextual -dsimp only [*, ↓reduceIte, ↓evP, evQ, splice_nil, splice_zero, splice_skip, Nat.reduceAdd, Nat.reduceEqDiff, Nat.reduceLeDiff, Nat.reduceMul, reduceCtorEq, Int.reduceLT, Int.reduceLE, Int.reduceGT, Int.reduceGE, Int.reduceEq, Int.reduceNeg]) | (refine condF_split (fun hc => ?_) (fun hc => ?_) <;> (try simp only [Bool.not_eq_true', Bool.not_eq_false', Bool.and_eq_true, Bool.or_eq_false_iff] at hc)) | (intro _; intros) | (refine And.intro ?_ ?_; focus (first | omega | ((repeat (first | exact Sub.refl _ | (refine Sub.drop ?_ ?_; focus (simp only [evN, *]; done)) | refine Sub.both ?_)); done) | (simp_all; done) | (simp_all; omega)))))
    refine nextF_of (m - (i + 1)) (by omega) (Sub.refl _) ⟨i + 1, by omega, rfl, (by first | rfl | (simp only [↓putO_get, ↓putO_no, init_zero, init_succ, Nat.reduceEqDiff, ↓reduceIte, *]; done) | (simp only [↓putO_get, ↓putO_no, init_zero, init_succ, Nat.reduceEqDiff, ↓reduceIte, *]; rfl)), (by first | rfl | (simp only [↓putO_get, ↓putO_no, init_zero, init_succ, Nat.reduceEqDiff, ↓reduceIte, *]; done) | (simp only [↓putO_get, ↓putO_no, init_zero, init_succ, Nat.reduceEqDiff, ↓reduceIte, *]; rfl)), (by first | rfl | (simp only [↓putO_get, ↓putO_no, init_zero, init_succ, Nat.reduceEqDiff, ↓reduceIte, *]; done) | (simp only [↓putO_get, ↓putO_no, init_zero, init_succ, Nat.reduceEqDiff, ↓reduceIte, *]; rfl)), (by first | rfl | (simp only [↓putO_get, ↓putO_no, init_zero, init_succ, Nat.reduceEqDiff, ↓reduceIte, *]; done) | (simp only [↓putO_get, ↓putO_no, init_zero, init_succ, Nat.reduceEqDiff, ↓reduceIte, *]; rfl)), (by first | rfl | (simp only [↓putO_get, ↓putO_no, init_zero, init_succ, Nat.reduceEqDiff, ↓reduceIte, *]; done) | (simp only [↓putO_get, ↓putO_no, init_zero, init_succ, Nat.reduceEqDiff, ↓reduceIte, *]; rfl)), by rw [HE.out]⟩
  · obtain rfl : i = m := by omega
    have hd : decide ((i : Int) < (i : Int)) = false := by simp
    (repeat' (first | (simp +contextual -dsimp only [*, ↓reduceIte, ↓evP, evQ, splice_nil, splice_zero, splice_skip, Nat.reduceAdd, Nat.reduceEqDiff, Nat.reduceLeDiff, Nat.reduceMul, reduceCtorEq, Int.reduceLT, Int.reduceLE, Int.reduceGT, Int.reduceGE, Int.reduceEq, Int.reduceNeg]) | (refine condF_split (fun hc => ?_) (fun hc => ?_) <;> (try simp only [Bool.not_eq_true', Bool.not_eq_false', Bool.and_eq_true, Bool.or_eq_false_iff] at hc)) | (intro _; intros) | (refine And.intro ?_ ?_; focus (first | omega | ((repeat (first | exact Sub.refl _ | (refine Sub.drop ?_ ?_; focus (simp only [evN, *]; done)) | refine Sub.both ?_)); done) | (simp_all; done) | (simp_all; omega)))))
    exact endF_at rfl
set_option maxRecDepth 100000 in
set_option maxHeartbeats 2000000 in
theorem rot151 {σ : Hp} {g n c a m b : Nat} {f : Nat → Nat} {cv : Value} (h1 : a < m) (h2 : m < b) (hb : b ≤ n) (hn : n ≤ 1099511627776) :
    ACalls Try.prog 151 #[.slice (some ⟨g, 0, none⟩) n c, .int .i64 a, .int .i64 m, .int .i64 b, cv] (upd σ g (.row (rowN n f) (c * 1) 3)) fun u σ' => σ' = upd σ g (.row (rowN n (rot a m b f)) (c * 1) 3) := by
  have v1 : IntKind.i64.wrap ((m : Int) - (a : Int)) = ((m - a : Nat) : Int) := by rw [wi64 (by omega)]; omega
  have v2 : IntKind.i64.wrap ((b : Int) - (m : Int)) = ((b - m : Nat) : Int) := by rw [wi64 (by omega)]; omega
  (refine acalls_F ok151 (by simp) ?_; unfold c151 r151)
  (repeat' (first | (simp +contextual -dsimp only [*, ↓reduceIte, ↓evP, evQ, splice_nil, splice_zero, splice_skip, Nat.reduceAdd, Nat.reduceEqDiff, Nat.reduceLeDiff, Nat.reduceMul, reduceCtorEq, Int.reduceLT, Int.reduceLE, Int.reduceGT, Int.reduceGE, Int.reduceEq, Int.reduceNeg]) | (refine condF_split (fun hc => ?_) (fun hc => ?_) <;> (try simp only [Bool.not_eq_true', Bool.not_eq_false', Bool.and_eq_true, Bool.or_eq_false_iff] at hc)) | (intro _; intros) | (refine And.intro ?_ ?_; focus (first | omega | ((repeat (first | exact Sub.refl _ | (refine Sub.drop ?_ ?_; focus (simp only [evN, *]; done)) | refine Sub.both ?_)); done) | (simp_all; done) | (simp_all; omega)))))
  refine loopF_of (fun k s σ' => ∃ (i j : Nat) (h : Nat → Nat), 0 < i ∧ 0 < j ∧ i ≤ m - a ∧ j ≤ b - m ∧ k = i + j ∧ s 10 = .int .i64 i ∧ s 11 = .int .i64 j ∧ s 0 = .slice (some ⟨g, 0, none⟩) n c ∧ s 2 = .int .i64 m ∧ s 4 = cv ∧ σ' = upd σ g (.row (rowN n h) (c * 1) 3) ∧ rot (m - i) m (m + j) h = rot a m b f) (b - a) (Sub.refl _)
    ⟨m - a, b - m, f, by omega, by omega, by omega, by omega, by omega, (by first | rfl | (simp only [↓putO_get, ↓putO_no, init_zero, init_succ, Nat.reduceEqDiff, ↓reduceIte, *]; done) | (simp only [↓putO_get, ↓putO_no, init_zero, init_succ, Nat.reduceEqDiff, ↓reduceIte, *]; rfl)), (by first | rfl | (simp only [↓putO_get, ↓putO_no, init_zero, init_succ, Nat.reduceEqDiff, ↓reduceIte, *]; done) | (simp only [↓putO_get, ↓putO_no, init_zero, init_succ, Nat.reduceEqDiff, ↓reduceIte, *]; rfl)), (by first | rfl | (simp only [↓putO_get, ↓putO_no, init_zero, init_succ, Nat.reduceEqDiff, ↓reduceIte, *]; done) | (simp only [↓putO_get, ↓putO_no, init_zero, init_succ, Nat.reduceEqDiff, ↓reduceIte, *]; rfl)), (by first | rfl | (simp only [↓putO_get, ↓putO_no, init_zero, init_succ, Nat.reduceEqDiff, ↓reduceIte, *]; done) | (simp only [↓putO_get, ↓putO_no, init_zero, init_succ, Nat.reduceEqDiff, ↓reduceIte, *]; rfl)), (by first | rfl | (simp only [↓putO_get, ↓putO_no, init_zero, init_succ, Nat.reduceEqDiff, ↓reduceIte, *]; done) | (simp only [↓putO_get, ↓putO_no, init_zero, init_succ, Nat.reduceEqDiff, ↓reduceIte, *]; rfl)), rfl, by rw [show m - (m - a) = a by omega, show m + (b - m) = b by omega]⟩ ?_
  rintro k s τ ⟨i, j, h, i0, j0, hi, hj, hk, s10, s11, s0, s2, s4, hτ, hrot⟩
  subst hτ
  have HR := Hid.mk hrot
  clear hrot v1 v2
  have w1 : IntKind.i64.wrap ((m : Int) - (i : Int)) = ((m - i : Nat) : Int) := by rw [wi64 (by omega)]; omega
  rcases Nat.lt_trichotomy i j with hlt | heq | hgt
  · have hd : decide ((i : Int) = (j : Int)) = false := by simp; omega
    have hd2 : decide ((i : Int) > (j : Int)) = false := by simp; omega
    have w2 : IntKind.i64.wrap ((m : Int) + (j : Int)) = ((m + j : Nat) : Int) := by rw [wi64 (by omega)]; rfl
    have w3 : IntKind.i64.wrap (((m + j : Nat) : Int) - (i : Int)) = ((m + j - i : Nat) : Int) := by rw [wi64 (by omega)]; omega
    have w4 : IntKind.i64.wrap ((j : Int) - (i : Int)) = ((j - i : Nat) : Int) := by rw [wi64 (by omega)]; omega
    (repeat' (first | (simp +contextual -dsimp only [*, ↓reduceIte, ↓evP, evQ, splice_nil, splice_zero, splice_skip, Nat.reduceAdd, Nat.reduceEqDiff, Nat.reduceLeDiff, Nat.reduceMul, reduceCtorEq, Int.reduceLT, Int.reduceLE, Int.reduceGT, Int.reduceGE, Int.reduceEq, Int.reduceNeg]) | (refine condF_split (fun hc => ?_) (fun hc => ?_) <;> (try simp only [Bool.not_eq_true', Bool.not_eq_false', Bool.and_eq_true, Bool.or_eq_false_iff] at hc)) | (intro _; intros) | (refine And.intro ?_ ?_; focus (first | omega | ((repeat (first | exact Sub.refl _ | (refine Sub.drop ?_ ?_; focus (simp only [evN, *]; done)) | refine Sub.both ?_)); done) | (simp_all; done) | (simp_all; omega)))))
    refine callF_of (swr153 (f := h) (by omega) (by omega) hn) ?_
    rintro u σ' rfl
    (repeat' (first | (simp +contextual -dsimp only [*, ↓reduceIte, ↓evP, evQ, splice_nil, splice_zero, splice_skip, Nat.reduceAdd, Nat.reduceEqDiff, Nat.reduceLeDiff, Nat.reduceMul, reduceCtorEq, Int.reduceLT, Int.reduceLE, Int.reduceGT, Int.reduceGE, Int.reduceEq, Int.reduceNeg]) | (refine condF_split (fun hc => ?_) (fun hc => ?_) <;> (try simp only [Bool.not_eq_true', Bool.not_eq_false', Bool.and_eq_true, Bool.or_eq_false_iff] at hc)) | (intro _; intros) | (refine And.intro ?_ ?_; focus (first | omega | ((repeat (first | exact Sub.refl _ | (refine Sub.drop ?_ ?_; focus (simp only [evN, *]; done)) | refine Sub.both ?_)); done) | (simp_all; done) | (simp_all; omega)))))
    refine nextF_of (i + (j - i)) (by omega) (Sub.refl _) ⟨i, j - i, swr (m - i) (m + j - i) i h, i0, by omega, hi, by omega, rfl, (by first | rfl | (simp only [↓putO_get, ↓putO_no, init_zero, init_succ, Nat.reduceEqDiff, ↓reduceIte, *]; done) | (simp only [↓putO_get, ↓putO_no, init_zero, init_succ, Nat.reduceEqDiff, ↓reduceIte, *]; rfl)), (by first | rfl | (simp only [↓putO_get, ↓putO_no, init_zero, init_succ, Nat.reduceEqDiff, ↓reduceIte, *]; done) | (simp only [↓putO_get, ↓putO_no, init_zero, init_succ, Nat.reduceEqDiff, ↓reduceIte, *]; rfl)), (by first | rfl | (simp only [↓putO_get, ↓putO_no, init_zero, init_succ, Nat.reduceEqDiff, ↓reduceIte, *]; done) | (simp only [↓putO_get, ↓putO_no, init_zero, init_succ, Nat.reduceEqDiff, ↓reduceIte, *]; rfl)), (by first | rfl | (simp only [↓putO_get, ↓putO_no, init_zero, init_succ, Nat.reduceEqDiff, ↓reduceIte, *]; done) | (simp only [↓putO_get, ↓putO_no, init_zero, init_succ, Nat.reduceEqDiff, ↓reduceIte, *]; rfl)), (by first | rfl | (simp only [↓putO_get, ↓putO_no, init_zero, init_succ, Nat.reduceEqDiff, ↓reduceIte, *]; done) | (simp only [↓putO_get, ↓putO_no, init_zero, init_succ, Nat.reduceEqDiff, ↓reduceIte, *]; rfl)), rfl, ?_⟩
    rw [← HR.out]; exact rot_lt h (by omega) hlt
  · subst heq
    have hd : decide ((i : Int) = (i : Int)) = true := by simp
    (repeat' (first | (simp +contextual -dsimp only [*, ↓reduceIte, ↓evP, evQ, splice_nil, splice_zero, splice_skip, Nat.reduceAdd, Nat.reduceEqDiff, Nat.reduceLeDiff, Nat.reduceMul, reduceCtorEq, Int.reduceLT, Int.reduceLE, Int.reduceGT, Int.reduceGE, Int.reduceEq, Int.reduceNeg]) | (refine condF_split (fun hc => ?_) (fun hc => ?_) <;> (try simp only [Bool.not_eq_true', Bool.not_eq_false', Bool.and_eq_true, Bool.or_eq_false_iff] at hc)) | (intro _; intros) | (refine And.intro ?_ ?_; focus (first | omega | ((repeat (first | exact Sub.refl _ | (refine Sub.drop ?_ ?_; focus (simp only [evN, *]; done)) | refine Sub.both ?_)); done) | (simp_all; done) | (simp_all; omega)))))
    refine callF_of (swr153 (f := h) (by omega) (by omega) hn) ?_
    rintro u σ' rfl
    (repeat' (first | (simp +contextual -dsimp only [*, ↓reduceIte, ↓evP, evQ, splice_nil, splice_zero, splice_skip, Nat.reduceAdd, Nat.reduceEqDiff, Nat.reduceLeDiff, Nat.reduceMul, reduceCtorEq, Int.reduceLT, Int.reduceLE, Int.reduceGT, Int.reduceGE, Int.reduceEq, Int.reduceNeg]) | (refine condF_split (fun hc => ?_) (fun hc => ?_) <;> (try simp only [Bool.not_eq_true', Bool.not_eq_false', Bool.and_eq_true, Bool.or_eq_false_iff] at hc)) | (intro _; intros) | (refine And.intro ?_ ?_; focus (first | omega | ((repeat (first | exact Sub.refl _ | (refine Sub.drop ?_ ?_; focus (simp only [evN, *]; done)) | refine Sub.both ?_)); done) | (simp_all; done) | (simp_all; omega)))))
    refine endF_at ?_
    rw [← HR.out, rot_eq h (by omega)]
  · have hd : decide ((i : Int) = (j : Int)) = false := by simp; omega
    have hd2 : decide ((i : Int) > (j : Int)) = true := by simp; omega
    have w4 : IntKind.i64.wrap ((i : Int) - (j : Int)) = ((i - j : Nat) : Int) := by rw [wi64 (by omega)]; omega
    (repeat' (first | (simp +contextual -dsimp only [*, ↓reduceIte, ↓evP, evQ, splice_nil, splice_zero, splice_skip, Nat.reduceAdd, Nat.reduceEqDiff, Nat.reduceLeDiff, Nat.reduceMul, reduceCtorEq, Int.reduceLT, Int.reduceLE, Int.reduceGT, Int.reduceGE, Int.reduceEq, Int.reduceNeg]) | (refine condF_split (fun hc => ?_) (fun hc => ?_) <;> (try simp only [Bool.not_eq_true', Bool.not_eq_false', Bool.and_eq_true, Bool.or_eq_false_iff] at hc)) | (intro _; intros) | (refine And.intro ?_ ?_; focus (first | omega | ((repeat (first | exact Sub.refl _ | (refine Sub.drop ?_ ?_; focus (simp only [evN, *]; done)) | refine Sub.both ?_)); done) | (simp_all; done) | (simp_all; omega)))))
    refine callF_of (swr153 (f := h) (by omega) (by omega) hn) ?_
    rintro u σ' rfl
    (repeat' (first | (simp +contextual -dsimp only [*, ↓reduceIte, ↓evP, evQ, splice_nil, splice_zero, splice_skip, Nat.reduceAdd, Nat.reduceEqDiff, Nat.reduceLeDiff, Nat.reduceMul, reduceCtorEq, Int.reduceLT, Int.reduceLE, Int.reduceGT, Int.reduceGE, Int.reduceEq, Int.reduceNeg]) | (refine condF_split (fun hc => ?_) (fun hc => ?_) <;> (try simp only [Bool.not_eq_true', Bool.not_eq_false', Bool.and_eq_true, Bool.or_eq_false_iff] at hc)) | (intro _; intros) | (refine And.intro ?_ ?_; focus (first | omega | ((repeat (first | exact Sub.refl _ | (refine Sub.drop ?_ ?_; focus (simp only [evN, *]; done)) | refine Sub.both ?_)); done) | (simp_all; done) | (simp_all; omega)))))
    refine nextF_of (i - j + j) (by omega) (Sub.refl _) ⟨i - j, j, swr (m - i) m j h, by omega, j0, by omega, hj, rfl, (by first | rfl | (simp only [↓putO_get, ↓putO_no, init_zero, init_succ, Nat.reduceEqDiff, ↓reduceIte, *]; done) | (simp only [↓putO_get, ↓putO_no, init_zero, init_succ, Nat.reduceEqDiff, ↓reduceIte, *]; rfl)), (by first | rfl | (simp only [↓putO_get, ↓putO_no, init_zero, init_succ, Nat.reduceEqDiff, ↓reduceIte, *]; done) | (simp only [↓putO_get, ↓putO_no, init_zero, init_succ, Nat.reduceEqDiff, ↓reduceIte, *]; rfl)), (by first | rfl | (simp only [↓putO_get, ↓putO_no, init_zero, init_succ, Nat.reduceEqDiff, ↓reduceIte, *]; done) | (simp only [↓putO_get, ↓putO_no, init_zero, init_succ, Nat.reduceEqDiff, ↓reduceIte, *]; rfl)), (by first | rfl | (simp only [↓putO_get, ↓putO_no, init_zero, init_succ, Nat.reduceEqDiff, ↓reduceIte, *]; done) | (simp only [↓putO_get, ↓putO_no, init_zero, init_succ, Nat.reduceEqDiff, ↓reduceIte, *]; rfl)), (by first | rfl | (simp only [↓putO_get, ↓putO_no, init_zero, init_succ, Nat.reduceEqDiff, ↓reduceIte, *]; done) | (simp only [↓putO_get, ↓putO_no, init_zero, init_succ, Nat.reduceEqDiff, ↓reduceIte, *]; rfl)), rfl, ?_⟩
    rw [← HR.out, show m - (i - j) = m - i + j by omega]; exact rot_gt h (by omega) hgt
/-- A comparator of places: over whatever row, it leaves the heap as it is. -/
structure CmpAt (σ : Hp) (g N : Nat) (cs : List Value) (cm : Nat → Nat → Int) (le : Nat → Nat → Prop) : Prop where
  call : ∀ o x y, x < N → y < N → ACalls Try.prog 95 ([Value.int .i64 (x : Nat), Value.int .i64 (y : Nat)] ++ cs).toArray (upd σ g o) fun u σ' => u = .int .i64 (cm x y) ∧ σ' = upd σ g o
  neg : ∀ x y, x < N → y < N → (cm x y < 0 ↔ ¬ le y x)
  lin : Lin le
/-- The item at j is on its way down in [a, i]. -/
structure InsAt (le : Nat → Nat → Prop) (h : Nat → Nat) (a j i : Nat) : Prop where
  r : a ≤ j ∧ j ≤ i
  low : So le h a j
  up : So le h j (i + 1)
  cross : ∀ x y, a ≤ x → x < j → j < y → y ≤ i → le (h x) (h y)
theorem InsAt.start {le : Nat → Nat → Prop} {h : Nat → Nat} {a i : Nat} (hs : So le h a i) (ha : a ≤ i) : InsAt le h a i i :=
  ⟨⟨ha, Nat.le_refl _⟩, hs, fun x y h1 h2 h3 => by omega, fun x y _ _ h1 h2 => by omega⟩
theorem InsAt.step {le : Nat → Nat → Prop} (hl : Lin le) {h : Nat → Nat} {a j i : Nat} (H : InsAt le h a j i) (hj : a < j) (hn : ¬ le (h (j - 1)) (h j)) : InsAt le (swp j (j - 1) h) a (j - 1) i := by
  have e1 : swp j (j - 1) h (j - 1) = h j := by unfold swp; rw [if_pos rfl]
  have e2 : swp j (j - 1) h j = h (j - 1) := by unfold swp; rw [if_neg (by omega), if_pos rfl]
  have e3 : ∀ k, k ≠ j → k ≠ j - 1 → swp j (j - 1) h k = h k := fun k h1 h2 => by unfold swp; rw [if_neg h2, if_neg h1]
  have hr := H.r
  refine ⟨by omega, fun x y h1 h2 h3 => ?_, fun x y h1 h2 h3 => ?_, fun x y h1 h2 h3 h4 => ?_⟩
  · rw [e3 x (by omega) (by omega), e3 y (by omega) (by omega)]; exact H.low x y h1 h2 (by omega)
  · by_cases c1 : x = j - 1
    · subst c1
      rw [e1]
      by_cases c2 : y = j
      · subst c2; rw [e2]; exact (hl.tot _ _).resolve_left hn
      · rw [e3 y c2 (by omega)]; exact H.up j y (Nat.le_refl _) (by omega) h3
    · by_cases c2 : x = j
      · subst c2
        rw [e2, e3 y (by omega) (by omega)]; exact H.cross _ _ (by omega) (by omega) h2 (by omega)
      · rw [e3 x c2 c1, e3 y (by omega) (by omega)]; exact H.up x y (by omega) h2 h3
  · rw [e3 x (by omega) (by omega)]
    by_cases c2 : y = j
    · subst c2; rw [e2]; exact H.low _ _ h1 (by omega) (by omega)
    · rw [e3 y c2 (by omega)]; exact H.cross _ _ h1 (by omega) (by omega) h4
theorem InsAt.done {le : Nat → Nat → Prop} (hl : Lin le) {h : Nat → Nat} {a j i : Nat} (H : InsAt le h a j i) (hd : j = a ∨ le (h (j - 1)) (h j)) : So le h a (i + 1) := by
  have hr := H.r
  rcases hd with rfl | hd
  · exact H.up
  · refine So.glue H.low H.up fun x y h1 h2 h3 h4 => ?_
    exact hl.tr _ _ _ (H.low.le hl h1 (show x ≤ j - 1 by omega) (by omega)) (hl.tr _ _ _ hd (H.up.le hl (Nat.le_refl _) h3 h4))
def InN (N n : Nat) (f : Nat → Nat) : Prop := ∀ k, k < n → f k < N
theorem InN.mv {N n a b : Nat} {f h : Nat → Nat} (hf : InN N n f) (hm : Mv a b f h) (hb : b ≤ n) : InN N n h := fun k hk => by
  by_cases c : a ≤ k ∧ k < b
  · obtain ⟨i, _, i2, e⟩ := hm.inn c.1 c.2
    rw [e]; exact hf i (by omega)
  · rw [hm.out c]; exact hf k hk
theorem cmp_dec {σ : Hp} {g N : Nat} {cs : List Value} {cm : Nat → Nat → Int} {le : Nat → Nat → Prop} (HC : CmpAt σ g N cs cm le) {x y : Nat} (hx : x < N) (hy : y < N) : (decide (cm x y < 0) = true ∧ ¬ le y x) ∨ (decide (cm x y < 0) = false ∧ le y x) := by
  have := HC.neg x y hx hy
  by_cases h : cm x y < 0
  · exact .inl ⟨decide_eq_true h, this.1 h⟩
  · refine .inr ⟨decide_eq_false h, ?_⟩
    exact Classical.byContradiction fun q => h (this.2 q)
set_option maxRecDepth 100000 in
set_option maxHeartbeats 4000000 in
theorem ins141 {σ : Hp} {g n c a b N : Nat} {f : Nat → Nat} {cs : List Value} {cm : Nat → Nat → Int} {le : Nat → Nat → Prop} (HC : CmpAt σ g N cs cm le) (hab : a ≤ b) (hb : b ≤ n) (hn : n ≤ 1099511627776) (hN : InN N n f) :
    ACalls Try.prog 141 #[.slice (some ⟨g, 0, none⟩) n c, .int .i64 a, .int .i64 b, .func (.func 95) #[] cs.toArray] (upd σ g (.row (rowN n f) (c * 1) 3)) fun u σ' => ∃ f', Mv a b f f' ∧ So le f' a b ∧ σ' = upd σ g (.row (rowN n f') (c * 1) 3) := by
  have v1 : IntKind.i64.wrap ((a : Int) + 1) = ((a + 1 : Nat) : Int) := by rw [wi64 (by omega)]; rfl
  have HH := Hid.mk (And.intro HC hN)
  clear HC hN
  (refine acalls_F ok141 (by simp) ?_; unfold c141 r141)
  (repeat' (first | (simp +contextual -dsimp only [*, ↓reduceIte, ↓evP, evQ, splice_nil, splice_zero, splice_skip, Nat.reduceAdd, Nat.reduceEqDiff, Nat.reduceLeDiff, Nat.reduceMul, reduceCtorEq, Int.reduceLT, Int.reduceLE, Int.reduceGT, Int.reduceGE, Int.reduceEq, Int.reduceNeg]) | (refine condF_split (fun hc => ?_) (fun hc => ?_) <;> (try simp only [Bool.not_eq_true', Bool.not_eq_false', Bool.and_eq_true, Bool.or_eq_false_iff] at hc)) | (intro _; intros) | (refine And.intro ?_ ?_; focus (first | omega | ((repeat (first | exact Sub.refl _ | (refine Sub.drop ?_ ?_; focus (simp only [evN, *]; done)) | refine Sub.both ?_)); done) | (simp_all; done) | (simp_all; omega)))))
  refine loopF_of (fun k s σ' => ∃ (i : Nat) (h : Nat → Nat), a + 1 ≤ i ∧ (i ≤ b ∨ i = a + 1) ∧ k = b - i ∧ s 8 = .int .i64 i ∧ s 0 = .slice (some ⟨g, 0, none⟩) n c ∧ s 1 = .int .i64 a ∧ s 2 = .int .i64 b ∧ s 3 = .func (.func 95) #[] cs.toArray ∧ σ' = upd σ g (.row (rowN n h) (c * 1) 3) ∧ Mv a b f h ∧ So le h a i) (b - (a + 1)) (Sub.refl _)
    ⟨a + 1, f, Nat.le_refl _, .inr rfl, rfl, (by first | rfl | (simp only [↓putO_get, ↓putO_no, init_zero, init_succ, Nat.reduceEqDiff, ↓reduceIte, *]; done) | (simp only [↓putO_get, ↓putO_no, init_zero, init_succ, Nat.reduceEqDiff, ↓reduceIte, *]; rfl)), (by first | rfl | (simp only [↓putO_get, ↓putO_no, init_zero, init_succ, Nat.reduceEqDiff, ↓reduceIte, *]; done) | (simp only [↓putO_get, ↓putO_no, init_zero, init_succ, Nat.reduceEqDiff, ↓reduceIte, *]; rfl)), (by first | rfl | (simp only [↓putO_get, ↓putO_no, init_zero, init_succ, Nat.reduceEqDiff, ↓reduceIte, *]; done) | (simp only [↓putO_get, ↓putO_no, init_zero, init_succ, Nat.reduceEqDiff, ↓reduceIte, *]; rfl)), (by first | rfl | (simp only [↓putO_get, ↓putO_no, init_zero, init_succ, Nat.reduceEqDiff, ↓reduceIte, *]; done) | (simp only [↓putO_get, ↓putO_no, init_zero, init_succ, Nat.reduceEqDiff, ↓reduceIte, *]; rfl)), (by first | rfl | (simp only [↓putO_get, ↓putO_no, init_zero, init_succ, Nat.reduceEqDiff, ↓reduceIte, *]; done) | (simp only [↓putO_get, ↓putO_no, init_zero, init_succ, Nat.reduceEqDiff, ↓reduceIte, *]; rfl)), rfl, Mv.refl _ _ _, fun x y _ _ _ => by omega⟩ ?_
  clear v1
  rintro k s τ ⟨i, h, hi1, hi2, hk, s8, s0, s1, s2, s3, hτ, hM, hS⟩
  subst hτ
  have HM := Hid.mk (And.intro hM hS)
  clear hM hS
  rcases Nat.lt_or_ge i b with hlt | hge
  · have hd : decide ((i : Int) < (b : Int)) = true := by simp; omega
    have w3 : IntKind.i64.wrap ((i : Int) + 1) = ((i + 1 : Nat) : Int) := by rw [wi64 (by omega)]; rfl
    (repeat' (first | (simp +contextual -dsimp only [*, ↓reduceIte, ↓evP, evQ, splice_nil, splice_zero, splice_skip, Nat.reduceAdd, Nat.reduceEqDiff, Nat.reduceLeDiff, Nat.reduceMul, reduceCtorEq, Int.reduceLT, Int.reduceLE, Int.reduceGT, Int.reduceGE, Int.reduceEq, Int.reduceNeg]) | (refine condF_split (fun hc => ?_) (fun hc => ?_) <;> (try simp only [Bool.not_eq_true', Bool.not_eq_false', Bool.and_eq_true, Bool.or_eq_false_iff] at hc)) | (intro _; intros) | (refine And.intro ?_ ?_; focus (first | omega | ((repeat (first | exact Sub.refl _ | (refine Sub.drop ?_ ?_; focus (simp only [evN, *]; done)) | refine Sub.both ?_)); done) | (simp_all; done) | (simp_all; omega)))))
    refine loopF_of (fun k s σ' => ∃ (j : Nat) (h' : Nat → Nat), k = j ∧ s 9 = .int .i64 j ∧ s 8 = .int .i64 i ∧ s 0 = .slice (some ⟨g, 0, none⟩) n c ∧ s 1 = .int .i64 a ∧ s 2 = .int .i64 b ∧ s 3 = .func (.func 95) #[] cs.toArray ∧ σ' = upd σ g (.row (rowN n h') (c * 1) 3) ∧ Mv a b f h' ∧ InsAt le h' a j i) i (Sub.refl _)
      ⟨i, h, rfl, (by first | rfl | (simp only [↓putO_get, ↓putO_no, init_zero, init_succ, Nat.reduceEqDiff, ↓reduceIte, *]; done) | (simp only [↓putO_get, ↓putO_no, init_zero, init_succ, Nat.reduceEqDiff, ↓reduceIte, *]; rfl)), (by first | rfl | (simp only [↓putO_get, ↓putO_no, init_zero, init_succ, Nat.reduceEqDiff, ↓reduceIte, *]; done) | (simp only [↓putO_get, ↓putO_no, init_zero, init_succ, Nat.reduceEqDiff, ↓reduceIte, *]; rfl)), (by first | rfl | (simp only [↓putO_get, ↓putO_no, init_zero, init_succ, Nat.reduceEqDiff, ↓reduceIte, *]; done) | (simp only [↓putO_get, ↓putO_no, init_zero, init_succ, Nat.reduceEqDiff, ↓reduceIte, *]; rfl)), (by first | rfl | (simp only [↓putO_get, ↓putO_no, init_zero, init_succ, Nat.reduceEqDiff, ↓reduceIte, *]; done) | (simp only [↓putO_get, ↓putO_no, init_zero, init_succ, Nat.reduceEqDiff, ↓reduceIte, *]; rfl)), (by first | rfl | (simp only [↓putO_get, ↓putO_no, init_zero, init_succ, Nat.reduceEqDiff, ↓reduceIte, *]; done) | (simp only [↓putO_get, ↓putO_no, init_zero, init_succ, Nat.reduceEqDiff, ↓reduceIte, *]; rfl)), (by first | rfl | (simp only [↓putO_get, ↓putO_no, init_zero, init_succ, Nat.reduceEqDiff, ↓reduceIte, *]; done) | (simp only [↓putO_get, ↓putO_no, init_zero, init_succ, Nat.reduceEqDiff, ↓reduceIte, *]; rfl)), rfl, HM.out.1, InsAt.start HM.out.2 (by omega)⟩ ?_
    clear s8 s0 s1 s2 s3
    rintro k' s' τ' ⟨j, h', hk', s9, s8, s0, s1, s2, s3, hτ', hM', hI⟩
    subst hτ'
    have hr := hI.r
    rcases Nat.lt_or_ge a j with hj | hj
    · have hdj : decide ((j : Int) > (a : Int)) = true := by simp; omega
      have w1 : IntKind.i64.wrap ((j : Int) - 1) = ((j - 1 : Nat) : Int) := by rw [wi64 (by omega)]; omega
      have i1 : j < n := by omega
      have i2 : j - 1 < n := by omega
      have hN' := HH.out.2.mv hM' hb
      have r1 := rowN_get h' i1
      have r2 := rowN_get h' i2
      have l1 := rowN_len n h'
      have l2 := rowN_len n (one1 j (h' (j - 1)) h')
      have f1 : j * 1 + 1 ≤ n := by omega
      have f2 : (j - 1) * 1 + 1 ≤ n := by omega
      have p1 := rowN_set h' i1 (h' (j - 1))
      have p2 := rowN_swp (i := j) h' i2
      have q := HH.out.1.call (.row (rowN n h') (c * 1) 3) (h' j) (h' (j - 1)) (hN' j i1) (hN' _ i2)
      have HI := Hid.mk (And.intro hM' hI)
      clear hM' hI
      rcases cmp_dec HH.out.1 (hN' j i1) (hN' _ i2) with ⟨dc, hle⟩ | ⟨dc, hle⟩
      · have HL := Hid.mk hle
        have HQ := Hid.mk q
        clear hle q hN'
        (repeat' (first | (simp +contextual -dsimp only [*, ↓reduceIte, ↓evP, evQ, splice_nil, splice_zero, splice_skip, Nat.reduceAdd, Nat.reduceEqDiff, Nat.reduceLeDiff, Nat.reduceMul, reduceCtorEq, Int.reduceLT, Int.reduceLE, Int.reduceGT, Int.reduceGE, Int.reduceEq, Int.reduceNeg]) | (refine condF_split (fun hc => ?_) (fun hc => ?_) <;> (try simp only [Bool.not_eq_true', Bool.not_eq_false', Bool.and_eq_true, Bool.or_eq_false_iff] at hc)) | (intro _; intros) | (refine And.intro ?_ ?_; focus (first | omega | ((repeat (first | exact Sub.refl _ | (refine Sub.drop ?_ ?_; focus (simp only [evN, *]; done)) | refine Sub.both ?_)); done) | (simp_all; done) | (simp_all; omega)))))
        refine vcallF_cs (cs := cs) (by kernel_rfl) ?_
        refine callF_v HQ.out ?_
        (repeat' (first | (simp +contextual -dsimp only [*, ↓reduceIte, ↓evP, evQ, splice_nil, splice_zero, splice_skip, Nat.reduceAdd, Nat.reduceEqDiff, Nat.reduceLeDiff, Nat.reduceMul, reduceCtorEq, Int.reduceLT, Int.reduceLE, Int.reduceGT, Int.reduceGE, Int.reduceEq, Int.reduceNeg]) | (refine condF_split (fun hc => ?_) (fun hc => ?_) <;> (try simp only [Bool.not_eq_true', Bool.not_eq_false', Bool.and_eq_true, Bool.or_eq_false_iff] at hc)) | (intro _; intros) | (refine And.intro ?_ ?_; focus (first | omega | ((repeat (first | exact Sub.refl _ | (refine Sub.drop ?_ ?_; focus (simp only [evN, *]; done)) | refine Sub.both ?_)); done) | (simp_all; done) | (simp_all; omega)))))
        refine nextF_of (j - 1) (by omega) (Sub.refl _) ⟨j - 1, swp j (j - 1) h', rfl, (by first | rfl | (simp only [↓putO_get, ↓putO_no, init_zero, init_succ, Nat.reduceEqDiff, ↓reduceIte, *]; done) | (simp only [↓putO_get, ↓putO_no, init_zero, init_succ, Nat.reduceEqDiff, ↓reduceIte, *]; rfl)), (by first | rfl | (simp only [↓putO_get, ↓putO_no, init_zero, init_succ, Nat.reduceEqDiff, ↓reduceIte, *]; done) | (simp only [↓putO_get, ↓putO_no, init_zero, init_succ, Nat.reduceEqDiff, ↓reduceIte, *]; rfl)), (by first | rfl | (simp only [↓putO_get, ↓putO_no, init_zero, init_succ, Nat.reduceEqDiff, ↓reduceIte, *]; done) | (simp only [↓putO_get, ↓putO_no, init_zero, init_succ, Nat.reduceEqDiff, ↓reduceIte, *]; rfl)), (by first | rfl | (simp only [↓putO_get, ↓putO_no, init_zero, init_succ, Nat.reduceEqDiff, ↓reduceIte, *]; done) | (simp only [↓putO_get, ↓putO_no, init_zero, init_succ, Nat.reduceEqDiff, ↓reduceIte, *]; rfl)), (by first | rfl | (simp only [↓putO_get, ↓putO_no, init_zero, init_succ, Nat.reduceEqDiff, ↓reduceIte, *]; done) | (simp only [↓putO_get, ↓putO_no, init_zero, init_succ, Nat.reduceEqDiff, ↓reduceIte, *]; rfl)), (by first | rfl | (simp only [↓putO_get, ↓putO_no, init_zero, init_succ, Nat.reduceEqDiff, ↓reduceIte, *]; done) | (simp only [↓putO_get, ↓putO_no, init_zero, init_succ, Nat.reduceEqDiff, ↓reduceIte, *]; rfl)), rfl, HI.out.1.trans (Mv.swp h' (by omega) (by omega) (by omega) (by omega)), HI.out.2.step HH.out.1.lin hj HL.out⟩
      · have HL := Hid.mk hle
        have HQ := Hid.mk q
        clear hle q hN'
        (repeat' (first | (simp +contextual -dsimp only [*, ↓reduceIte, ↓evP, evQ, splice_nil, splice_zero, splice_skip, Nat.reduceAdd, Nat.reduceEqDiff, Nat.reduceLeDiff, Nat.reduceMul, reduceCtorEq, Int.reduceLT, Int.reduceLE, Int.reduceGT, Int.reduceGE, Int.reduceEq, Int.reduceNeg]) | (refine condF_split (fun hc => ?_) (fun hc => ?_) <;> (try simp only [Bool.not_eq_true', Bool.not_eq_false', Bool.and_eq_true, Bool.or_eq_false_iff] at hc)) | (intro _; intros) | (refine And.intro ?_ ?_; focus (first | omega | ((repeat (first | exact Sub.refl _ | (refine Sub.drop ?_ ?_; focus (simp only [evN, *]; done)) | refine Sub.both ?_)); done) | (simp_all; done) | (simp_all; omega)))))
        refine vcallF_cs (cs := cs) (by kernel_rfl) ?_
        refine callF_v HQ.out ?_
        (repeat' (first | (simp +contextual -dsimp only [*, ↓reduceIte, ↓evP, evQ, splice_nil, splice_zero, splice_skip, Nat.reduceAdd, Nat.reduceEqDiff, Nat.reduceLeDiff, Nat.reduceMul, reduceCtorEq, Int.reduceLT, Int.reduceLE, Int.reduceGT, Int.reduceGE, Int.reduceEq, Int.reduceNeg]) | (refine condF_split (fun hc => ?_) (fun hc => ?_) <;> (try simp only [Bool.not_eq_true', Bool.not_eq_false', Bool.and_eq_true, Bool.or_eq_false_iff] at hc)) | (intro _; intros) | (refine And.intro ?_ ?_; focus (first | omega | ((repeat (first | exact Sub.refl _ | (refine Sub.drop ?_ ?_; focus (simp only [evN, *]; done)) | refine Sub.both ?_)); done) | (simp_all; done) | (simp_all; omega)))))
        refine nextF_of (b - (i + 1)) (by omega) (Sub.refl _) ⟨i + 1, h', by omega, .inl (by omega), rfl, (by first | rfl | (simp only [↓putO_get, ↓putO_no, init_zero, init_succ, Nat.reduceEqDiff, ↓reduceIte, *]; done) | (simp only [↓putO_get, ↓putO_no, init_zero, init_succ, Nat.reduceEqDiff, ↓reduceIte, *]; rfl)), (by first | rfl | (simp only [↓putO_get, ↓putO_no, init_zero, init_succ, Nat.reduceEqDiff, ↓reduceIte, *]; done) | (simp only [↓putO_get, ↓putO_no, init_zero, init_succ, Nat.reduceEqDiff, ↓reduceIte, *]; rfl)), (by first | rfl | (simp only [↓putO_get, ↓putO_no, init_zero, init_succ, Nat.reduceEqDiff, ↓reduceIte, *]; done) | (simp only [↓putO_get, ↓putO_no, init_zero, init_succ, Nat.reduceEqDiff, ↓reduceIte, *]; rfl)), (by first | rfl | (simp only [↓putO_get, ↓putO_no, init_zero, init_succ, Nat.reduceEqDiff, ↓reduceIte, *]; done) | (simp only [↓putO_get, ↓putO_no, init_zero, init_succ, Nat.reduceEqDiff, ↓reduceIte, *]; rfl)), (by first | rfl | (simp only [↓putO_get, ↓putO_no, init_zero, init_succ, Nat.reduceEqDiff, ↓reduceIte, *]; done) | (simp only [↓putO_get, ↓putO_no, init_zero, init_succ, Nat.reduceEqDiff, ↓reduceIte, *]; rfl)), rfl, HI.out.1, HI.out.2.done HH.out.1.lin (.inr HL.out)⟩
    · have hdj : decide ((j : Int) > (a : Int)) = false := by simp; omega
      have HI := Hid.mk (And.intro hM' hI)
      clear hM' hI
      (repeat' (first | (simp +contextual -dsimp only [*, ↓reduceIte, ↓evP, evQ, splice_nil, splice_zero, splice_skip, Nat.reduceAdd, Nat.reduceEqDiff, Nat.reduceLeDiff, Nat.reduceMul, reduceCtorEq, Int.reduceLT, Int.reduceLE, Int.reduceGT, Int.reduceGE, Int.reduceEq, Int.reduceNeg]) | (refine condF_split (fun hc => ?_) (fun hc => ?_) <;> (try simp only [Bool.not_eq_true', Bool.not_eq_false', Bool.and_eq_true, Bool.or_eq_false_iff] at hc)) | (intro _; intros) | (refine And.intro ?_ ?_; focus (first | omega | ((repeat (first | exact Sub.refl _ | (refine Sub.drop ?_ ?_; focus (simp only [evN, *]; done)) | refine Sub.both ?_)); done) | (simp_all; done) | (simp_all; omega)))))
      refine nextF_of (b - (i + 1)) (by omega) (Sub.refl _) ⟨i + 1, h', by omega, .inl (by omega), rfl, (by first | rfl | (simp only [↓putO_get, ↓putO_no, init_zero, init_succ, Nat.reduceEqDiff, ↓reduceIte, *]; done) | (simp only [↓putO_get, ↓putO_no, init_zero, init_succ, Nat.reduceEqDiff, ↓reduceIte, *]; rfl)), (by first | rfl | (simp only [↓putO_get, ↓putO_no, init_zero, init_succ, Nat.reduceEqDiff, ↓reduceIte, *]; done) | (simp only [↓putO_get, ↓putO_no, init_zero, init_succ, Nat.reduceEqDiff, ↓reduceIte, *]; rfl)), (by first | rfl | (simp only [↓putO_get, ↓putO_no, init_zero, init_succ, Nat.reduceEqDiff, ↓reduceIte, *]; done) | (simp only [↓putO_get, ↓putO_no, init_zero, init_succ, Nat.reduceEqDiff, ↓reduceIte, *]; rfl)), (by first | rfl | (simp only [↓putO_get, ↓putO_no, init_zero, init_succ, Nat.reduceEqDiff, ↓reduceIte, *]; done) | (simp only [↓putO_get, ↓putO_no, init_zero, init_succ, Nat.reduceEqDiff, ↓reduceIte, *]; rfl)), (by first | rfl | (simp only [↓putO_get, ↓putO_no, init_zero, init_succ, Nat.reduceEqDiff, ↓reduceIte, *]; done) | (simp only [↓putO_get, ↓putO_no, init_zero, init_succ, Nat.reduceEqDiff, ↓reduceIte, *]; rfl)), rfl, HI.out.1, HI.out.2.done HH.out.1.lin (.inl (by omega))⟩
  · have hd : decide ((i : Int) < (b : Int)) = false := by simp; omega
    (repeat' (first | (simp +contextual -dsimp only [*, ↓reduceIte, ↓evP, evQ, splice_nil, splice_zero, splice_skip, Nat.reduceAdd, Nat.reduceEqDiff, Nat.reduceLeDiff, Nat.reduceMul, reduceCtorEq, Int.reduceLT, Int.reduceLE, Int.reduceGT, Int.reduceGE, Int.reduceEq, Int.reduceNeg]) | (refine condF_split (fun hc => ?_) (fun hc => ?_) <;> (try simp only [Bool.not_eq_true', Bool.not_eq_false', Bool.and_eq_true, Bool.or_eq_false_iff] at hc)) | (intro _; intros) | (refine And.intro ?_ ?_; focus (first | omega | ((repeat (first | exact Sub.refl _ | (refine Sub.drop ?_ ?_; focus (simp only [evN, *]; done)) | refine Sub.both ?_)); done) | (simp_all; done) | (simp_all; omega)))))
    exact endF_at ⟨h, HM.out.1, HM.out.2.part (Nat.le_refl _) hge, rfl⟩
end Go.Proofs.Ytpnghjmphbhkjaa
