/- Texts of mine, part 2 of 4, laid together: A way to work compiled texts out, head first: what comes later is not looked at before its turn. Slices that hold a list, each element so many cells. The rules by which a text is worked out, bundled. Arguments opened by their types: whatever reads as data of a type is of a kind (Kd), and its weights bound its lengths. No condition but the reading itself. The texts of functions, compiled. More word No condition. -/
import Derived.Test.YtpnghjmphbhkjaaGd1
import Derived.Laws.Strings
import Derived.WalkKit
import Derived.ChangeShapes
import Derived.WideShapes
import Derived.ProofKit
import Derived.SizedLaws
import Derived.ChangeArms
import Derived.Lib.SmallJoins
import Derived.Test.YtpnghjmphbhkjaaProg
import Derived.KernelRfl
import Derived.Below
import Derived.Shelf.SlIter.Collect
import Derived.Shelf.Sort.Plain
import Derived.Shelf.Slices.In.SortNone
import Derived.Shelf.Slices.CompactS
import Derived.RangeFuncLeaves
import Derived.LoopNIn
import Derived.LoopIn
import Derived.Sort.OwnSorted
-- SpH
namespace Go.Sp
open Go.RowKit
set_option linter.unusedSimpArgs false
set_option linter.unusedVariables false
variable {P : Program}
theorem int_beq (a b : Int) : (a == b) = decide (a = b) := by
  by_cases h : a = b <;> simp [h]
theorem int_bne (a b : Int) : (a != b) = !decide (a = b) := by
  by_cases h : a = b <;> simp [h]
theorem ba_inj (a b : ByteArray) : a.toList = b.toList ↔ a = b :=
  ⟨fun h => by
    rw [ByteArray.toList_eq, ByteArray.toList_eq] at h
    cases a; cases b
    exact congrArg _ (Array.toList_inj.mp h), fun h => by rw [h]⟩
theorem str_beq (a b : ByteArray) : (a.toList == b.toList) = decide (a = b) := by
  by_cases h : a = b
  · simp [h]
  · have : ¬ a.toList = b.toList := fun e => h ((ba_inj a b).1 e)
    simp [h, this]
/-- What depends on it is left alone till its turn. -/
structure Dep.{u} {α : Sort u} (a : α) : Type where
  mk ::
def mxI (a b : Int) : Int := if b > a then b else a
def mnI (a b : Int) : Int := if b < a then b else a
def runF {α : Type} (v : α) (k : α → Prop) (_ : Dep k) : Prop := k v
def someF {α : Type} (v : Option α) (k : α → Prop) (_ : Dep k) : Prop := onSome v k
def ptrF (v : Value) (k : Nat → Nat → Prop) (_ : Dep k) : Prop := onPtr v k
def boolF (v : Value) (k : Bool → Prop) (_ : Dep k) : Prop := onBool v k
def sliceF (v : Value) (k : Nat → Nat → Nat → Prop) (_ : Dep k) : Prop := onSlice v k
def i64F (v : Value) (k : Int → Prop) (_ : Dep k) : Prop := onI64 v k
def tupleF (v : Value) (k : Array Value → Prop) (_ : Dep k) : Prop := onTuple v k
def intF (v : Value) (k : IntKind → Int → Prop) (_ : Dep k) : Prop := onInt v k
def strF (v : Value) (k : ByteArray → Prop) (_ : Dep k) : Prop := onStr v k
def condF (v : Value) (A B : Prop) (_ : Dep (A, B)) : Prop := ∃ t, v = .bool t ∧ if t = true then A else B
def guardF (v : Value) (w : Bool) (A B : Prop) (_ : Dep (A, B)) : Prop := if gdv v w = true then A else B
def callF (P : Program) (f : FuncId) (args : List Value) (σ : Hp) (K : Value → Hp → Prop) (_ : Dep K) : Prop := ∃ R, ACalls P f args.toArray σ R ∧ ∀ v σ', R v σ' → (∃ w, Sat σ' w) → K v σ'
def ccallF (P : Program) (f : FuncId) (args : List Value) (σ : Hp) (K : Value → Prop) (_ : Dep K) : Prop := ∃ v, ACalls P f args.toArray σ (fun v' σ' => v' = v ∧ σ' = σ) ∧ K v
def gcallF (P : Program) (f : FuncId) (args : List Value) (σ₀ σ : Hp) (K : Value → Hp → Prop) (_ : Dep K) : Prop := ∃ R, ACalls P f args.toArray σ₀ R ∧ ∀ v σ₁, R v σ₁ → (∃ w, Sat σ₁ w) → Sub σ₀ σ₁ ∧ ((∀ k, σ₀ k = none → σ₁ k ≠ none → σ k = none) → K v (mrg σ₀ σ₁ σ))
/-- A call of a function that is a value. -/
def vcallF (P : Program) (v : Value) (args : List Value) (σ : Hp) (K : Value → Hp → Prop) (_ : Dep K) : Prop := ∃ f cs, v = .func (.func f) #[] cs ∧ okF P f = true ∧ callF P f (args ++ cs.toList) σ K ⟨⟩
def vccallF (P : Program) (v : Value) (args : List Value) (σ : Hp) (K : Value → Prop) (_ : Dep K) : Prop := ∃ f cs, v = .func (.func f) #[] cs ∧ okF P f = true ∧ ccallF P f (args ++ cs.toList) σ K ⟨⟩
def appF (E size bytes : Nat) (vx vy : Value) (K : Value → Hp → Prop) (σ : Hp) (_ : Dep K) : Prop := appK E size bytes vx vy K σ
def rawF (P : Program) (op : Op) (ty : TypeId) (K : Value → Prop) (s : Sl) (_ : Dep (op, K, s)) : Prop := ∃ v, (∀ w, (execOp (ev s) (mkO op ty)).run P w = .ok (.value v) w) ∧ K v
def loopF (P : Program) (c : C) (Q : Exit → Sl → Hp → Prop) (s : Sl) (σ : Hp) (_ : Dep (c, Q, s)) : Prop := mcode P (.loop c) Q s σ
def opF (P : Program) (m : M) (K : Value → Hp → Prop) (s : Sl) (σ : Hp) (_ : Dep (m, K, s)) : Prop := mop P m K s σ
def opsF (P : Program) (os : List MO) (K : Sl → Hp → Prop) (s : Sl) (σ : Hp) (_ : Dep (os, K, s)) : Prop := mops P os K s σ
def codeF (P : Program) (c : C) (Q : Exit → Sl → Hp → Prop) (s : Sl) (σ : Hp) (_ : Dep (c, Q, s)) : Prop := mcode P c Q s σ
def dopsF (P : Program) (xs : List DO) (K : Sl → Hp → Hp → Prop) (s : Sl) (σ₀ σ : Hp) (_ : Dep (xs, K, s)) : Prop := dmops P xs K s σ₀ σ
def dopF (P : Program) (k : Kn) (m : M) (K : Value → Hp → Hp → Prop) (s : Sl) (σ₀ σ : Hp) (_ : Dep (k, m, K, s)) : Prop := dm P k m K s σ₀ σ
/-- The next round. -/
def nextF (J : Nat → Sl → Hp → Prop) (k : Nat) (s : Sl) (σ : Hp) (_ : Dep (J, s)) : Prop := ∃ k', k' < k ∧ ∃ σ₁, Sub σ₁ σ ∧ J k' s σ₁
def finF (rvs : List RV) (R : Value → Hp → Prop) (s : Sl) (σ : Hp) (_ : Dep (rvs, R, s)) : Prop := onSome (rvals s σ rvs) fun vs => ∃ σ', Sub σ' σ ∧ R (whole vs) σ'
def endF (R : Value → Hp → Prop) (v : Value) (σ : Hp) (_ : Dep R) : Prop := ∃ σ', Sub σ' σ ∧ R v σ'
theorem runF_eq {α : Type} (v : α) (k : α → Prop) (δ : Dep k) : runF v k δ = k v := nr rfl
theorem someF_eq {α : Type} (v : α) (k : α → Prop) (δ : Dep k) : someF (some v) k δ = k v := nr rfl
theorem ptrF_eq (b o : Nat) (k : Nat → Nat → Prop) (δ : Dep k) : ptrF (.pointer (some ⟨b, o, none⟩)) k δ = k b o := nr rfl
theorem boolF_eq (b : Bool) (k : Bool → Prop) (δ : Dep k) : boolF (.bool b) k δ = k b := nr rfl
theorem sliceF_eq (b o n c : Nat) (k : Nat → Nat → Nat → Prop) (δ : Dep k) : sliceF (.slice (some ⟨b, o, none⟩) n c) k δ = k b o n := nr rfl
theorem i64F_eq (n : Int) (k : Int → Prop) (δ : Dep k) : i64F (.int .i64 n) k δ = k n := nr rfl
theorem tupleF_eq (vs : Array Value) (k : Array Value → Prop) (δ : Dep k) : tupleF (.tuple vs) k δ = k vs := nr rfl
theorem intF_eq (q : IntKind) (n : Int) (k : IntKind → Int → Prop) (δ : Dep k) : intF (.int q n) k δ = k q n := nr rfl
theorem strF_eq (b : ByteArray) (k : ByteArray → Prop) (δ : Dep k) : strF (.string b) k δ = k b := nr rfl
theorem condF_true (A B : Prop) (δ : Dep (A, B)) : condF (.bool true) A B δ = A := propext ⟨fun ⟨t, h, k⟩ => by cases h; exact k, fun h => ⟨true, rfl, h⟩⟩
theorem condF_false (A B : Prop) (δ : Dep (A, B)) : condF (.bool false) A B δ = B := propext ⟨fun ⟨t, h, k⟩ => by cases h; exact k, fun h => ⟨false, rfl, h⟩⟩
theorem condF_split {X : Bool} {A B : Prop} {δ : Dep (A, B)} (h : X = true → A) (k : X = false → B) : condF (.bool X) A B δ := by
  cases X with
  | true => rw [condF_true]; exact h rfl
  | false => rw [condF_false]; exact k rfl
theorem guardF_bool (X : Bool) (A B : Prop) (δ : Dep (A, B)) : guardF (.bool X) true A B δ = condF (.bool X) A B ⟨⟩ := by
  cases X
  · rw [condF_false]; rfl
  · rw [condF_true]; rfl
theorem guardF_not (X : Bool) (A B : Prop) (δ : Dep (A, B)) : guardF (.bool X) false A B δ = condF (.bool X) B A ⟨⟩ := by
  cases X
  · rw [condF_false]; rfl
  · rw [condF_true]; rfl
theorem guardF_undef (w : Bool) (A B : Prop) (δ : Dep (A, B)) : guardF undef w A B δ = B := nr rfl
theorem callF_of {f : FuncId} {args : List Value} {σ : Hp} {R K : Value → Hp → Prop} {δ : Dep K} (h : ACalls P f args.toArray σ R) (hk : ∀ v σ', R v σ' → K v σ') : callF P f args σ K δ := call_k h hk
theorem callF_v {f : FuncId} {args : List Value} {σ S : Hp} {u : Value} {K : Value → Hp → Prop} {δ : Dep K} (h : ACalls P f args.toArray σ fun v σ' => v = u ∧ σ' = S) (hk : K u S) : callF P f args σ K δ := call_k h fun v σ' hr => by obtain ⟨rfl, rfl⟩ := hr; exact hk
theorem ccallF_of {f : FuncId} {args : List Value} {σ : Hp} {u : Value} {K : Value → Prop} {δ : Dep K} (h : ACalls P f args.toArray σ fun v σ' => v = u ∧ σ' = σ) (hk : K u) : ccallF P f args σ K δ := ⟨u, h, hk⟩
theorem mrg_self (σ₀ σ : Hp) : mrg σ₀ σ₀ σ = σ := by
  funext k; unfold mrg; cases σ₀ k <;> rfl
theorem gcallF_of {f : FuncId} {args : List Value} {σ₀ σ : Hp} {u : Value} {K : Value → Hp → Prop} {δ : Dep K} (h : ACalls P f args.toArray σ₀ fun v σ' => v = u ∧ σ' = σ₀) (hk : K u σ) : gcallF P f args σ₀ σ K δ :=
  ⟨_, h, fun v σ₁ hr _ => by obtain ⟨rfl, rfl⟩ := hr; exact ⟨Sub.refl _, fun _ => by rw [mrg_self]; exact hk⟩⟩
theorem vcallF_mk {f : FuncId} {args : List Value} {σ : Hp} {K : Value → Hp → Prop} {δ : Dep K} (ho : okF P f = true) (h : callF P f args σ K ⟨⟩) : vcallF P (.func (.func f) #[] #[]) args σ K δ := ⟨f, #[], rfl, ho, by simpa using h⟩
theorem vccallF_mk {f : FuncId} {args : List Value} {σ : Hp} {K : Value → Prop} {δ : Dep K} (ho : okF P f = true) (h : ccallF P f args σ K ⟨⟩) : vccallF P (.func (.func f) #[] #[]) args σ K δ := ⟨f, #[], rfl, ho, by simpa using h⟩
theorem vcallF_cs {f : FuncId} {cs args : List Value} {σ : Hp} {K : Value → Hp → Prop} {δ : Dep K} (ho : okF P f = true) (h : callF P f (args ++ cs) σ K ⟨⟩) : vcallF P (.func (.func f) #[] cs.toArray) args σ K δ := ⟨f, cs.toArray, rfl, ho, h⟩
theorem opsF_nil (K : Sl → Hp → Prop) (s : Sl) (σ : Hp) (δ) : opsF P [] K s σ δ = K s σ := nr rfl
theorem opsF_none (d : Option Nat) (m : M) (os : List MO) (K : Sl → Hp → Prop) (s : Sl) (σ : Hp) (δ) : opsF P (⟨d, m, none⟩ :: os) K s σ δ = opF P m (fun v σ' => opsF P os K (putO s d v) σ' ⟨⟩) s σ ⟨⟩ := nr rfl
theorem opsF_r (d : Nat) (m : M) (os : List MO) (K : Sl → Hp → Prop) (s : Sl) (σ : Hp) (δ) : opsF P (rO d m :: os) K s σ δ = opF P m (fun v σ' => opsF P os K (putO s (some d) v) σ' ⟨⟩) s σ ⟨⟩ := nr rfl
theorem opsF_some (d : Option Nat) (m : M) (g : Nat) (w : Bool) (os : List MO) (K : Sl → Hp → Prop) (s : Sl) (σ : Hp) (δ) : opsF P (⟨d, m, some (g, w)⟩ :: os) K s σ δ =
    guardF (s g) w (opF P m (fun v σ' => opsF P os K (putO s d v) σ' ⟨⟩) s σ ⟨⟩) (opsF P os K (putO s d undef) σ ⟨⟩) ⟨⟩ := by
  show (if gd (some (g, w)) s = true then _ else _) = _
  rw [gd_some]; rfl
theorem opF_raw (op : Op) (ty : TypeId) (K : Value → Hp → Prop) (s : Sl) (σ : Hp) (δ) : opF P (.raw op ty) K s σ δ = rawF P op ty (fun v => K v σ) s ⟨⟩ := nr rfl
theorem opF_mv (x : Operand) (K : Value → Hp → Prop) (s : Sl) (σ : Hp) (δ) : opF P (.mv x) K s σ δ = runF (ev s x) (fun v => K v σ) ⟨⟩ := nr rfl
theorem opF_pick (c a b : Operand) (K : Value → Hp → Prop) (s : Sl) (σ : Hp) (δ) : opF P (.pick c a b) K s σ δ = boolF (ev s c) (fun t => runF (if t = true then ev s a else ev s b) (fun v => K v σ) ⟨⟩) ⟨⟩ := nr rfl
theorem opF_nilc (x : Operand) (K : Value → Hp → Prop) (s : Sl) (σ : Hp) (δ) : opF P (.nilc x) K s σ δ = ptrF (ev s x) (fun b o => K (.pointer (some ⟨b, o, none⟩)) σ) ⟨⟩ := nr rfl
theorem opF_fa (off : Nat) (x : Operand) (K : Value → Hp → Prop) (s : Sl) (σ : Hp) (δ) : opF P (.fa off x) K s σ δ = ptrF (ev s x) (fun b o => runF (o + off) (fun j => K (.pointer (some ⟨b, j, none⟩)) σ) ⟨⟩) ⟨⟩ := nr rfl
theorem opF_ia (size : Nat) (x i : Operand) (K : Value → Hp → Prop) (s : Sl) (σ : Hp) (δ) : opF P (.ia size x i) K s σ δ = sliceF (ev s x) (fun b o n => i64F (ev s i) (fun j => (0 ≤ j ∧ j < n) ∧ runF (o + j.toNat * size) (fun j => K (.pointer (some ⟨b, j, none⟩)) σ) ⟨⟩) ⟨⟩) ⟨⟩ := nr rfl
theorem opF_bin (op : BinOp) (x y : Operand) (K : Value → Hp → Prop) (s : Sl) (σ : Hp) (δ) : opF P (.bin op x y) K s σ δ = someF (binv op (ev s x) (ev s y)) (fun v => K v σ) ⟨⟩ := nr rfl
theorem opF_eqs (neg : Bool) (k : EqK) (x y : Operand) (K : Value → Hp → Prop) (s : Sl) (σ : Hp) (δ) : opF P (.eqs neg k x y) K s σ δ = someF (eqv k (ev s x) (ev s y)) (fun b => runF (b != neg) (fun b => K (.bool b) σ) ⟨⟩) ⟨⟩ := nr rfl
theorem opF_nt (x : Operand) (K : Value → Hp → Prop) (s : Sl) (σ : Hp) (δ) : opF P (.nt x) K s σ δ = boolF (ev s x) (fun b => runF (!b) (fun b => K (.bool b) σ) ⟨⟩) ⟨⟩ := nr rfl
theorem opF_ext (i : Nat) (x : Operand) (K : Value → Hp → Prop) (s : Sl) (σ : Hp) (δ) : opF P (.ext i x) K s σ δ = tupleF (ev s x) (fun vs => someF vs[i]? (fun v => K v σ) ⟨⟩) ⟨⟩ := nr rfl
theorem opF_len (t : Bool) (x : Operand) (K : Value → Hp → Prop) (s : Sl) (σ : Hp) (δ) : opF P (.len t x) K s σ δ = someF (lenv t (ev s x)) (fun n => K (.int .i64 n) σ) ⟨⟩ := nr rfl
theorem opF_bld (z : List Value) (ps : List (Nat × Nat × Operand)) (K : Value → Hp → Prop) (s : Sl) (σ : Hp) (δ) : opF P (.bld z ps) K s σ δ = someF (fillO s z ps) (fun cs => K (.agg cs.toArray) σ) ⟨⟩ := nr rfl
theorem opF_conv (k : IntKind) (x : Operand) (K : Value → Hp → Prop) (s : Sl) (σ : Hp) (δ) : opF P (.conv k x) K s σ δ = intF (ev s x) (fun _ n => runF (k.wrap n) (fun n => K (.int k n) σ) ⟨⟩) ⟨⟩ := nr rfl
theorem opF_ixs (x i : Operand) (K : Value → Hp → Prop) (s : Sl) (σ : Hp) (δ) : opF P (.ixs x i) K s σ δ = strF (ev s x) (fun b => i64F (ev s i) (fun j => (0 ≤ j ∧ j < b.size) ∧ K (.int .u8 (b.data.toList.getD j.toNat 0).toNat) σ) ⟨⟩) ⟨⟩ := nr rfl
theorem opF_mx (up : Bool) (x y : Operand) (K : Value → Hp → Prop) (s : Sl) (σ : Hp) (δ) : opF P (.mx up x y) K s σ δ = intF (ev s x) (fun k a => intF (ev s y) (fun _ b => runF (if up = true then mxI a b else mnI a b) (fun n => K (.int k n) σ) ⟨⟩) ⟨⟩) ⟨⟩ := nr rfl
theorem opF_eqa (neg : Bool) (ks : List Lk) (x y : Operand) (K : Value → Hp → Prop) (s : Sl) (σ : Hp) (δ) : opF P (.eqa neg ks x y) K s σ δ = someF (Sp.eqa ks (ev s x) (ev s y)) (fun b => runF (b != neg) (fun b => K (.bool b) σ) ⟨⟩) ⟨⟩ := nr rfl
theorem opF_fld (sz : Option Nat) (off : Nat) (x : Operand) (K : Value → Hp → Prop) (s : Sl) (σ : Hp) (δ) : opF P (.fld sz off x) K s σ δ = someF (fldv sz off (ev s x)) (fun v => K v σ) ⟨⟩ := nr rfl
theorem opF_new (T : TypeId) (z : List Value) (K : Value → Hp → Prop) (s : Sl) (σ : Hp) (δ) : opF P (.new T z) K s σ δ = ∀ b, σ b = none → K (.pointer (some ⟨b, 0, none⟩)) (upd σ b (.cells z T)) := nr rfl
theorem opF_box (T : TypeId) (x : Operand) (K : Value → Hp → Prop) (s : Sl) (σ : Hp) (δ) : opF P (.box T x) K s σ δ = runF (cl (ev s x)) (fun z => ∀ b, σ b = none → K (.pointer (some ⟨b, 0, none⟩)) (upd σ b (.cells z T))) ⟨⟩ := nr rfl
theorem opF_lit (E : TypeId) (n size : Nat) (z : List Value) (ps : List (Nat × Nat × Operand)) (K : Value → Hp → Prop) (s : Sl) (σ : Hp) (δ) : opF P (.lit E n size z ps) K s σ δ = someF (fillO s z ps) (fun cs => runF cs.length (fun l => ∀ b, σ b = none → K (.slice (some ⟨b, 0, none⟩) n n) (upd σ b (.row cs l E))) ⟨⟩) ⟨⟩ := nr rfl
theorem opF_ld (x : Operand) (K : Value → Hp → Prop) (s : Sl) (σ : Hp) (δ) : opF P (.ld none x) K s σ δ = ptrF (ev s x) (fun b off => someF (rd σ b off) (fun v => K v σ) ⟨⟩) ⟨⟩ := nr rfl
theorem opF_lds (sz : Nat) (x : Operand) (K : Value → Hp → Prop) (s : Sl) (σ : Hp) (δ) : opF P (.ld (some sz) x) K s σ δ = ptrF (ev s x) (fun b off => someF (rdn σ b off sz) (fun vs => K (.agg vs.toArray) σ) ⟨⟩) ⟨⟩ := nr rfl
theorem opF_st (sz : Nat) (a x : Operand) (K : Value → Hp → Prop) (s : Sl) (σ : Hp) (δ) : opF P (.st sz a x) K s σ δ = ptrF (ev s a) (fun b off => runF (cl (ev s x)) (fun cs => cs.length = sz ∧ cs.all one = true ∧ someF (wr σ b off cs) (fun σ' => K undef σ') ⟨⟩) ⟨⟩) ⟨⟩ := nr rfl
theorem opF_call (f : FuncId) (args : List Operand) (K : Value → Hp → Prop) (s : Sl) (σ : Hp) (δ) : opF P (.call f args) K s σ δ = runF (args.map (ev s)) (fun vs => callF P f vs σ K ⟨⟩) ⟨⟩ := nr rfl
theorem opF_callv (x : Operand) (args : List Operand) (K : Value → Hp → Prop) (s : Sl) (σ : Hp) (δ) : opF P (.callv x args) K s σ δ = runF (args.map (ev s)) (fun vs => runF (ev s x) (fun v => vcallF P v vs σ K ⟨⟩) ⟨⟩) ⟨⟩ := nr rfl
theorem ev_func (s : Sl) (f : FuncId) : ev s (.func f) = .func (.func f) #[] #[] := nr rfl
theorem opF_app (E size bytes : Nat) (x y : Operand) (K : Value → Hp → Prop) (s : Sl) (σ : Hp) (δ) : opF P (.app E size bytes x y) K s σ δ = appF E size bytes (ev s x) (ev s y) K σ ⟨⟩ := nr rfl
theorem opF_mkmap (num : Bool) (K : Value → Hp → Prop) (s : Sl) (σ : Hp) (δ) : opF P (.mkmap num) K s σ δ = ∀ b, σ b = none → K (.map (some b)) (upd σ b (if num = true then .im [] else .mp [])) := nr rfl
theorem opF_mks (E size bytes : Nat) (z : List Value) (x : Operand) (K : Value → Hp → Prop) (s : Sl) (σ : Hp) (δ) : opF P (.mks E size bytes z x) K s σ δ = i64F (ev s x) (fun j => (0 ≤ j ∧ j * bytes ≤ 140737488355328 ∧ j ≤ 140737488355328 ∧ z.length = size) ∧ ∀ b, σ b = none → K (.slice (some ⟨b, 0, none⟩) j.toNat j.toNat) (upd σ b (.row (List.replicate j.toNat z).flatten (j.toNat * size) E))) ⟨⟩ := nr rfl
theorem opF_look (q : LQ) (z : Value) (x i : Operand) (K : Value → Hp → Prop) (s : Sl) (σ : Hp) (δ) : opF P (.look q z x i) K s σ δ = someF (mreadV σ (ev s x) q z (ev s i)) (fun v => K v σ) ⟨⟩ := nr rfl
theorem opF_mset (q : LT) (x i v : Operand) (K : Value → Hp → Prop) (s : Sl) (σ : Hp) (δ) : opF P (.mset q x i v) K s σ δ = someF (mturnV σ (ev s x) q (ev s i) (ev s v)) (fun σ' => K (turnv q) σ') ⟨⟩ := nr rfl
theorem opF_fnl (g : Lf) (xs : List Operand) (K : Value → Hp → Prop) (s : Sl) (σ : Hp) (δ) : opF P (.fnl g xs) K s σ δ = runF (xs.map (ev s)) (fun vs => someF (lf g vs) (fun v => K v σ) ⟨⟩) ⟨⟩ := nr rfl
theorem opF_bys (x : Operand) (K : Value → Hp → Prop) (s : Sl) (σ : Hp) (δ) : opF P (.bys x) K s σ δ = sliceF (ev s x) (fun b o n => someF (rdn σ b o n) (fun vs => someF (u8s vs) (fun ys => runF (strOfNums ys) (fun t => K (.string t) σ) ⟨⟩) ⟨⟩) ⟨⟩) ⟨⟩ := nr rfl
theorem mread_nil_s (σ : Hp) (ok : Bool) (z : Value) (k : ByteArray) : mreadV σ (.map none) (.get false ok) z (.string k) = some (lookv ok z none) := nr rfl
theorem mread_nil_i (σ : Hp) (ok : Bool) (z : Value) (n : Int) : mreadV σ (.map none) (.get true ok) z (.int .i64 n) = some (lookv ok z none) := nr rfl
theorem mread_nil_n (σ : Hp) (z k : Value) : mreadV σ (.map none) .size z k = some (.int .i64 0) := nr rfl
theorem mread_mp (σ : Hp) (b : Nat) (l : List (ByteArray × Value)) (ok : Bool) (z : Value) (k : ByteArray) : mreadV (upd σ b (.mp l)) (.map (some b)) (.get false ok) z (.string k) = some (lookv ok z (mget l k)) := by simp [mreadV, upd, bread]
theorem mread_mp_n (σ : Hp) (b : Nat) (l : List (ByteArray × Value)) (z k : Value) : mreadV (upd σ b (.mp l)) (.map (some b)) .size z k = some (.int .i64 l.length) := by simp [mreadV, upd, bread]
theorem mread_im (σ : Hp) (b : Nat) (l : List (Int × Value)) (ok : Bool) (z : Value) (k : Int) : mreadV (upd σ b (.im l)) (.map (some b)) (.get true ok) z (.int .i64 k) = some (lookv ok z (mget l k)) := by simp [mreadV, upd, bread]
theorem mread_im_n (σ : Hp) (b : Nat) (l : List (Int × Value)) (z k : Value) : mreadV (upd σ b (.im l)) (.map (some b)) .size z k = some (.int .i64 l.length) := by simp [mreadV, upd, bread]
theorem mread_ne (σ : Hp) {b c : Nat} (o : Blk) (q : LQ) (z k : Value) (h : ¬ b = c) : mreadV (upd σ c o) (.map (some b)) q z k = mreadV σ (.map (some b)) q z k := by simp [mreadV, upd, h]
theorem mturn_mp_put (σ : Hp) (b : Nat) (l : List (ByteArray × Value)) (k : ByteArray) (v : Value) : mturnV (upd σ b (.mp l)) (.map (some b)) (.put false) (.string k) v = some (upd σ b (.mp (mput l k v))) := by
  have e : (upd σ b (.mp l)) b = some (.mp l) := upd_same _ _ _
  simp only [mturnV, e, Option.bind_some, bturn, Option.map_some, upd_upd]
theorem mturn_mp_del (σ : Hp) (b : Nat) (l : List (ByteArray × Value)) (k : ByteArray) (v : Value) : mturnV (upd σ b (.mp l)) (.map (some b)) (.del false) (.string k) v = some (upd σ b (.mp (mdel l k))) := by
  have e : (upd σ b (.mp l)) b = some (.mp l) := upd_same _ _ _
  simp only [mturnV, e, Option.bind_some, bturn, Option.map_some, upd_upd]
theorem mturn_mp_clr (σ : Hp) (b : Nat) (l : List (ByteArray × Value)) (k v : Value) : mturnV (upd σ b (.mp l)) (.map (some b)) .clr k v = some (upd σ b (.mp [])) := by
  have e : (upd σ b (.mp l)) b = some (.mp l) := upd_same _ _ _
  simp only [mturnV, e, Option.bind_some, bturn, Option.map_some, upd_upd]
theorem mturn_im_put (σ : Hp) (b : Nat) (l : List (Int × Value)) (k : Int) (v : Value) : mturnV (upd σ b (.im l)) (.map (some b)) (.put true) (.int .i64 k) v = some (upd σ b (.im (mput l k v))) := by
  have e : (upd σ b (.im l)) b = some (.im l) := upd_same _ _ _
  simp only [mturnV, e, Option.bind_some, bturn, Option.map_some, upd_upd]
theorem mturn_im_del (σ : Hp) (b : Nat) (l : List (Int × Value)) (k : Int) (v : Value) : mturnV (upd σ b (.im l)) (.map (some b)) (.del true) (.int .i64 k) v = some (upd σ b (.im (mdel l k))) := by
  have e : (upd σ b (.im l)) b = some (.im l) := upd_same _ _ _
  simp only [mturnV, e, Option.bind_some, bturn, Option.map_some, upd_upd]
theorem mturn_im_clr (σ : Hp) (b : Nat) (l : List (Int × Value)) (k v : Value) : mturnV (upd σ b (.im l)) (.map (some b)) .clr k v = some (upd σ b (.im [])) := by
  have e : (upd σ b (.im l)) b = some (.im l) := upd_same _ _ _
  simp only [mturnV, e, Option.bind_some, bturn, Option.map_some, upd_upd]
theorem mturn_ne (σ : Hp) {b c : Nat} (o : Blk) (q : LT) (k v : Value) (h : ¬ b = c) : mturnV (upd σ c o) (.map (some b)) q k v = (mturnV σ (.map (some b)) q k v).map fun τ => upd τ c o := by
  simp only [mturnV, upd_ne _ _ h, Option.map_map]
  congr 1
  funext o'
  exact upd_comm _ _ _ (fun e => h e.symm)
theorem lookv_t (z : Value) (r : Option Value) : lookv true z r = .tuple #[r.getD z, .bool r.isSome] := nr rfl
theorem lookv_f (z : Value) (r : Option Value) : lookv false z r = r.getD z := nr rfl
theorem lf_sll_eq (sz : Nat) (a : Option Addr) (n c : Nat) (k : IntKind) (i : Int) (h : 0 ≤ i ∧ i ≤ n) : lf (.sll sz) [.slice a n c, .int k i] = some (sliced a i.toNat n c sz) := if_pos h
theorem lf_rune_eq (k : IntKind) (i : Int) : lf .rune [.int k i] = some (.string (Utf8.encode i)) := nr rfl
theorem lf_clo (f : FuncId) (us : List Value) : lf (.clo f) us = some (.func (.func f) #[] us.toArray) := nr rfl
theorem lf_ifn_nil (neg : Bool) : lf (.ifn neg) [.nilIface] = some (.bool (true != neg)) := nr rfl
theorem lf_ifn_some (neg : Bool) (T : TypeId) (v : Value) : lf (.ifn neg) [.iface T v] = some (.bool (false != neg)) := nr rfl
theorem u8s_nil : u8s [] = some [] := nr rfl
theorem u8s_cons (x : Int) (r : List Value) : u8s (.int .u8 x :: r) = (u8s r).map (x :: ·) := nr rfl
theorem cl_map (b : Option Nat) : cl (.map b) = [.map b] := nr rfl
theorem one_map (b : Option Nat) : one (.map b) = true := nr rfl
theorem dopsF_nil (K : Sl → Hp → Hp → Prop) (s : Sl) (σ₀ σ : Hp) (δ) : dopsF P [] K s σ₀ σ δ = K s σ₀ σ := nr rfl
theorem dopsF_none (d : Option Nat) (m : M) (k : Kn) (xs : List DO) (K : Sl → Hp → Hp → Prop) (s : Sl) (σ₀ σ : Hp) (δ) : dopsF P (⟨⟨d, m, none⟩, k⟩ :: xs) K s σ₀ σ δ = dopF P k m (fun v σ₀' σ' => dopsF P xs K (putO s d v) σ₀' σ' ⟨⟩) s σ₀ σ ⟨⟩ := nr rfl
theorem dopsF_r (d : Nat) (m : M) (k : Kn) (xs : List DO) (K : Sl → Hp → Hp → Prop) (s : Sl) (σ₀ σ : Hp) (δ) : dopsF P (⟨rO d m, k⟩ :: xs) K s σ₀ σ δ = dopF P k m (fun v σ₀' σ' => dopsF P xs K (putO s (some d) v) σ₀' σ' ⟨⟩) s σ₀ σ ⟨⟩ := nr rfl
theorem dopsF_some (d : Option Nat) (m : M) (g : Nat) (w : Bool) (k : Kn) (xs : List DO) (K : Sl → Hp → Hp → Prop) (s : Sl) (σ₀ σ : Hp) (δ) : dopsF P (⟨⟨d, m, some (g, w)⟩, k⟩ :: xs) K s σ₀ σ δ =
    guardF (s g) w (dopF P k m (fun v σ₀' σ' => dopsF P xs K (putO s d v) σ₀' σ' ⟨⟩) s σ₀ σ ⟨⟩) (dopsF P xs K (putO s d undef) σ₀ σ ⟨⟩) ⟨⟩ := by
  show (if gd (some (g, w)) s = true then _ else _) = _
  rw [gd_some]; rfl
theorem dopF_p (m : M) (K : Value → Hp → Hp → Prop) (s : Sl) (σ₀ σ : Hp) (δ) : dopF P .p m K s σ₀ σ δ = opF P m (fun v _ => K v σ₀ σ) s σ₀ ⟨⟩ := nr rfl
theorem dopF_l (m : M) (K : Value → Hp → Hp → Prop) (s : Sl) (σ₀ σ : Hp) (δ) : dopF P .l m K s σ₀ σ δ = opF P m (fun v _ => K v σ₀ σ) s σ₀ ⟨⟩ := nr rfl
theorem dopF_f (m : M) (K : Value → Hp → Hp → Prop) (s : Sl) (σ₀ σ : Hp) (δ) : dopF P .f m K s σ₀ σ δ = opF P m (fun v σ' => K v σ₀ σ') s σ ⟨⟩ := nr rfl
theorem dopF_u (m : M) (K : Value → Hp → Hp → Prop) (s : Sl) (σ₀ σ : Hp) (δ) : dopF P .u m K s σ₀ σ δ = opF P m (fun v σ' => K v (meet σ₀ σ') σ') s σ ⟨⟩ := nr rfl
theorem meet_self (σ : Hp) : meet σ σ = σ := by funext k; simp [meet]
theorem meet_same (σ σ' : Hp) (b : Nat) (o : Blk) : meet (upd σ b o) (upd σ' b o) = upd (meet σ σ') b o := by
  funext k
  by_cases e : k = b
  · subst e; simp [meet, upd]
  · by_cases h : σ k = σ' k <;> simp [meet, upd, e, h]
theorem dopF_r (m : M) (K : Value → Hp → Hp → Prop) (s : Sl) (σ₀ σ : Hp) (δ) : dopF P .r m K s σ₀ σ δ = opF P m (fun v _ => K v σ₀ σ) s σ ⟨⟩ := nr rfl
theorem dopF_w (m : M) (K : Value → Hp → Hp → Prop) (s : Sl) (σ₀ σ : Hp) (δ) : dopF P .w m K s σ₀ σ δ = opF P m (fun v σ' => Sub σ₀ σ' ∧ K v σ₀ σ') s σ ⟨⟩ := nr rfl
theorem dopF_m (m : M) (K : Value → Hp → Hp → Prop) (s : Sl) (σ₀ σ : Hp) (δ) : dopF P .m m K s σ₀ σ δ = opF P m (fun v σ' => K v σ' σ') s σ ⟨⟩ := nr rfl
theorem dopF_c (f : FuncId) (args : List Operand) (K : Value → Hp → Hp → Prop) (s : Sl) (σ₀ σ : Hp) (δ) : dopF P .c (.call f args) K s σ₀ σ δ = runF (args.map (ev s)) (fun vs => ccallF P f vs σ₀ (fun v => K v σ₀ σ) ⟨⟩) ⟨⟩ := nr rfl
theorem dopF_cv (x : Operand) (args : List Operand) (K : Value → Hp → Hp → Prop) (s : Sl) (σ₀ σ : Hp) (δ) : dopF P .c (.callv x args) K s σ₀ σ δ = runF (args.map (ev s)) (fun vs => runF (ev s x) (fun v => vccallF P v vs σ₀ (fun v => K v σ₀ σ) ⟨⟩) ⟨⟩) ⟨⟩ := nr rfl
theorem dopF_g (f : FuncId) (args : List Operand) (K : Value → Hp → Hp → Prop) (s : Sl) (σ₀ σ : Hp) (δ) : dopF P .g (.call f args) K s σ₀ σ δ = runF (args.map (ev s)) (fun vs => gcallF P f vs σ₀ σ (fun v σ' => K v σ₀ σ') ⟨⟩) ⟨⟩ := nr rfl
theorem codeF_skip (Q : Exit → Sl → Hp → Prop) (s : Sl) (σ : Hp) (δ) : codeF P .skip Q s σ δ = Q .normal s σ := nr rfl
theorem codeF_reg (mos : List MO) (Q : Exit → Sl → Hp → Prop) (s : Sl) (σ : Hp) (δ) : codeF P (.reg mos) Q s σ δ = opsF P mos (fun s σ => Q .normal s σ) s σ ⟨⟩ := nr rfl
theorem codeF_draw (xs : List DO) (Q : Exit → Sl → Hp → Prop) (s : Sl) (σ : Hp) (δ) : codeF P (.draw xs) Q s σ δ = dopsF P xs (fun s _ σ => Q .normal s σ) s σ σ ⟨⟩ := nr rfl
def drawxF (P : Program) (xs : List DO) (K : Sl → Hp → Hp → Prop) (s : Sl) (σ : Hp) (_ : Dep (xs, K, s)) : Prop := ∃ σ₀, Sub σ₀ σ ∧ dmops P xs K s σ₀ σ
theorem codeF_drawx (xs : List DO) (Q : Exit → Sl → Hp → Prop) (s : Sl) (σ : Hp) (δ) : codeF P (.drawx xs) Q s σ δ = drawxF P xs (fun s _ σ => Q .normal s σ) s σ ⟨⟩ := nr rfl
/-- A region that draws, of which the reads may know less than there is. -/
theorem drawxF_of {xs : List DO} {K : Sl → Hp → Hp → Prop} {s : Sl} {σ σ₀ : Hp} {δ} (h : Sub σ₀ σ) (hk : dopsF P xs K s σ₀ σ ⟨⟩) : drawxF P xs K s σ δ := ⟨σ₀, h, hk⟩
theorem codeF_seq (a b : C) (Q : Exit → Sl → Hp → Prop) (s : Sl) (σ : Hp) (δ) : codeF P (.seq a b) Q s σ δ = codeF P a (thn (fun s σ => codeF P b Q s σ ⟨⟩) Q) s σ ⟨⟩ := nr rfl
theorem codeF_cond (x : Operand) (a b : C) (Q : Exit → Sl → Hp → Prop) (s : Sl) (σ : Hp) (δ) : codeF P (.cond x a b) Q s σ δ = condF (ev s x) (codeF P a Q s σ ⟨⟩) (codeF P b Q s σ ⟨⟩) ⟨⟩ := nr rfl
theorem codeF_block (id : Nat) (c : C) (Q : Exit → Sl → Hp → Prop) (s : Sl) (σ : Hp) (δ) : codeF P (.block id c) Q s σ δ = codeF P c (inBlk id Q) s σ ⟨⟩ := nr rfl
theorem codeF_loop (c : C) (Q : Exit → Sl → Hp → Prop) (s : Sl) (σ : Hp) (δ) : codeF P (.loop c) Q s σ δ = loopF P c Q s σ ⟨⟩ := nr rfl
theorem codeF_exit (id : Nat) (Q : Exit → Sl → Hp → Prop) (s : Sl) (σ : Hp) (δ) : codeF P (.exit id) Q s σ δ = Q (.exit id) s σ := nr rfl
theorem codeF_ret (Q : Exit → Sl → Hp → Prop) (s : Sl) (σ : Hp) (δ) : codeF P .ret Q s σ δ = Q .ret s σ := nr rfl
theorem thn_normal (K : Sl → Hp → Prop) (Q : Exit → Sl → Hp → Prop) (s : Sl) (σ : Hp) : thn K Q .normal s σ = K s σ := nr rfl
theorem thn_exit (K : Sl → Hp → Prop) (Q : Exit → Sl → Hp → Prop) (id : Nat) (s : Sl) (σ : Hp) : thn K Q (.exit id) s σ = Q (.exit id) s σ := nr rfl
theorem thn_ret (K : Sl → Hp → Prop) (Q : Exit → Sl → Hp → Prop) (s : Sl) (σ : Hp) : thn K Q .ret s σ = Q .ret s σ := nr rfl
theorem inBlk_normal (id : Nat) (Q : Exit → Sl → Hp → Prop) (s : Sl) (σ : Hp) : inBlk id Q .normal s σ = Q .normal s σ := nr rfl
theorem inBlk_ret (id : Nat) (Q : Exit → Sl → Hp → Prop) (s : Sl) (σ : Hp) : inBlk id Q .ret s σ = Q .ret s σ := nr rfl
theorem inBlk_exit (id id' : Nat) (Q : Exit → Sl → Hp → Prop) (s : Sl) (σ : Hp) : inBlk id Q (.exit id') s σ = if id' = id then Q .normal s σ else Q (.exit id') s σ := by
  show (if id' = id then Q .normal else Q (.exit id')) s σ = _
  split <;> rfl
theorem fin_normalF (rvs : List RV) (R : Value → Hp → Prop) (s : Sl) (σ : Hp) : fin rvs R .normal s σ = finF rvs R s σ ⟨⟩ := fin_normal rvs R s σ
theorem fin_retF (rvs : List RV) (R : Value → Hp → Prop) (s : Sl) (σ : Hp) : fin rvs R .ret s σ = finF rvs R s σ ⟨⟩ := fin_ret rvs R s σ
theorem finF_eq (rvs : List RV) (R : Value → Hp → Prop) (s : Sl) (σ : Hp) (δ) : finF rvs R s σ δ = someF (rvals s σ rvs) (fun vs => runF (whole vs) (fun v => endF R v σ ⟨⟩) ⟨⟩) ⟨⟩ := nr rfl
theorem putO_get (s : Sl) (d i : Nat) (v : Value) : putO s (some d) v i = if i = d then v else s i := nr rfl
theorem putO_no (s : Sl) (v : Value) : putO s none v = s := nr rfl
/-- The way in. -/
theorem acalls_F {f n : Nat} {m : C} {rvs : List RV} (hf : FnOk P f n m rvs) {args : List Value} {σ : Hp} {R : Value → Hp → Prop} (ha : args.length ≤ n) (h : codeF P m (fin rvs R) (init args) σ ⟨⟩) : ACalls P f args.toArray σ R := acalls_of hf ha h
/-- The way out. -/
theorem endF_at {R : Value → Hp → Prop} {v : Value} {σ : Hp} {δ : Dep R} (h : R v σ) : endF R v σ δ := ⟨σ, Sub.refl _, h⟩
theorem endF_sub {R : Value → Hp → Prop} {v : Value} {σ τ : Hp} {δ : Dep R} (hs : Sub τ σ) (h : R v τ) : endF R v σ δ := ⟨τ, hs, h⟩
theorem endF_det {A v : Value} {S σ : Hp} {δ} (h : v = A) (hs : Sub S σ) : endF (fun u σ' => u = A ∧ σ' = S) v σ δ := ⟨S, hs, h, rfl⟩
/-- A loop: what holds at its head, and what falls with each round. -/
theorem loopF_of {c : C} {Q : Exit → Sl → Hp → Prop} {s : Sl} {σ : Hp} {δ} (J : Nat → Sl → Hp → Prop) (k : Nat) {σ₁ : Hp} (hs : Sub σ₁ σ) (h0 : J k s σ₁) (h : ∀ k s' σ', J k s' σ' → codeF P c (thn (fun s'' σ'' => nextF J k s'' σ'' ⟨⟩) Q) s' σ' ⟨⟩) : loopF P c Q s σ δ := ⟨J, k, ⟨σ₁, hs, h0⟩, h⟩
theorem nextF_of {J : Nat → Sl → Hp → Prop} {k : Nat} {s : Sl} {σ : Hp} (k' : Nat) (hk : k' < k) {σ₁ : Hp} (hs : Sub σ₁ σ) (h : J k' s σ₁) {δ} : nextF J k s σ δ := ⟨k', hk, σ₁, hs, h⟩
theorem mops_mono {P : Program} : ∀ (l : List MO) {K K' : Sl → Hp → Prop}, (∀ s σ, K s σ → K' s σ) → ∀ {s : Sl} {σ : Hp}, mops P l K s σ → mops P l K' s σ
  | [], _, _, hk, _, _, h => hk _ _ h
  | o :: os, K, K', hk, s, σ, h => by
    unfold mops at h ⊢
    split
    · rename_i hg
      rw [if_pos hg] at h
      exact mop_mono h fun v σ' h => mops_mono os hk h
    · rename_i hg
      rw [if_neg hg] at h
      exact mops_mono os hk h
theorem dmops_mono {P : Program} : ∀ (l : List DO) {K K' : Sl → Hp → Hp → Prop}, (∀ s σ₀ σ, K s σ₀ σ → K' s σ₀ σ) → ∀ {s : Sl} {σ₀ σ : Hp}, dmops P l K s σ₀ σ → dmops P l K' s σ₀ σ
  | [], _, _, hk, _, _, _, h => hk _ _ _ h
  | x :: xs, K, K', hk, s, σ₀, σ, h => by
    unfold dmops dm1 at h ⊢
    exact dmv_mono h fun v a b _ h => dmops_mono xs hk h
theorem mcode_mono {P : Program} : ∀ (c : C) {Q Q' : Exit → Sl → Hp → Prop}, (∀ e s σ, Q e s σ → Q' e s σ) → ∀ {s : Sl} {σ : Hp}, mcode P c Q s σ → mcode P c Q' s σ := by
  intro c
  induction c with
  | skip => intro Q Q' hq s σ h; exact hq _ _ _ h
  | reg mos => intro Q Q' hq s σ h; exact mops_mono mos (fun s σ h => hq _ _ _ h) h
  | draw xs => intro Q Q' hq s σ h; exact dmops_mono xs (fun s _ σ h => hq _ _ _ h) h
  | drawx xs => intro Q Q' hq s σ h; obtain ⟨σ₀, h1, h2⟩ := h; exact ⟨σ₀, h1, dmops_mono xs (fun s _ σ h => hq _ _ _ h) h2⟩
  | seq a b iha ihb =>
    intro Q Q' hq s σ h
    refine iha (fun e s σ h => ?_) h
    cases e with
    | normal => exact ihb hq h
    | _ => exact hq _ _ _ h
  | cond x a b iha ihb =>
    intro Q Q' hq s σ h
    obtain ⟨t, ht, h⟩ := h
    refine ⟨t, ht, ?_⟩
    split
    · rename_i e; rw [if_pos e] at h; exact iha hq h
    · rename_i e; rw [if_neg e] at h; exact ihb hq h
  | block id c ih =>
    intro Q Q' hq s σ h
    refine ih (fun e s σ h => ?_) h
    cases e with
    | exit i =>
      by_cases e : i = id
      · simp only [inBlk, if_pos e] at h ⊢; exact hq _ _ _ h
      · simp only [inBlk, if_neg e] at h ⊢; exact hq _ _ _ h
    | _ => exact hq _ _ _ h
  | loop c ih =>
    intro Q Q' hq s σ h
    obtain ⟨J, k, h0, h⟩ := h
    refine ⟨J, k, h0, fun k s' σ' hJ => ih (fun e s σ h => ?_) (h k s' σ' hJ)⟩
    cases e with
    | normal => exact h
    | _ => exact hq _ _ _ h
  | exit id => intro Q Q' hq s σ h; exact hq _ _ _ h
  | ret => intro Q Q' hq s σ h; exact hq _ _ _ h
/-- Two pieces, one behind the other: what holds between them. -/
theorem codeF_cut {P : Program} {a b : C} {Q : Exit → Sl → Hp → Prop} {s : Sl} {σ : Hp} {δ} (I : Sl → Hp → Prop) (h1 : codeF P a (thn I Q) s σ ⟨⟩) (h2 : ∀ s σ, I s σ → codeF P b Q s σ ⟨⟩) : codeF P (.seq a b) Q s σ δ :=
  mcode_mono a (fun e s σ h => by
    cases e with
    | normal => exact h2 s σ h
    | _ => exact h) h1
open Go.RowKit
theorem seg_zero (cs : List Value) : seg cs 0 0 = some [] := by simp [seg]
theorem seg_cons (c : Value) (cs : List Value) (n : Nat) : seg (c :: cs) 0 (n + 1) = (seg cs 0 n).map (fun l => c :: l) := by
  simp only [seg, List.length_cons, Nat.zero_add, List.drop_zero, List.take_succ_cons]
  by_cases h : n ≤ cs.length
  · rw [if_pos h, if_pos (by omega)]; rfl
  · rw [if_neg h, if_neg (by omega)]; rfl
theorem seg_skip (c : Value) (cs : List Value) (o n : Nat) : seg (c :: cs) (o + 1) n = seg cs o n := by
  simp only [seg, List.length_cons, List.drop_succ_cons]
  by_cases h : o + n ≤ cs.length
  · rw [if_pos h, if_pos (by omega)]
  · rw [if_neg h, if_neg (by omega)]
theorem flat_len {α : Type} {f : α → List Value} {sz : Nat} (hf : ∀ x, (f x).length = sz) (l : List α) : (l.flatMap f).length = l.length * sz := by
  induction l with
  | nil => simp
  | cons a l ih => rw [List.flatMap_cons, List.length_append, hf, ih, List.length_cons, Nat.add_mul]; omega
theorem flat_split {α : Type} {f : α → List Value} {sz : Nat} (hf : ∀ x, (f x).length = sz) : ∀ {l : List α} {i : Nat} {x : α}, l[i]? = some x → ∃ A B, l.flatMap f = A ++ f x ++ B ∧ A.length = i * sz
  | a :: l, 0, x, h => by
    simp at h; subst h
    exact ⟨[], l.flatMap f, by simp, by simp⟩
  | a :: l, i + 1, x, h => by
    obtain ⟨A, B, h1, h2⟩ := flat_split hf (l := l) (i := i) (x := x) (by simpa using h)
    exact ⟨f a ++ A, B, by rw [List.flatMap_cons, h1]; simp, by rw [List.length_append, hf, h2, Nat.add_mul]; omega⟩
theorem seg_mid (A M B : List Value) (o n : Nat) (h : o + n ≤ M.length) : seg (A ++ M ++ B) (A.length + o) n = seg M o n := by
  unfold seg
  rw [if_pos (by simp; omega), if_pos h, List.append_assoc, List.drop_append, List.drop_of_length_le (by omega), List.nil_append, Nat.add_sub_cancel_left,
    List.drop_append_of_le_length (by omega), List.take_append_of_le_length (by rw [List.length_drop]; omega)]
theorem seg_flat {α : Type} {f : α → List Value} {sz : Nat} (hf : ∀ x, (f x).length = sz) {l : List α} {i : Nat} {x : α} (hx : l[i]? = some x) (o n : Nat) (h : o + n ≤ sz) : seg (l.flatMap f) (i * sz + o) n = seg (f x) o n := by
  obtain ⟨A, B, h1, h2⟩ := flat_split hf hx
  rw [h1, ← h2]
  exact seg_mid A _ B o n (by rw [hf]; exact h)
theorem get_flat {α : Type} {f : α → List Value} {sz : Nat} (hf : ∀ x, (f x).length = sz) {l : List α} {i : Nat} {x : α} (hx : l[i]? = some x) (o : Nat) (h : o < sz) : (l.flatMap f)[i * sz + o]? = (f x)[o]? := by
  obtain ⟨A, B, h1, h2⟩ := flat_split hf hx
  rw [h1, ← h2, List.append_assoc, List.getElem?_append_right (by omega), Nat.add_sub_cancel_left, List.getElem?_append_left (by rw [hf]; exact h)]
theorem seg_all (cs : List Value) : seg cs 0 cs.length = some cs := by simp [seg]
/-- The slice v holds the list l: nil, or a row of its own. -/
def RowsAt {α : Type} (E sz : Nat) (f : α → List Value) (σ : Hp) (v : Value) (l : List α) : Prop :=
  (v = .slice none 0 0 ∧ l = []) ∨ ∃ b c, v = .slice (some ⟨b, 0, none⟩) l.length c ∧ l.length ≤ c ∧ σ b = some (.row (l.flatMap f) (c * sz) E)
/-- A loop that leaves the heap as it is (but for what it makes and forgets), and the slots of L. -/
theorem loopF_keep {P : Program} {c : C} {Q : Exit → Sl → Hp → Prop} {s : Sl} {σ : Hp} {δ} (L : List Nat) (J : Nat → Sl → Prop) (k : Nat) (h0 : J k s)
    (h : ∀ k s', L.map s' = L.map s → J k s' → codeF P c (thn (fun s'' σ'' => nextF (fun k s' σ' => L.map s' = L.map s ∧ σ' = σ ∧ J k s') k s'' σ'' ⟨⟩) Q) s' σ ⟨⟩) : loopF P c Q s σ δ :=
  loopF_of (fun k s' σ' => L.map s' = L.map s ∧ σ' = σ ∧ J k s') k (Sub.refl _) ⟨rfl, rfl, h0⟩ fun k s' σ' ⟨h1, h2, h3⟩ => by subst h2; exact h k s' h1 h3
theorem keep_of {L : List Nat} {J : Nat → Sl → Prop} {s s' : Sl} {σ σ' : Hp} {k : Nat} (k' : Nat) (hk : k' < k) (hL : L.map s' = L.map s) (hs : Sub σ σ') (h : J k' s') {δ} : nextF (fun k s' σ' => L.map s' = L.map s ∧ σ' = σ ∧ J k s') k s' σ' δ :=
  ⟨k', hk, σ, hs, hL, rfl, h⟩
/-- Two known blocks of unlike form, laid open. -/
theorem open_two {σ : Hp} {g b : Nat} {A B : Blk} (hg : σ g = some A) (hb : σ b = some B) (hne : A ≠ B) : ∃ τ, σ = upd (upd τ b B) g A ∧ ¬ g = b ∧ ¬ b = g := by
  have h : ¬ g = b := fun e => by subst e; rw [hg] at hb; cases hb; exact hne rfl
  exact ⟨σ, by rw [upd_self hb, upd_self hg], h, fun e => h e.symm⟩
/-- A fact laid aside. -/
structure Hid (p : Prop) : Prop where
  out : p
/-- Something appended to nil. -/
theorem app_n {E size bytes b off m c : Nat} {ys : List Value} {K : Value → Hp → Prop} {σ : Hp} {δ} (hy : rdn σ b off (m * size) = some ys) (h1 : ys.all one = true) (hm : 0 < m) (hb : m * bytes ≤ 140737488355328) (hl : m ≤ maxLen)
    (hk : ∀ b' c', σ b' = none → m ≤ c' → K (.slice (some ⟨b', 0, none⟩) m c') (upd σ b' (.row ys (c' * size) E))) : appF E size bytes (.slice none 0 0) (.slice (some ⟨b, off, none⟩) m c) K σ δ :=
  .inr ⟨b, off, m, c, ys, rfl, hy, h1, .inr (.inl ⟨hm, rfl, hb, hl, hk⟩)⟩
/-- Something appended to a row: in its room, or to a copy of it. -/
theorem app_b {E size bytes b off m c g n cap : Nat} {xs ys : List Value} {K : Value → Hp → Prop} {σ : Hp} {δ} (hy : rdn σ b off (m * size) = some ys) (h1 : ys.all one = true) (hx : σ g = some (.row xs (cap * size) E)) (hxl : xs.length = n * size) (hn : n ≤ cap)
    (hb : (n + m) * bytes ≤ 140737488355328) (hl : n + m ≤ maxLen)
    (hk1 : ∀ c', n + m ≤ c' → K (.slice (some ⟨g, 0, none⟩) (n + m) c') (set σ g (.row (xs ++ ys) (c' * size) E)))
    (hk2 : ∀ b' c', σ b' = none → n + m ≤ c' → K (.slice (some ⟨b', 0, none⟩) (n + m) c') (upd (set σ g .dead) b' (.row (xs ++ ys) (c' * size) E))) :
    appF E size bytes (.slice (some ⟨g, 0, none⟩) n cap) (.slice (some ⟨b, off, none⟩) m c) K σ δ := by
  refine .inr ⟨b, off, m, c, ys, rfl, hy, h1, .inr (.inr ⟨g, n, cap, xs, rfl, hx, hxl, hn, hb, hl, ?_⟩)⟩
  rintro b' c' (rfl | hn') hc
  · rw [upd_upd]; exact hk1 c' hc
  · exact hk2 b' c' hn' hc
/-- The block that a slice lies in. -/
def blk (v : Value) : Option Nat := match v with | .slice (some a) _ _ => some a.block | _ => none
theorem RowsAt.keep {α : Type} {E sz : Nat} {f : α → List Value} {σ σ' : Hp} {v : Value} {l : List α} (h : RowsAt E sz f σ v l) (hk : ∀ k, blk v = some k → σ' k = σ k) : RowsAt E sz f σ' v l := by
  rcases h with h | ⟨b, c, rfl, hc, hb⟩
  · exact .inl h
  · exact .inr ⟨b, c, rfl, hc, by rw [hk b rfl]; exact hb⟩
theorem rows_mk {α : Type} {E sz : Nat} {f : α → List Value} {σ : Hp} {b n c : Nat} {l : List α} (hl : l.length = n) (hc : n ≤ c) (hb : σ b = some (.row (l.flatMap f) (c * sz) E)) : RowsAt E sz f σ (.slice (some ⟨b, 0, none⟩) n c) l := by
  subst hl; exact .inr ⟨b, c, rfl, hc, hb⟩
/-- What was known and is not of F is as it was. -/
def Same (F : Nat → Prop) (σ σ' : Hp) : Prop := ∀ k, σ k ≠ none → ¬ F k → σ' k = σ k
theorem Same.refl (F : Nat → Prop) (σ : Hp) : Same F σ σ := fun _ _ _ => rfl
theorem Same.updNew {F : Nat → Prop} {σ σ' : Hp} {b : Nat} {o : Blk} (hb : σ b = none) (h : Same F σ σ') : Same F σ (upd σ' b o) := fun k hk hf => by
  rw [upd_ne _ _ (fun e => by subst e; exact hk hb)]; exact h k hk hf
theorem Same.updIn {F : Nat → Prop} {σ σ' : Hp} {b : Nat} {o : Blk} (hb : F b) (h : Same F σ σ') : Same F σ (upd σ' b o) := fun k hk hf => by
  rw [upd_ne _ _ (fun e => by subst e; exact hf hb)]; exact h k hk hf
theorem Same.both {F : Nat → Prop} {σ σ' : Hp} {b : Nat} {o o' : Blk} (hb : F b) (h : Same F σ σ') : Same F (upd σ b o) (upd σ' b o') := fun k hk hf => by
  have hne : k ≠ b := fun e => by subst e; exact hf hb
  rw [upd_ne _ _ hne] at hk ⊢
  rw [upd_ne _ _ hne]; exact h k hk hf
theorem Same.eq {F : Nat → Prop} {σ σ' : Hp} {b : Nat} {o : Blk} (h : Same F σ σ') : Same F (upd σ b o) (upd σ' b o) := fun k hk hf => by
  by_cases hne : k = b
  · subst hne; rw [upd_same, upd_same]
  · rw [upd_ne _ _ hne] at hk ⊢
    rw [upd_ne _ _ hne]; exact h k hk hf
theorem RowsAt.sameF {α : Type} {E sz : Nat} {f : α → List Value} {σ σ' : Hp} {v : Value} {l : List α} {F : Nat → Prop} (h : RowsAt E sz f σ v l) (hs : Same F σ σ') (hF : ∀ k, blk v = some k → ¬ F k) : RowsAt E sz f σ' v l :=
  h.keep fun k hk => hs k (by
    rcases h with ⟨rfl, _⟩ | ⟨b, c, rfl, _, hb⟩
    · cases hk
    · cases hk; rw [hb]; simp) (hF k hk)
theorem RowsAt.notCells {α : Type} {E sz : Nat} {f : α → List Value} {σ : Hp} {v : Value} {l : List α} (h : RowsAt E sz f σ v l) {g : Nat} {cs : List Value} {t : TypeId} (hg : σ g = some (.cells cs t)) : blk v ≠ some g := fun e => by
  rcases h with ⟨rfl, _⟩ | ⟨b, c, rfl, _, hb⟩
  · cases e
  · cases e; rw [hg] at hb; cases hb
theorem Same.trans {F G : Nat → Prop} {σ σ1 σ2 : Hp} (h : Same F σ σ1) (k : Same G σ1 σ2) (hG : ∀ i, σ i ≠ none → G i → F i) : Same F σ σ2 := fun i hi hf => by
  rw [k i (by rw [h i hi hf]; exact hi) (fun g => hf (hG i hi g)), h i hi hf]
theorem RowsAt.slice {α : Type} {E sz : Nat} {f : α → List Value} {σ : Hp} {v : Value} {l : List α} (h : RowsAt E sz f σ v l) : ∃ a c, v = .slice a l.length c := by
  rcases h with ⟨rfl, rfl⟩ | ⟨b, c, rfl, _, _⟩
  · exact ⟨_, _, rfl⟩
  · exact ⟨_, _, rfl⟩
theorem RowsAt.fresh {α : Type} {E sz : Nat} {f : α → List Value} {σ : Hp} {v : Value} {l : List α} (h : RowsAt E sz f σ v l) {b : Nat} (hb : σ b = none) (o : Blk) : RowsAt E sz f (upd σ b o) v l :=
  h.keep fun k hk => upd_ne _ _ fun e => by
    subst e
    rcases h with ⟨rfl, _⟩ | ⟨b, c, rfl, _, hb'⟩
    · cases hk
    · cases hk; rw [hb] at hb'; cases hb'
/-- Made anew: nothing that was known has turned, and v lies in what is new. -/
def Made (σ : Hp) (σ' : Hp) (v : Value) : Prop := Same (fun _ => False) σ σ' ∧ ∀ k, blk v = some k → σ k = none
theorem Made.sub {σ σ' : Hp} {v : Value} (h : Made σ σ' v) : Sub σ σ' := fun k => by
  by_cases e : σ k = none
  · exact .inl e
  · exact .inr (h.1 k e fun x => x).symm
theorem Made.old {σ σ' : Hp} {v : Value} (h : Made σ σ' v) {b : Nat} (hb : σ' b = none) : σ b = none := by
  rcases h.sub b with e | e
  · exact e
  · rw [e]; exact hb
theorem Made.grow {σ σ' : Hp} {v : Value} (h : Made σ σ' v) {b : Nat} (hb : σ' b = none) (o : Blk) : Made σ (upd σ' b o) v := ⟨h.1.updNew (h.old hb), h.2⟩
theorem mrg_first {σ σ₁ : Hp} (h : Sub σ σ₁) : mrg σ σ₁ σ = σ₁ := by
  funext k
  unfold mrg
  rcases h k with e | e
  · rw [e]; cases σ₁ k <;> rfl
  · rw [← e]; cases σ k <;> rfl
/-- A call that makes, first in a region that draws. -/
theorem gcallF_first {P : Program} {f : FuncId} {args : List Value} {σ : Hp} {R K : Value → Hp → Prop} {δ : Dep K} (h : ACalls P f args.toArray σ R) (hs : ∀ v σ₁, R v σ₁ → Sub σ σ₁) (hk : ∀ v σ₁, R v σ₁ → K v σ₁) : gcallF P f args σ σ K δ :=
  ⟨R, h, fun v σ₁ hr _ => ⟨hs v σ₁ hr, fun _ => by rw [mrg_first (hs v σ₁ hr)]; exact hk v σ₁ hr⟩⟩
/-- A slice that is only read: each element's cells. -/
def RoRows {α : Type} (sz : Nat) (f : α → List Value) (σ : Hp) (v : Value) (l : List α) : Prop :=
  ∃ A c, v = .slice A l.length c ∧ ∀ i x, l[i]? = some x → ∃ b o, A = some ⟨b, o, none⟩ ∧ rdn σ b (o + i * sz) sz = some (f x)
theorem RoRows.sub {α : Type} {sz : Nat} {f : α → List Value} {σ σ' : Hp} {v : Value} {l : List α} (h : RoRows sz f σ v l) (hs : Sub σ σ') : RoRows sz f σ' v l := by
  obtain ⟨A, c, rfl, h⟩ := h
  exact ⟨A, c, rfl, fun i x hx => by obtain ⟨b, o, e, k⟩ := h i x hx; exact ⟨b, o, e, rdn_sub hs k⟩⟩
set_option maxRecDepth 100000
theorem evP : type_of% (And.intro @opsF_r (And.intro @dopsF_r (And.intro @codeF_drawx (And.intro @opF_callv (And.intro @dopF_cv (And.intro @ev_func (And.intro @opF_mkmap (And.intro @opF_mks (And.intro @opF_look (And.intro @opF_mset (And.intro @opF_fnl (And.intro @opF_bys (And.intro @opsF_nil (And.intro @opsF_none (And.intro @opsF_some (And.intro @opF_raw (And.intro @opF_mv (And.intro @opF_pick (And.intro @opF_nilc (And.intro @opF_fa (And.intro @opF_ia (And.intro @opF_bin (And.intro @opF_eqs (And.intro @opF_nt (And.intro @opF_ext (And.intro @opF_len (And.intro @opF_bld (And.intro @opF_conv (And.intro @opF_ixs (And.intro @opF_mx (And.intro @opF_eqa (And.intro @opF_fld (And.intro @opF_new (And.intro @opF_box (And.intro @opF_lit (And.intro @opF_ld (And.intro @opF_lds (And.intro @opF_st (And.intro @opF_call (And.intro @opF_app (And.intro @dopsF_nil (And.intro @dopsF_none (And.intro @dopsF_some (And.intro @dopF_p (And.intro @dopF_l (And.intro @dopF_f (And.intro @dopF_r (And.intro @dopF_u (And.intro @dopF_w (And.intro @dopF_m (And.intro @dopF_c (And.intro @dopF_g (And.intro @codeF_skip (And.intro @codeF_reg (And.intro @codeF_draw (And.intro @codeF_seq (And.intro @codeF_cond (And.intro @codeF_block (And.intro @codeF_loop (And.intro @codeF_exit (And.intro @codeF_ret (And.intro @thn_normal (And.intro @thn_exit (And.intro @thn_ret (And.intro @inBlk_normal (And.intro @inBlk_ret (And.intro @inBlk_exit (And.intro @fin_normalF (And.intro @fin_retF (And.intro @finF_eq (And.intro @putO_get (And.intro @putO_no (And.intro @ev_tmp (And.intro @ev_const (And.intro @init_zero (@init_succ)))))))))))))))))))))))))))))))))))))))))))))))))))))))))))))))))))))))))))) := And.intro @opsF_r (And.intro @dopsF_r (And.intro @codeF_drawx (And.intro @opF_callv (And.intro @dopF_cv (And.intro @ev_func (And.intro @opF_mkmap (And.intro @opF_mks (And.intro @opF_look (And.intro @opF_mset (And.intro @opF_fnl (And.intro @opF_bys (And.intro @opsF_nil (And.intro @opsF_none (And.intro @opsF_some (And.intro @opF_raw (And.intro @opF_mv (And.intro @opF_pick (And.intro @opF_nilc (And.intro @opF_fa (And.intro @opF_ia (And.intro @opF_bin (And.intro @opF_eqs (And.intro @opF_nt (And.intro @opF_ext (And.intro @opF_len (And.intro @opF_bld (And.intro @opF_conv (And.intro @opF_ixs (And.intro @opF_mx (And.intro @opF_eqa (And.intro @opF_fld (And.intro @opF_new (And.intro @opF_box (And.intro @opF_lit (And.intro @opF_ld (And.intro @opF_lds (And.intro @opF_st (And.intro @opF_call (And.intro @opF_app (And.intro @dopsF_nil (And.intro @dopsF_none (And.intro @dopsF_some (And.intro @dopF_p (And.intro @dopF_l (And.intro @dopF_f (And.intro @dopF_r (And.intro @dopF_u (And.intro @dopF_w (And.intro @dopF_m (And.intro @dopF_c (And.intro @dopF_g (And.intro @codeF_skip (And.intro @codeF_reg (And.intro @codeF_draw (And.intro @codeF_seq (And.intro @codeF_cond (And.intro @codeF_block (And.intro @codeF_loop (And.intro @codeF_exit (And.intro @codeF_ret (And.intro @thn_normal (And.intro @thn_exit (And.intro @thn_ret (And.intro @inBlk_normal (And.intro @inBlk_ret (And.intro @inBlk_exit (And.intro @fin_normalF (And.intro @fin_retF (And.intro @finF_eq (And.intro @putO_get (And.intro @putO_no (And.intro @ev_tmp (And.intro @ev_const (And.intro @init_zero (@init_succ)))))))))))))))))))))))))))))))))))))))))))))))))))))))))))))))))))))))))))
theorem evQ : type_of% (And.intro @binv.eq_1 (And.intro @binv.eq_2 (And.intro @binv.eq_3 (And.intro @binv.eq_4 (And.intro @binv.eq_5 (And.intro @binv.eq_6 (And.intro @binv.eq_7 (And.intro @binv.eq_8 (And.intro @binv.eq_9 (And.intro @binv.eq_10 (And.intro @binv.eq_11 (And.intro @binv.eq_12 (And.intro @binv.eq_13 (And.intro @binv.eq_14 (And.intro @binv.eq_15 (And.intro @binv.eq_16 (And.intro @binv.eq_17 (And.intro @binv.eq_18 (And.intro @binv.eq_19 (And.intro @eqv.eq_1 (And.intro @eqv.eq_2 (And.intro @eqv.eq_3 (And.intro @eqv.eq_4 (And.intro @eqv.eq_5 (And.intro @lenv.eq_1 (And.intro @lenv.eq_2 (And.intro @fillO.eq_1 (And.intro @fillO.eq_2 (And.intro @fldv.eq_1 (And.intro @fldv.eq_2 (And.intro @Sp.eqa.eq_1 (And.intro @eqL.eq_1 (And.intro @eqL.eq_2 (And.intro @eq1.eq_1 (And.intro @eq1.eq_2 (And.intro @eq1.eq_3 (And.intro @if_true.{1} (And.intro @if_false.{1} (And.intro @eq_self.{1} (And.intro @meet_self (And.intro @meet_same (And.intro @mread_nil_s (And.intro @mread_nil_i (And.intro @mread_nil_n (And.intro @mread_mp (And.intro @mread_mp_n (And.intro @mread_im (And.intro @mread_im_n (And.intro @mread_ne (And.intro @mturn_mp_put (And.intro @mturn_mp_del (And.intro @mturn_mp_clr (And.intro @mturn_im_put (And.intro @mturn_im_del (And.intro @mturn_im_clr (And.intro @mturn_ne (And.intro @lookv_t (And.intro @lookv_f (And.intro @lf_rune_eq (And.intro @lf_clo (And.intro @lf_ifn_nil (And.intro @lf_ifn_some (And.intro @u8s_nil (And.intro @u8s_cons (And.intro @cl_map (And.intro @one_map (And.intro @Option.getD_none.{0} (And.intro @Option.isSome_none.{0} (And.intro @Option.map_some.{0,0} (And.intro @List.map_cons.{0,0} (And.intro @List.map_nil.{0,0} (And.intro @runF_eq (And.intro @someF_eq (And.intro @ptrF_eq (And.intro @boolF_eq (And.intro @sliceF_eq (And.intro @i64F_eq (And.intro @tupleF_eq (And.intro @intF_eq (And.intro @strF_eq (And.intro @condF_true (And.intro @condF_false (And.intro @guardF_bool (And.intro @guardF_not (And.intro @guardF_undef (And.intro @onPtrO_mk (And.intro @cl_int (And.intro @cl_bool (And.intro @cl_string (And.intro @cl_pointer (And.intro @cl_slice (And.intro @cl_agg (And.intro @one_int (And.intro @one_bool (And.intro @one_string (And.intro @one_pointer (And.intro @one_slice (And.intro @rd_same (And.intro @rd_row (And.intro @rd_ne (And.intro @rdn_same (And.intro @rdn_row (And.intro @rdn_ne (And.intro @wr_same (And.intro @wr_row (And.intro @wr_ne (And.intro @rval_tmp (And.intro @rval_one (And.intro @rval_agg (And.intro @rvals_nil (And.intro @rvals_cons (And.intro @whole_one (And.intro @whole_nil (And.intro @whole_two (And.intro @seg_zero (And.intro @seg_cons (And.intro @seg_skip (And.intro @upd_upd (And.intro @set_same (And.intro @set_ne (And.intro @set_set (And.intro @none_upd (And.intro @none_set (And.intro @and_imp (And.intro @not_false_eq_true (And.intro @not_true_eq_false (And.intro @List.length_cons.{0} (And.intro @List.length_nil.{0} (And.intro @List.all_cons.{0} (And.intro @List.all_nil.{0} (And.intro @List.take_succ_cons.{0} (And.intro @List.take_zero.{0} (And.intro @List.take_nil.{0} (And.intro @List.drop_succ_cons.{0} (And.intro @List.drop_zero.{0} (And.intro @List.drop_nil.{0} (And.intro @List.cons_append.{0} (And.intro @List.nil_append.{0} (And.intro @List.append_nil.{0} (And.intro @List.getElem?_cons_succ.{0} (And.intro @List.getElem?_cons_zero.{0} (And.intro @List.getElem?_toArray.{0} (And.intro @List.map_cons.{0,0} (And.intro @List.map_nil.{0,0} (And.intro @Option.bind_some.{0,0} (And.intro @Option.map_some.{0,0} (And.intro @Bool.and_true (And.intro @Bool.true_and (And.intro @Bool.and_false (And.intro @Bool.false_and (And.intro @Bool.or_true (And.intro @Bool.true_or (And.intro @Bool.or_false (And.intro @Bool.false_or (And.intro @Bool.and_self (And.intro @Nat.zero_add (And.intro @Nat.add_zero (And.intro @true_and (And.intro @and_true (And.intro @Bool.not_true (And.intro @Bool.not_false (And.intro @beq_self_eq_true.{0} (And.intro @Bool.bne_true (And.intro @Bool.bne_false (And.intro @Option.isNone_none.{0} (And.intro @Option.isNone_some.{0} (And.intro @Bool.false_eq_true (((And.intro @decide_true (And.intro @decide_false (And.intro @Bool.true_bne (And.intro @Bool.false_bne (And.intro @bne_self_eq_false.{0} (And.intro @Bool.true_beq (And.intro @Bool.false_beq (And.intro @beq_true (And.intro @beq_false (And.intro @Int.toNat_natCast (And.intro @Int.natCast_nonneg (And.intro @int_beq (And.intro @int_bne (And.intro @str_beq (And.intro @decide_not (And.intro @Int.natCast_zero (@Int.cast_ofNat_Int)))))))))))))))))))))))))))))))))))))))))))))))))))))))))))))))))))))))))))))))))))))))))))))))))))))))))))))))))))))))))))))))))))))))))))))))))))))))))))))))))))))))))))))))))))))))))) := And.intro @binv.eq_1 (And.intro @binv.eq_2 (And.intro @binv.eq_3 (And.intro @binv.eq_4 (And.intro @binv.eq_5 (And.intro @binv.eq_6 (And.intro @binv.eq_7 (And.intro @binv.eq_8 (And.intro @binv.eq_9 (And.intro @binv.eq_10 (And.intro @binv.eq_11 (And.intro @binv.eq_12 (And.intro @binv.eq_13 (And.intro @binv.eq_14 (And.intro @binv.eq_15 (And.intro @binv.eq_16 (And.intro @binv.eq_17 (And.intro @binv.eq_18 (And.intro @binv.eq_19 (And.intro @eqv.eq_1 (And.intro @eqv.eq_2 (And.intro @eqv.eq_3 (And.intro @eqv.eq_4 (And.intro @eqv.eq_5 (And.intro @lenv.eq_1 (And.intro @lenv.eq_2 (And.intro @fillO.eq_1 (And.intro @fillO.eq_2 (And.intro @fldv.eq_1 (And.intro @fldv.eq_2 (And.intro @Sp.eqa.eq_1 (And.intro @eqL.eq_1 (And.intro @eqL.eq_2 (And.intro @eq1.eq_1 (And.intro @eq1.eq_2 (And.intro @eq1.eq_3 (And.intro @if_true.{1} (And.intro @if_false.{1} (And.intro @eq_self.{1} (And.intro @meet_self (And.intro @meet_same (And.intro @mread_nil_s (And.intro @mread_nil_i (And.intro @mread_nil_n (And.intro @mread_mp (And.intro @mread_mp_n (And.intro @mread_im (And.intro @mread_im_n (And.intro @mread_ne (And.intro @mturn_mp_put (And.intro @mturn_mp_del (And.intro @mturn_mp_clr (And.intro @mturn_im_put (And.intro @mturn_im_del (And.intro @mturn_im_clr (And.intro @mturn_ne (And.intro @lookv_t (And.intro @lookv_f (And.intro @lf_rune_eq (And.intro @lf_clo (And.intro @lf_ifn_nil (And.intro @lf_ifn_some (And.intro @u8s_nil (And.intro @u8s_cons (And.intro @cl_map (And.intro @one_map (And.intro @Option.getD_none.{0} (And.intro @Option.isSome_none.{0} (And.intro @Option.map_some.{0,0} (And.intro @List.map_cons.{0,0} (And.intro @List.map_nil.{0,0} (And.intro @runF_eq (And.intro @someF_eq (And.intro @ptrF_eq (And.intro @boolF_eq (And.intro @sliceF_eq (And.intro @i64F_eq (And.intro @tupleF_eq (And.intro @intF_eq (And.intro @strF_eq (And.intro @condF_true (And.intro @condF_false (And.intro @guardF_bool (And.intro @guardF_not (And.intro @guardF_undef (And.intro @onPtrO_mk (And.intro @cl_int (And.intro @cl_bool (And.intro @cl_string (And.intro @cl_pointer (And.intro @cl_slice (And.intro @cl_agg (And.intro @one_int (And.intro @one_bool (And.intro @one_string (And.intro @one_pointer (And.intro @one_slice (And.intro @rd_same (And.intro @rd_row (And.intro @rd_ne (And.intro @rdn_same (And.intro @rdn_row (And.intro @rdn_ne (And.intro @wr_same (And.intro @wr_row (And.intro @wr_ne (And.intro @rval_tmp (And.intro @rval_one (And.intro @rval_agg (And.intro @rvals_nil (And.intro @rvals_cons (And.intro @whole_one (And.intro @whole_nil (And.intro @whole_two (And.intro @seg_zero (And.intro @seg_cons (And.intro @seg_skip (And.intro @upd_upd (And.intro @set_same (And.intro @set_ne (And.intro @set_set (And.intro @none_upd (And.intro @none_set (And.intro @and_imp (And.intro @not_false_eq_true (And.intro @not_true_eq_false (And.intro @List.length_cons.{0} (And.intro @List.length_nil.{0} (And.intro @List.all_cons.{0} (And.intro @List.all_nil.{0} (And.intro @List.take_succ_cons.{0} (And.intro @List.take_zero.{0} (And.intro @List.take_nil.{0} (And.intro @List.drop_succ_cons.{0} (And.intro @List.drop_zero.{0} (And.intro @List.drop_nil.{0} (And.intro @List.cons_append.{0} (And.intro @List.nil_append.{0} (And.intro @List.append_nil.{0} (And.intro @List.getElem?_cons_succ.{0} (And.intro @List.getElem?_cons_zero.{0} (And.intro @List.getElem?_toArray.{0} (And.intro @List.map_cons.{0,0} (And.intro @List.map_nil.{0,0} (And.intro @Option.bind_some.{0,0} (And.intro @Option.map_some.{0,0} (And.intro @Bool.and_true (And.intro @Bool.true_and (And.intro @Bool.and_false (And.intro @Bool.false_and (And.intro @Bool.or_true (And.intro @Bool.true_or (And.intro @Bool.or_false (And.intro @Bool.false_or (And.intro @Bool.and_self (And.intro @Nat.zero_add (And.intro @Nat.add_zero (And.intro @true_and (And.intro @and_true (And.intro @Bool.not_true (And.intro @Bool.not_false (And.intro @beq_self_eq_true.{0} (And.intro @Bool.bne_true (And.intro @Bool.bne_false (And.intro @Option.isNone_none.{0} (And.intro @Option.isNone_some.{0} (And.intro @Bool.false_eq_true (((And.intro @decide_true (And.intro @decide_false (And.intro @Bool.true_bne (And.intro @Bool.false_bne (And.intro @bne_self_eq_false.{0} (And.intro @Bool.true_beq (And.intro @Bool.false_beq (And.intro @beq_true (And.intro @beq_false (And.intro @Int.toNat_natCast (And.intro @Int.natCast_nonneg (And.intro @int_beq (And.intro @int_bne (And.intro @str_beq (And.intro @decide_not (And.intro @Int.natCast_zero (@Int.cast_ofNat_Int)))))))))))))))))))))))))))))))))))))))))))))))))))))))))))))))))))))))))))))))))))))))))))))))))))))))))))))))))))))))))))))))))))))))))))))))))))))))))))))))))))))))))))))))))))))))))
end Go.Sp

-- SpO
namespace Go.Sp.Open
open Go.RowKit Go.ChangeShapes Go.WideShapes
/-- How a value of a type lies in cells: so many, and these. -/
structure Kd (α : Type) where
  sz : Nat
  K : World → α → List Value → Prop
def Kd.int (k : IntKind) : Kd Int := ⟨1, fun _ n cs => cs = [.int k n]⟩
def Kd.bool : Kd Bool := ⟨1, fun _ b cs => cs = [.bool b]⟩
def Kd.string : Kd ByteArray := ⟨1, fun _ s cs => cs = [.string s]⟩
def Kd.pair {α β : Type} (a : Kd α) (b : Kd β) : Kd (α × β) := ⟨a.sz + b.sz, fun w x cs => ∃ c1 c2, cs = c1 ++ c2 ∧ a.K w x.1 c1 ∧ b.K w x.2 c2⟩
def Kd.C {α : Type} (d : Kd α) (w : World) (A : Option Addr) (xs : List α) : Prop := ∀ j x, xs[j]? = some x → ∃ a, A = some a ∧ ∃ cs, cs.length = d.sz ∧ d.K w x cs ∧ ∀ i u, cs[i]? = some u → w.cell? (a.add (j * d.sz + i)) = some u
def Kd.slice {α : Type} (d : Kd α) : Kd (List α) := ⟨1, fun w xs cs => ∃ A c, cs = [.slice A xs.length c] ∧ xs.length ≤ c ∧ d.C w A xs⟩
/-- The kind of a structure of mine, out of its cells. -/
def Kd.of {α : Type} (n : Nat) (f : α → List Value) : Kd α := ⟨n, fun _ x cs => cs = f x⟩

def Small {H : Type} (P : Program) (t : TypeId) (d : DataW H) : Prop := ∀ n ∈ d.weights P t, n ≤ 140737488351232
def Opens (P : Program) (t : TypeId) {α : Type} (d : Kd α) (G : α → Prop) : Prop :=
  ∀ (H : Type) (enc : TypeId × Value → H) (w : World) (base : Nat) (spare : Nat → Bool) (held : Bool) (fuel : Nat) (cs : List Value) (x : DataW H × List MemPlace),
    DataW.trod enc P w base spare held fuel t cs = some x → Small P t x.1 → ∃ a : α, d.K w a cs ∧ G a

theorem opens_bool {P : Program} {t : TypeId} (ht : P.underlying t = some .bool) : Opens P t Kd.bool (fun _ => True) := by
  intro H enc w base spare held fuel cs x h _
  obtain ⟨b, rfl, _⟩ := DataW.trod_bool ht h
  exact ⟨b, rfl, trivial⟩
theorem opens_string {P : Program} {t : TypeId} (ht : P.underlying t = some .string) : Opens P t Kd.string (fun s => s.size ≤ 140737488351232) := by
  intro H enc w base spare held fuel cs x h hs
  obtain ⟨s, rfl, rfl, _⟩ := DataW.trod_string ht h
  refine ⟨s, rfl, ?_⟩
  have := hs s.data.toList.length (by simp [DataW.weights])
  rwa [Array.length_toList] at this
theorem mem_weightsAll {H : Type} {P : Program} {e : TypeId} {d : DataW H} : ∀ {l : List (DataW H)}, d ∈ l → ∀ n ∈ d.weights P e, n ∈ DataW.weightsAll P e l
  | _ :: l, h, n, hn => by
    unfold DataW.weightsAll
    rcases List.mem_cons.1 h with h | h
    · subst h
      exact List.mem_append_left _ hn
    · exact List.mem_append_right _ (mem_weightsAll h n hn)
theorem mapM_get {α : Type} {f : Nat → Option α} : ∀ {l : List Nat} {cs : List α}, l.mapM f = some cs → cs.length = l.length ∧ ∀ (j i : Nat), l[j]? = some i → f i = cs[j]?
  | [], cs, h => by
    simp at h
    subst h
    exact ⟨rfl, fun j i hj => by simp at hj⟩
  | a :: l, cs, h => by
    rw [List.mapM_cons] at h
    cases ha : f a with
    | none => simp [ha] at h
    | some c =>
      cases hl : l.mapM f with
      | none => simp [ha, hl] at h
      | some r =>
        simp [ha, hl] at h
        subst h
        obtain ⟨h1, h2⟩ := mapM_get hl
        refine ⟨by simp [h1], fun j i hj => ?_⟩
        cases j with
        | zero => simp at hj; subst hj; simpa using ha
        | succ j => simp at hj; simpa using h2 j i hj
theorem cells_get {w : World} {base : Nat} {a : Addr} {n : Nat} {cs : List Value} (h : w.cells? base a n = some cs) : cs.length = n ∧ ∀ j u, cs[j]? = some u → w.cell? (a.add j) = some u := by
  unfold World.cells? at h
  split at h
  · obtain ⟨h1, h2⟩ := mapM_get h
    simp only [List.length_range] at h1
    refine ⟨h1, fun j u hu => ?_⟩
    have hj : j < n := by have := (List.getElem?_eq_some_iff.1 hu).1; omega
    rw [h2 j j (by simp [hj]), hu]
  · cases h
theorem gather {α : Type} {Q : Nat → α → Prop} : ∀ {n : Nat}, (∀ i, i < n → ∃ a, Q i a) → ∃ xs : List α, xs.length = n ∧ ∀ i p, xs[i]? = some p → Q i p
  | 0, _ => ⟨[], rfl, fun i p hp => by simp at hp⟩
  | n + 1, one => by
    obtain ⟨xs, h1, h2⟩ := gather (n := n) (fun i hi => one i (by omega))
    obtain ⟨p, hp⟩ := one n (by omega)
    refine ⟨xs ++ [p], by simp [h1], fun i q hq => ?_⟩
    by_cases hi : i < n
    · rw [List.getElem?_append_left (by omega)] at hq
      exact h2 i q hq
    · have hi2 : i = n := by
        have := (List.getElem?_eq_some_iff.1 hq).1
        simp at this
        omega
      subst hi2
      rw [List.getElem?_append_right (by omega), h1] at hq
      simp at hq
      subst hq
      exact hp
theorem add_add (a : Addr) (i j : Nat) : (a.add i).add j = a.add (i + j) := by
  unfold Addr.add
  by_cases h : i = 0 <;> by_cases h2 : j = 0 <;> simp_all <;> omega
theorem opens_slice {P : Program} {t e : TypeId} {α : Type} {d : Kd α} {G : α → Prop} (B : Nat) (ht : P.underlying t = some (.slice e)) (hc : P.cellsOf e = d.sz) (hB : P.bytesOf e = B) (he : Opens P e d G) :
    Opens P t (Kd.slice d) (fun xs => xs.length * B ≤ 140737488351232 ∧ ∀ x ∈ xs, G x) := by
  intro H enc w base spare held fuel cs x h hs
  rcases DataW.trod_slice ht h with ⟨rfl, rfl⟩ | ⟨a, len, cap, elems, rest, n, _, rfl, rfl, _, hl, hm, hlen, hel, _, _⟩
  · exact ⟨[], ⟨none, 0, rfl, Nat.le_refl _, fun j x hx => by simp at hx⟩, by simp, fun x hx => by cases hx⟩
  · have hw : ((elems.map (·.1)).length + (rest.map (·.1)).length) * P.bytesOf e ≤ 140737488351232 := hs _ (by simp [DataW.weights, ht])
    have each : ∀ y ∈ elems, Small P e y.1 := fun y hy m hm2 => hs m (by
      simp only [DataW.weights, ht]
      exact List.mem_cons_of_mem _ (List.mem_append_left _ (mem_weightsAll (List.mem_map_of_mem hy) m hm2)))
    have one : ∀ i, i < len → ∃ a' : α, (∃ c, c.length = d.sz ∧ d.K w a' c ∧ ∀ j u, c[j]? = some u → w.cell? (a.add (i * d.sz + j)) = some u) ∧ G a' := by
      intro i hi
      have h1 := hel i hi
      rw [List.getElem?_eq_getElem (by omega)] at h1
      obtain ⟨c, hc1, hc2⟩ := Option.bind_eq_some_iff.1 h1
      obtain ⟨hl1, hcell⟩ := cells_get hc1
      obtain ⟨a', hk, hg⟩ := he H enc w base spare held n c _ hc2 (each _ (List.getElem_mem _))
      refine ⟨a', ⟨c, by rw [hl1, hc], hk, fun j u hu => ?_⟩, hg⟩
      rw [← add_add, ← hc]
      exact hcell j u hu
    obtain ⟨xs, hx1, hx2⟩ := gather one
    refine ⟨xs, ⟨some a, cap, by rw [hx1], by omega, fun j p hp => ⟨a, rfl, (hx2 j p hp).1⟩⟩, ?_, fun x hx => ?_⟩
    · rw [hB] at hw
      simp only [List.length_map] at hw
      exact Nat.le_trans (Nat.mul_le_mul_right _ (by omega)) hw
    · obtain ⟨i, hi, rfl⟩ := List.getElem_of_mem hx
      exact (hx2 i _ (List.getElem?_eq_getElem hi)).2
theorem opens_iso {P : Program} {t : TypeId} {α β : Type} {d : Kd α} {d' : Kd β} {G : α → Prop} {G' : β → Prop} (f : α → β) (hK : ∀ w a cs, d.K w a cs → d'.K w (f a) cs) (hG : ∀ a, G a → G' (f a)) (h : Opens P t d G) : Opens P t d' G' := by
  intro H enc w base spare held fuel cs x hx hs
  obtain ⟨a, hk, hg⟩ := h H enc w base spare held fuel cs x hx hs
  exact ⟨f a, hK w a cs hk, hG a hg⟩
theorem opens_rel {P : Program} {t : TypeId} {α β : Type} {d : Kd α} {d' : Kd β} {G : α → Prop} {G' : β → Prop} (h : Opens P t d G) (hr : ∀ w a cs, d.K w a cs → G a → ∃ b, d'.K w b cs ∧ G' b) : Opens P t d' G' := by
  intro H enc w base spare held fuel cs x hx hs
  obtain ⟨a, hk, hg⟩ := h H enc w base spare held fuel cs x hx hs
  exact hr w a cs hk hg
/-- The fields of a struct from the offset o on. -/
def OpensF (P : Program) (fs : List Field) (o : Nat) {α : Type} (d : Kd α) (G : α → Prop) : Prop :=
  ∀ (H : Type) (enc : TypeId × Value → H) (w : World) (base : Nat) (spare : Nat → Bool) (held : Bool) (n : Nat) (cs : List Value) (xs : List (DataW H × List MemPlace)),
    cs.length = o + d.sz → xs.length = fs.length → (∀ (i : Nat) (f : Field), fs[i]? = some f → DataW.trod enc P w base spare held n f.type ((cs.drop f.offset).take (P.cellsOf f.type)) = xs[i]?) →
    (∀ m ∈ DataW.weightsEach P (fs.map (·.type)) (xs.map (·.1)), m ≤ 140737488351232) → ∃ a : α, d.K w a (cs.drop o) ∧ G a
theorem opensF_one {P : Program} {f : Field} {o : Nat} {α : Type} {d : Kd α} {G : α → Prop} (ho : f.offset = o) (hc : P.cellsOf f.type = d.sz) (h : Opens P f.type d G) : OpensF P [f] o d G := by
  intro H enc w base spare held n cs xs hl hx hf hw
  match xs, hx with
  | [y], _ =>
    have h0 : DataW.trod enc P w base spare held n f.type ((cs.drop f.offset).take (P.cellsOf f.type)) = some y := by simpa using hf 0 f rfl
    rw [ho, hc, List.take_of_length_le (by rw [List.length_drop]; omega)] at h0
    exact h H enc w base spare held n _ _ h0 (fun m hm => hw m (by simp [DataW.weightsEach, hm]))
theorem opensF_cons {P : Program} {f : Field} {fs : List Field} {o : Nat} {α β : Type} {a : Kd α} {b : Kd β} {G : α → Prop} {G' : β → Prop} (ho : f.offset = o) (hc : P.cellsOf f.type = a.sz) (h : Opens P f.type a G) (hr : OpensF P fs (o + a.sz) b G') :
    OpensF P (f :: fs) o (Kd.pair a b) (fun x => G x.1 ∧ G' x.2) := by
  intro H enc w base spare held n cs xs hl hx hf hw
  have hl' : cs.length = o + (a.sz + b.sz) := hl
  match xs, hx with
  | y :: ys, hx =>
    have h0 : DataW.trod enc P w base spare held n f.type ((cs.drop f.offset).take (P.cellsOf f.type)) = some y := by simpa using hf 0 f rfl
    rw [ho, hc] at h0
    obtain ⟨x0, hk0, hg0⟩ := h H enc w base spare held n _ _ h0 (fun m hm => hw m (by simp [DataW.weightsEach, hm]))
    obtain ⟨x1, hk1, hg1⟩ := hr H enc w base spare held n cs ys (by omega) (by simpa using hx) (fun i g hi => by simpa using hf (i + 1) g (by simpa using hi)) (fun m hm => hw m (by simp only [List.map_cons, DataW.weightsEach]; exact List.mem_append_right _ hm))
    refine ⟨(x0, x1), ⟨(cs.drop o).take a.sz, cs.drop (o + a.sz), ?_, hk0, hk1⟩, hg0, hg1⟩
    rw [← List.drop_drop]
    exact (List.take_append_drop _ _).symm
theorem opens_struct {P : Program} {t : TypeId} {fs : Array Field} {α : Type} {d : Kd α} {G : α → Prop} (ht : P.underlying t = some (.struct fs)) (hc : P.cellsOf t = d.sz) (h : OpensF P fs.toList 0 d G) : Opens P t d G := by
  intro H enc w base spare held fuel cs x hx hs
  obtain ⟨xs, n, _, rfl, hl, hlen, hf⟩ := DataW.trod_struct ht hx
  obtain ⟨a, hk, hg⟩ := h H enc w base spare held n cs xs (by rw [hl, hc]; omega) (by simpa using hlen) (fun i f hi => hf i f (by simpa using hi)) (fun m hm => hs m (by simpa [DataW.weights, ht] using hm))
  exact ⟨a, by simpa using hk, hg⟩
/-- Argument j's weights out of the row's. -/
theorem small_arg {H : Type} {P : Program} {ts : List TypeId} {ds : List (DataW H)} (hsz : (DataW.weightsEach P ts ds).all (· ≤ reachBytes) = true) {j : Nat} {t : TypeId} {d : DataW H} (ht : ts[j]? = some t) (hd : ds[j]? = some d) : Small P t d := by
  intro n hn
  have := List.all_eq_true.1 hsz _ (DataW.weights_mem_each ht hd n hn)
  have h2 : n ≤ reachBytes := by simpa using this
  exact h2
theorem arg_slice {H : Type} {enc : TypeId × Value → H} {P : Program} {w : World} {r : Reach} {b0 base : Nat} {spare : Nat → Bool} {held : Bool} {t e : TypeId} {α : Type} {d : Kd α} {G : List α → Prop} {v : Value} {x : DataW H} {p : List MemPlace} (ho : Opens P t (Kd.slice d) G) (ht : P.underlying t = some (.slice e)) (hv : Value.okWide P w r b0 t v) (h : DataW.Trod enc P w base spare held t v x p) (hs : Small P t x) :
    ∃ (A : Option Addr) (c : Nat) (xs : List α), v = .slice A xs.length c ∧ xs.length ≤ c ∧ d.C w A xs ∧ G xs := by
  obtain ⟨a, len, cap, rfl⟩ := okWide_slice ht hv
  obtain ⟨fuel, hf⟩ := h
  obtain ⟨xs, ⟨A, c, he, hl, hk⟩, hg⟩ := ho H enc w base spare held fuel _ _ hf hs
  simp [Value.cells] at he
  obtain ⟨rfl, rfl, rfl⟩ := he
  exact ⟨_, _, xs, rfl, hl, hk, hg⟩
/-- All that a world holds, to be read alone. -/
def full (w : World) : Hp := fun k => (w.heap[k]?).map Blk.ro
theorem full_sat (w : World) : Sat (full w) w := fun b o h => by
  unfold full at h
  cases hb : w.heap[b]? with
  | none => rw [hb] at h; cases h
  | some x => rw [hb] at h; cases h; exact rfl
/-- From the known heap to the world. -/
theorem calls_row {P : Program} {f : FuncId} {args : Array Value} {w : World} (h : ACalls P f args (full w) fun v σ' => v = .bool true ∧ σ' = full w) : Calls P f args w fun e w' => e = .returned (.bool true) ∧ Below w.heap.size w w' := by
  refine (h w (full_sat w)).mono ?_
  rintro e w' ⟨v, σ', rfl, hs, hf, rfl, rfl⟩
  refine ⟨rfl, hf.os, hf.tape, hf.output, hf.size, fun k hk => ?_⟩
  have : full w k = some (.ro w.heap[k]) := by unfold full; rw [Array.getElem?_eq_getElem hk]; rfl
  have h1 : w'.heap[k]? = some w.heap[k] := hs k _ this
  rw [h1, Array.getElem?_eq_getElem hk]
theorem ro_rows {α : Type} {n : Nat} {f : α → List Value} {w : World} {A : Option Addr} {c : Nat} {xs : List α} (hn : 0 < n) (h : (Kd.of n f).C w A xs) : RoRows n f (full w) (.slice A xs.length c) xs := by
  refine ⟨A, c, rfl, fun i x hx => ?_⟩
  obtain ⟨a, rfl, cs, hl, rfl, hc⟩ := h i x hx
  have hl : (f x).length = n := hl
  obtain ⟨b, o, sp⟩ := a
  have h0 := hc 0 (f x)[0] (List.getElem?_eq_getElem (by omega))
  have hx0 : ∃ y, xs[0]? = some y := ⟨_, List.getElem?_eq_getElem (by have := (List.getElem?_eq_some_iff.1 hx).1; omega)⟩
  obtain ⟨y, hy⟩ := hx0
  obtain ⟨a2, e2, cs2, hl2, rfl, hc2⟩ := h 0 y hy
  cases e2
  have hl2 : (f y).length = n := hl2
  have h00 := hc2 0 (f y)[0] (List.getElem?_eq_getElem (by omega))
  have hsp : sp = none := by
    cases sp with
    | none => rfl
    | some q =>
      have e : (⟨b, o, some q⟩ : Addr).add (0 * (Kd.of n f).sz + 0) = ⟨b, o, some q⟩ := by simp [Addr.add]
      rw [e] at h00
      simp only [World.cell?, Option.isSome_some, if_true] at h00
      split at h00 <;> cases h00
  subst hsp
  have hb : ∃ c2 t fr, w.heap[b]? = some (.cells c2 t fr) := by
    rw [addr_add] at h0
    unfold World.cell? at h0
    split at h0
    · exact ⟨_, _, _, by assumption⟩
    · cases h0
  obtain ⟨c2, t, fr, hb⟩ := hb
  have hget : ∀ j u, (f x)[j]? = some u → c2[o + (i * n + j)]? = some u := fun j u hu => by
    have := hc j u hu
    rw [addr_add] at this
    simpa [World.cell?, hb, Kd.of] using this
  refine ⟨b, o, rfl, ?_⟩
  have e : full w b = some (.ro (.cells c2 t fr)) := by unfold full; rw [hb]; rfl
  unfold rdn
  rw [e]
  show seg c2.toList (o + i * n) n = some (f x)
  have hlast := hget (n - 1) (f x)[n - 1] (List.getElem?_eq_getElem (by omega))
  have hsz := (Array.getElem?_eq_some_iff.1 hlast).1
  unfold seg
  rw [if_pos (by simp; omega)]
  congr 1
  apply List.ext_getElem?
  intro j
  by_cases hj : j < n
  · rw [List.getElem?_take_of_lt hj, List.getElem?_drop]
    have := hget j (f x)[j] (List.getElem?_eq_getElem (by omega))
    rw [List.getElem?_eq_getElem (l := f x) (by omega), ← this]
    simp [Nat.add_assoc]
  · rw [List.getElem?_eq_none (by simp; omega), List.getElem?_eq_none (by omega)]
theorem u8_range {n : Int} (h : (Lit.int .u8 n).wf = true) : 0 ≤ n ∧ n ≤ 255 := by
  have e1 : IntKind.u8.min = 0 := by decide
  have e2 : IntKind.u8.max = 255 := by decide
  simp [Lit.wf] at h
  omega
end Go.Sp.Open

-- XT3
namespace Go.Proofs.Ytpnghjmphbhkjaa
open Go.Sp
set_option maxRecDepth 100000
def c5_b3 : C := (.block 3 (.seq (.reg [(rO 74 (.mv (.tmp 9))),
 (rO 75 (.mv (.tmp 14))),
 (rO 76 (.bin .add (.tmp 75) (.const (.int .i64 101)))),
 (rO 77 (.mv (.tmp 2))),
 (rO 78 (.mv (.tmp 14))),
 (rO 79 (.ia 2 (.tmp 77) (.tmp 78))),
 (rO 80 (.fa 0 (.tmp 79))),
 (rO 81 (.ld none (.tmp 80))),
 (rO 82 (.mv (.tmp 10))),
 (rO 83 (.call 25 [(.tmp 74), (.tmp 76), (.tmp 81), (.tmp 82)])),
 (rO 10 (.mv (.tmp 83)))])
 (.seq (.seq (.reg [(rO 84 (.mv (.tmp 2))),
 (rO 85 (.mv (.tmp 14))),
 (rO 86 (.ia 2 (.tmp 84) (.tmp 85))),
 (rO 87 (.fa 1 (.tmp 86))),
 (rO 88 (.ld none (.tmp 87))),
 (rO 89 (.len false (.tmp 88))),
 (rO 90 (.bin .lss (.tmp 89) (.const (.int .i64 1)))),
 (rO 91 (.mv (.tmp 90))),
 ⟨(some 92), (.mv (.tmp 2)), (some (91, false))⟩,
 ⟨(some 93), (.mv (.tmp 14)), (some (91, false))⟩,
 ⟨(some 94), (.ia 2 (.tmp 92) (.tmp 93)), (some (91, false))⟩,
 ⟨(some 95), (.fa 1 (.tmp 94)), (some (91, false))⟩,
 ⟨(some 96), (.ld none (.tmp 95)), (some (91, false))⟩,
 ⟨(some 97), (.len false (.tmp 96)), (some (91, false))⟩,
 ⟨(some 98), (.bin .gtr (.tmp 97) (.const (.int .i64 32))), (some (91, false))⟩,
 (rO 99 (.pick (.tmp 91) (.const (.bool true)) (.tmp 98)))])
 (.cond (.tmp 99) (.exit 3)
 .skip))
 (.seq (.reg [(rO 100 (.mv (.tmp 9))),
 (rO 101 (.mv (.tmp 13))),
 (rO 102 (.mv (.tmp 2))),
 (rO 103 (.mv (.tmp 14))),
 (rO 104 (.ia 2 (.tmp 102) (.tmp 103))),
 (rO 105 (.fa 1 (.tmp 104))),
 (rO 106 (.ld none (.tmp 105))),
 (rO 107 (.call 29 [(.tmp 100), (.tmp 101), (.tmp 106)]))])
 (.block 4 (.seq (.reg [(rO 109 (.bin .eql (.tmp 107) (.const (.int .i64 0)))),
 (rO 108 (.mv (.tmp 109)))])
 (.cond (.tmp 108) (.seq (.reg [(rO 8 (.mv (.const (.bool false))))])
 .ret)
 (.seq (.reg [(rO 111 (.bin .eql (.tmp 107) (.const (.int .i64 2)))),
 (rO 110 (.mv (.tmp 111)))])
 (.cond (.tmp 110) (.seq (.reg [(rO 113 (.mv (.tmp 13))),
 (rO 114 (.call 30 [(.tmp 113)])),
 (rO 112 (.mv (.tmp 114))),
 (rO 115 (.ext 0 (.tmp 112))),
 (rO 116 (.ext 1 (.tmp 112))),
 (rO 15 (.mv (.tmp 115))),
 (rO 16 (.mv (.tmp 116)))])
 (.seq (.reg [(rO 117 (.mv (.tmp 16))),
 (rO 118 (.bin .eql (.tmp 117) (.const (.int .i64 20)))),
 (rO 8 (.mv (.tmp 118)))])
 .ret))
 .skip)))))))))
def c5_t3 : C := (.reg [(rO 72 (.mv (.tmp 14))),
 (rO 73 (.bin .add (.tmp 72) (.const (.int .i64 1)))),
 (rO 14 (.mv (.tmp 73)))])
def c5_s3 : C := .seq c5_b3 c5_t3
def c5_b5 : C := (.seq (.reg [(rO 20 (.mv (.const (.int .i64 0))))])
 (.block 5 (.loop (.seq (.seq (.reg [(rO 140 (.mv (.tmp 20))),
 (rO 141 (.mv (.tmp 17))),
 (rO 142 (.len true (.tmp 141))),
 (rO 143 (.bin .lss (.tmp 140) (.tmp 142)))])
 (.cond (.tmp 143) .skip
 (.exit 5)))
 (.seq (.block 6 (.seq (.draw [⟨(rO 146 (.mv (.tmp 10))), .p⟩,
 ⟨(rO 147 (.mv (.tmp 17))), .p⟩,
 ⟨(rO 148 (.mv (.tmp 20))), .p⟩,
 ⟨(rO 149 (.ia 3 (.tmp 147) (.tmp 148))), .p⟩,
 ⟨(rO 150 (.fa 0 (.tmp 149))), .p⟩,
 ⟨(rO 151 (.ld none (.tmp 150))), .l⟩,
 ⟨(rO 152 (.mv (.tmp 18))), .p⟩,
 ⟨(rO 153 (.call 31 [(.tmp 146), (.tmp 151), (.tmp 152)])), .g⟩,
 ⟨(rO 154 (.mv (.tmp 17))), .p⟩,
 ⟨(rO 155 (.mv (.tmp 20))), .p⟩,
 ⟨(rO 156 (.ia 3 (.tmp 154) (.tmp 155))), .p⟩,
 ⟨(rO 157 (.fa 1 (.tmp 156))), .p⟩,
 ⟨(rO 158 (.ld (some 2) (.tmp 157))), .l⟩,
 ⟨(rO 159 (.eqa true [.truth, .text] (.tmp 153) (.tmp 158))), .p⟩])
 (.cond (.tmp 159) (.seq (.reg [(rO 8 (.mv (.const (.bool false))))])
 .ret)
 .skip)))
 (.reg [(rO 144 (.mv (.tmp 20))),
 (rO 145 (.bin .add (.tmp 144) (.const (.int .i64 1)))),
 (rO 20 (.mv (.tmp 145)))]))))))
def c5_t5 : C := (.seq (.reg [(rO 8 (.mv (.const (.bool true))))])
 .ret)
def c5_s5 : C := .seq c5_b5 c5_t5
def c5_b2 : C := (.seq (.reg [(rO 14 (.mv (.const (.int .i64 0))))])
 (.block 2 (.loop (.seq (.seq (.reg [(rO 64 (.mv (.tmp 14))),
 (rO 65 (.mv (.tmp 2))),
 (rO 66 (.len true (.tmp 65))),
 (rO 67 (.bin .lss (.tmp 64) (.tmp 66))),
 (rO 68 (.mv (.tmp 67))),
 ⟨(some 69), (.mv (.tmp 14)), (some (68, true))⟩,
 ⟨(some 70), (.bin .lss (.tmp 69) (.const (.int .i64 100))), (some (68, true))⟩,
 (rO 71 (.pick (.tmp 68) (.tmp 70) (.const (.bool false))))])
 (.cond (.tmp 71) .skip
 (.exit 2)))
 c5_s3))))
def c5_t2 : C := (.seq (.reg [(rO 119 (.mv (.tmp 13))),
 (rO 120 (.call 28 [(.tmp 119)])),
 (rO 121 (.fld none 7 (.tmp 120))),
 (rO 17 (.mv (.tmp 121)))])
 (.seq (.reg [(rO 123 (.mv (.tmp 13))),
 (rO 124 (.call 30 [(.tmp 123)])),
 (rO 122 (.mv (.tmp 124))),
 (rO 125 (.ext 0 (.tmp 122))),
 (rO 126 (.ext 1 (.tmp 122))),
 (rO 18 (.mv (.tmp 125))),
 (rO 19 (.mv (.tmp 126)))])
 (.seq (.seq (.reg [(rO 127 (.mv (.tmp 19))),
 (rO 128 (.bin .neq (.tmp 127) (.const (.int .i64 0)))),
 (rO 129 (.mv (.tmp 128))),
 ⟨(some 130), (.mv (.tmp 18)), (some (129, false))⟩,
 ⟨(some 131), (.mv (.tmp 12)), (some (129, false))⟩,
 ⟨(some 132), (.bin .lss (.tmp 130) (.tmp 131)), (some (129, false))⟩,
 (rO 133 (.pick (.tmp 129) (.const (.bool true)) (.tmp 132))),
 (rO 134 (.mv (.tmp 133))),
 ⟨(some 135), (.mv (.tmp 18)), (some (134, false))⟩,
 ⟨(some 136), (.mv (.tmp 9)), (some (134, false))⟩,
 ⟨(some 137), (.call 26 [(.tmp 136)]), (some (134, false))⟩,
 ⟨(some 138), (.bin .gtr (.tmp 135) (.tmp 137)), (some (134, false))⟩,
 (rO 139 (.pick (.tmp 134) (.const (.bool true)) (.tmp 138)))])
 (.cond (.tmp 139) (.seq (.reg [(rO 8 (.mv (.const (.bool false))))])
 .ret)
 .skip))
 c5_s5)))
def c5_s2 : C := .seq c5_b2 c5_t2
def c5_b0 : C := (.seq (.reg [(rO 11 (.mv (.const (.int .i64 0))))])
 (.block 0 (.loop (.seq (.seq (.reg [(rO 27 (.mv (.tmp 11))),
 (rO 28 (.mv (.tmp 1))),
 (rO 29 (.len true (.tmp 28))),
 (rO 30 (.bin .lss (.tmp 27) (.tmp 29))),
 (rO 31 (.mv (.tmp 30))),
 ⟨(some 32), (.mv (.tmp 11)), (some (31, true))⟩,
 ⟨(some 33), (.bin .lss (.tmp 32) (.const (.int .i64 100))), (some (31, true))⟩,
 (rO 34 (.pick (.tmp 31) (.tmp 33) (.const (.bool false))))])
 (.cond (.tmp 34) .skip
 (.exit 0)))
 (.seq (.block 1 (.reg [(rO 37 (.mv (.tmp 9))),
 (rO 38 (.mv (.tmp 11))),
 (rO 39 (.bin .add (.tmp 38) (.const (.int .i64 1)))),
 (rO 40 (.mv (.tmp 1))),
 (rO 41 (.mv (.tmp 11))),
 (rO 42 (.ia 1 (.tmp 40) (.tmp 41))),
 (rO 43 (.ld none (.tmp 42))),
 (rO 44 (.mv (.tmp 10))),
 (rO 45 (.call 25 [(.tmp 37), (.tmp 39), (.tmp 43), (.tmp 44)])),
 (rO 10 (.mv (.tmp 45)))]))
 (.reg [(rO 35 (.mv (.tmp 11))),
 (rO 36 (.bin .add (.tmp 35) (.const (.int .i64 1)))),
 (rO 11 (.mv (.tmp 36)))]))))))
def c5_t0 : C := (.seq (.reg [(rO 46 (.mv (.tmp 3))),
 (rO 47 (.conv .i64 (.tmp 46))),
 (rO 48 (.mv (.tmp 9))),
 (rO 49 (.call 26 [(.tmp 48)])),
 (rO 50 (.bin .add (.tmp 49) (.const (.int .i64 1)))),
 (rO 51 (.bin .rem (.tmp 47) (.tmp 50))),
 (rO 12 (.mv (.tmp 51)))])
 (.seq (.reg [(rO 52 (.mv (.tmp 12))),
 (rO 53 (.call 27 [(.const (.int .i64 3)), (.const (.int .i64 1)), (.tmp 52)])),
 (rO 13 (.mv (.tmp 53)))])
 (.seq (.seq (.reg [(rO 54 (.mv (.tmp 13))),
 (rO 55 (.eqs false .ptr (.tmp 54) (.const (.pointer none)))),
 (rO 56 (.mv (.tmp 55))),
 ⟨(some 57), (.mv (.tmp 13)), (some (56, false))⟩,
 ⟨(some 58), (.call 28 [(.tmp 57)]), (some (56, false))⟩,
 ⟨(some 59), (.fld (some 2) 2 (.tmp 58)), (some (56, false))⟩,
 ⟨(some 60), (.fld none 0 (.tmp 59)), (some (56, false))⟩,
 ⟨(some 61), (.mv (.tmp 12)), (some (56, false))⟩,
 ⟨(some 62), (.bin .neq (.tmp 60) (.tmp 61)), (some (56, false))⟩,
 (rO 63 (.pick (.tmp 56) (.const (.bool true)) (.tmp 62)))])
 (.cond (.tmp 63) (.seq (.reg [(rO 8 (.mv (.const (.bool false))))])
 .ret)
 .skip))
 c5_s2)))
def c5_s0 : C := .seq c5_b0 c5_t0
/-- vouch/vouchtop.WholeDirect -/
def c5 : C := (.seq (.reg [(rO 8 (.mv (.const (.bool false))))])
 (.seq (.reg [(rO 21 (.mv (.tmp 0))),
 (rO 22 (.conv .i64 (.tmp 21))),
 (rO 23 (.bld [.int .i64 (0), .int .i64 (0), .int .i64 (0), .int .i64 (0), .int .i64 (0), .int .i64 (0), .int .i64 (0), .int .i64 (0)] [(0, 1, (.const (.int .i64 1))), (5, 1, (.tmp 22))])),
 (rO 24 (.call 24 [(.tmp 23)])),
 (rO 9 (.mv (.tmp 24)))])
 (.seq (.seq (.reg [(rO 25 (.mv (.tmp 9))),
 (rO 26 (.eqs false .ptr (.tmp 25) (.const (.pointer none))))])
 (.cond (.tmp 26) (.seq (.reg [(rO 8 (.mv (.const (.bool false))))])
 .ret)
 .skip))
 (.seq (.reg [(rO 10 (.mv (.const (.slice none 0 0))))])
 c5_s0))))
def r5 : List RV := [.tmp 8]
theorem ok5 : FnOk Try.prog 5 160 c5 r5 := ⟨[], _, _, Try.func5, rfl, rfl, by kernel_rfl, by kernel_rfl, by kernel_rfl⟩
/-- vouch/origin.New -/
def c24 : C := (.seq (.reg [(rO 1 (.box 66 (.tmp 0))),
 (rO 2 (.mv (.const (.pointer none))))])
 (.seq (.reg [(rO 3 (.ld (some 8) (.tmp 1))),
 (rO 4 (.call 56 [(.tmp 3)])),
 ⟨none, (.st 8 (.tmp 1) (.tmp 4)), none⟩])
 (.seq (.draw [⟨(rO 5 (.ld (some 8) (.tmp 1))), .l⟩,
 ⟨(rO 6 (.fa 5 (.tmp 1))), .p⟩,
 ⟨(rO 7 (.ld none (.tmp 6))), .l⟩,
 ⟨(rO 8 (.call 7 [(.tmp 7)])), .g⟩,
 ⟨(rO 9 (.call 8 [])), .g⟩,
 ⟨(rO 10 (.mkmap true)), .f⟩,
 ⟨(rO 11 (.bld [.int .i64 (0), .int .i64 (0), .int .i64 (0), .int .i64 (0), .int .i64 (0), .int .i64 (0), .int .i64 (0), .int .i64 (0), .pointer none, .pointer none, .map none] [(0, 8, (.tmp 5)), (8, 1, (.tmp 8)), (9, 1, (.tmp 9)), (10, 1, (.tmp 10))])), .p⟩,
 ⟨(rO 12 (.box 135 (.tmp 11))), .f⟩,
 ⟨(rO 2 (.mv (.tmp 12))), .p⟩])
 .ret)))
def r24 : List RV := [.tmp 2]
theorem ok24 : FnOk Try.prog 24 13 c24 r24 := ⟨[], _, _, Try.func24, rfl, rfl, by kernel_rfl, by kernel_rfl, by kernel_rfl⟩
/-- vouch/vouchtop.commit -/
def c25 : C := (.seq (.reg [(rO 8 (.mv (.const (.slice none 0 0))))])
 (.seq (.seq (.reg [(rO 9 (.mv (.tmp 0))),
 (rO 10 (.mv (.tmp 1))),
 (rO 11 (.mv (.tmp 2))),
 (rO 12 (.bld [.int .i64 (0), .int .i64 (0), .int .i64 (0), .int .i64 (0), .int .i64 (0), .int .i64 (0), .string ⟨#[]⟩, .int .i64 (0), .int .i64 (0), .bool false, .string ⟨#[]⟩, .bool false, .int .i64 (0), .int .i64 (0), .slice none 0 0, .slice none 0 0] [(0, 1, (.const (.int .i64 1))), (5, 1, (.tmp 10)), (14, 1, (.tmp 11))])),
 (rO 13 (.call 57 [(.tmp 9), (.tmp 12)])),
 (rO 14 (.len true (.tmp 13))),
 (rO 15 (.bin .gtr (.tmp 14) (.const (.int .i64 1))))])
 (.cond (.tmp 15) (.seq (.reg [(rO 16 (.mv (.tmp 3))),
 (rO 17 (.mv (.tmp 2))),
 (rO 18 (.lit 35 1 1 [.slice none 0 0] [(0, 1, (.tmp 17))])),
 (rO 19 (.app 35 1 24 (.tmp 16) (.tmp 18))),
 (rO 8 (.mv (.tmp 19)))])
 .ret)
 .skip))
 (.seq (.reg [(rO 20 (.mv (.tmp 3))),
 (rO 8 (.mv (.tmp 20)))])
 .ret)))
def r25 : List RV := [.tmp 8]
theorem ok25 : FnOk Try.prog 25 21 c25 r25 := ⟨[], _, _, Try.func25, rfl, rfl, by kernel_rfl, by kernel_rfl, by kernel_rfl⟩
/-- (*vouch/origin.Origin).Last -/
def c26 : C := (.seq (.reg [(rO 2 (.mv (.const (.int .i64 0))))])
 (.seq (.seq (.reg [(rO 3 (.mv (.tmp 0))),
 (rO 4 (.eqs false .ptr (.tmp 3) (.const (.pointer none))))])
 (.cond (.tmp 4) (.seq (.reg [(rO 2 (.mv (.const (.int .i64 0))))])
 .ret)
 .skip))
 (.seq (.reg [(rO 5 (.mv (.tmp 0))),
 (rO 6 (.nilc (.tmp 5))),
 (rO 7 (.fa 8 (.tmp 6))),
 (rO 8 (.ld none (.tmp 7))),
 (rO 9 (.call 58 [(.tmp 8)])),
 (rO 2 (.mv (.tmp 9)))])
 .ret)))
def r26 : List RV := [.tmp 2]
theorem ok26 : FnOk Try.prog 26 10 c26 r26 := ⟨[], _, _, Try.func26, rfl, rfl, by kernel_rfl, by kernel_rfl, by kernel_rfl⟩
/-- vouch/tx.New -/
def c27 : C := (.seq (.reg [(rO 6 (.mv (.const (.pointer none))))])
 (.seq (.reg [(rO 8 (.mv (.tmp 0))),
 (rO 9 (.mv (.tmp 1))),
 (rO 10 (.mx true (.tmp 9) (.const (.int .i64 1)))),
 (rO 11 (.mx false (.tmp 10) (.const (.int .i64 8)))),
 (rO 12 (.bld [.int .i64 (0), .int .i64 (0), .int .i64 (0), .int .i64 (0), .int .i64 (0), .int .i64 (0), .string ⟨#[]⟩, .int .i64 (0), .int .i64 (0), .slice none 0 0] [(0, 1, (.tmp 8)), (1, 1, (.tmp 11))])),
 (rO 13 (.box 141 (.tmp 12))),
 (rO 7 (.mv (.tmp 13)))])
 (.seq (.reg [(rO 14 (.mv (.tmp 7))),
 (rO 15 (.mv (.tmp 2))),
 (rO 16 (.mx true (.tmp 15) (.const (.int .i64 0)))),
 (rO 17 (.mx false (.tmp 16) (.const (.int .i64 1099511627776)))),
 (rO 18 (.bld [.int .i64 (0), .int .i64 (0)] [(0, 1, (.tmp 17)), (1, 1, (.const (.int .i64 4611686018427387904)))])),
 (rO 19 (.nilc (.tmp 14))),
 (rO 20 (.fa 2 (.tmp 19))),
 (rO 21 (.fa 2 (.tmp 20))),
 ⟨none, (.st 2 (.tmp 21) (.tmp 18)), none⟩])
 (.seq (.reg [(rO 22 (.mv (.tmp 7))),
 (rO 6 (.mv (.tmp 22)))])
 .ret))))
def r27 : List RV := [.tmp 6]
theorem ok27 : FnOk Try.prog 27 23 c27 r27 := ⟨[], _, _, Try.func27, rfl, rfl, by kernel_rfl, by kernel_rfl, by kernel_rfl⟩
/-- (*vouch/tx.Tx).View -/
def c28 : C := (.seq (.reg [(rO 2 (.new 74 [.int .i64 (0), .int .i64 (0), .int .i64 (0), .int .i64 (0), .string ⟨#[]⟩, .int .i64 (0), .int .i64 (0), .slice none 0 0]))])
 (.seq (.seq (.reg [(rO 4 (.mv (.tmp 0))),
 (rO 5 (.eqs false .ptr (.tmp 4) (.const (.pointer none))))])
 (.cond (.tmp 5) (.seq (.reg [(rO 6 (.bld [.int .i64 (0), .int .i64 (0), .int .i64 (0), .int .i64 (0), .string ⟨#[]⟩, .int .i64 (0), .int .i64 (0), .slice none 0 0] [])),
 ⟨none, (.st 8 (.tmp 2) (.tmp 6)), none⟩])
 .ret)
 .skip))
 (.seq (.reg [(rO 7 (.mv (.tmp 0))),
 (rO 8 (.nilc (.tmp 7))),
 (rO 9 (.fa 2 (.tmp 8))),
 (rO 10 (.ld (some 8) (.tmp 9))),
 (rO 3 (.new 74 [.int .i64 (0), .int .i64 (0), .int .i64 (0), .int .i64 (0), .string ⟨#[]⟩, .int .i64 (0), .int .i64 (0), .slice none 0 0])),
 ⟨none, (.st 8 (.tmp 3) (.tmp 10)), none⟩])
 (.seq (.reg [(rO 11 (.fa 7 (.tmp 3))),
 (rO 12 (.ld none (.tmp 11))),
 (rO 13 (.call 59 [(.tmp 12)])),
 (rO 14 (.fa 7 (.tmp 3))),
 ⟨none, (.st 1 (.tmp 14) (.tmp 13)), none⟩])
 (.seq (.reg [(rO 15 (.ld (some 8) (.tmp 3))),
 ⟨none, (.st 8 (.tmp 2) (.tmp 15)), none⟩])
 .ret)))))
def r28 : List RV := [.agg 2 8]
theorem ok28 : FnOk Try.prog 28 16 c28 r28 := ⟨[], _, _, Try.func28, rfl, rfl, by kernel_rfl, by kernel_rfl, by kernel_rfl⟩
/-- vouch/vouchtop.ask -/
def c29 : C := (.seq (.reg [(rO 6 (.mv (.const (.int .i64 0))))])
 (.seq (.reg [(rO 15 (.mv (.tmp 1))),
 (rO 16 (.mv (.tmp 2))),
 (rO 17 (.call 60 [(.tmp 15), (.tmp 16)])),
 (rO 14 (.mv (.tmp 17))),
 (rO 18 (.ext 0 (.tmp 14))),
 (rO 19 (.ext 1 (.tmp 14))),
 (rO 20 (.ext 2 (.tmp 14))),
 (rO 7 (.new 31 [.bool false, .string ⟨#[]⟩])),
 (rO 8 (.new 139 [.int .i64 (0), .int .i64 (0), .int .i64 (0), .int .i64 (0), .int .i64 (0), .int .i64 (0), .string ⟨#[]⟩, .int .i64 (0), .int .i64 (0), .bool false, .string ⟨#[]⟩, .bool false, .int .i64 (0), .int .i64 (0), .slice none 0 0, .slice none 0 0])),
 ⟨none, (.st 2 (.tmp 7) (.tmp 18)), none⟩,
 ⟨none, (.st 16 (.tmp 8) (.tmp 19)), none⟩,
 (rO 9 (.mv (.tmp 20)))])
 (.seq (.seq (.reg [(rO 21 (.mv (.tmp 9))),
 (rO 22 (.bin .neq (.tmp 21) (.const (.int .i64 0))))])
 (.cond (.tmp 22) (.seq (.reg [(rO 6 (.mv (.const (.int .i64 0))))])
 .ret)
 .skip))
 (.seq (.seq (.reg [(rO 23 (.fa 0 (.tmp 8))),
 (rO 24 (.ld none (.tmp 23))),
 (rO 25 (.bin .eql (.tmp 24) (.const (.int .i64 0))))])
 (.cond (.tmp 25) (.seq (.reg [(rO 6 (.mv (.const (.int .i64 1))))])
 .ret)
 .skip))
 (.seq (.reg [(rO 27 (.mv (.tmp 1))),
 (rO 28 (.fa 4 (.tmp 8))),
 (rO 29 (.ld none (.tmp 28))),
 (rO 30 (.fa 5 (.tmp 8))),
 (rO 31 (.ld none (.tmp 30))),
 (rO 32 (.bld [.int .i64 (0), .int .i64 (0), .int .i64 (0), .int .i64 (0), .int .i64 (0), .int .i64 (0), .string ⟨#[]⟩, .int .i64 (0), .int .i64 (0), .bool false, .string ⟨#[]⟩, .bool false, .int .i64 (0), .int .i64 (0), .slice none 0 0, .slice none 0 0] [(0, 1, (.const (.int .i64 4))), (4, 1, (.tmp 29)), (5, 1, (.tmp 31))])),
 (rO 33 (.call 61 [(.tmp 27), (.tmp 32)])),
 (rO 26 (.mv (.tmp 33))),
 (rO 34 (.ext 0 (.tmp 26))),
 (rO 35 (.ext 1 (.tmp 26))),
 ⟨none, (.st 16 (.tmp 8) (.tmp 34)), none⟩,
 (rO 10 (.mv (.tmp 35)))])
 (.seq (.seq (.reg [(rO 36 (.mv (.tmp 10))),
 (rO 37 (.nt (.tmp 36))),
 (rO 38 (.mv (.tmp 37))),
 ⟨(some 39), (.fa 0 (.tmp 8)), (some (38, false))⟩,
 ⟨(some 40), (.ld none (.tmp 39)), (some (38, false))⟩,
 ⟨(some 41), (.bin .neq (.tmp 40) (.const (.int .i64 5))), (some (38, false))⟩,
 (rO 42 (.pick (.tmp 38) (.const (.bool true)) (.tmp 41)))])
 (.cond (.tmp 42) (.seq (.reg [(rO 6 (.mv (.const (.int .i64 0))))])
 .ret)
 .skip))
 (.seq (.draw [⟨(rO 43 (.fa 7 (.tmp 8))), .p⟩,
 ⟨(rO 44 (.fa 1 (.tmp 43))), .p⟩,
 ⟨(rO 45 (.ld none (.tmp 44))), .l⟩,
 ⟨(rO 46 (.bin .sub (.tmp 45) (.const (.int .i64 1)))), .p⟩,
 ⟨(rO 47 (.mv (.tmp 0))), .p⟩,
 ⟨(rO 48 (.call 26 [(.tmp 47)])), .g⟩,
 ⟨(rO 49 (.mx false (.tmp 46) (.tmp 48))), .p⟩,
 ⟨(rO 50 (.mv (.tmp 0))), .p⟩,
 ⟨(rO 51 (.mv (.tmp 2))), .p⟩,
 ⟨(rO 52 (.call 62 [(.tmp 50), (.tmp 51)])), .g⟩,
 ⟨(rO 53 (.bin .lss (.tmp 49) (.tmp 52))), .p⟩,
 ⟨(rO 11 (.mv (.tmp 53))), .p⟩])
 (.seq (.reg [(rO 54 (.mv (.tmp 0))),
 (rO 55 (.ld (some 16) (.tmp 8))),
 (rO 56 (.call 57 [(.tmp 54), (.tmp 55)])),
 (rO 12 (.mv (.tmp 56)))])
 (.seq (.seq (.reg [(rO 57 (.mv (.tmp 12))),
 (rO 58 (.len true (.tmp 57))),
 (rO 59 (.bin .eql (.tmp 58) (.const (.int .i64 0))))])
 (.cond (.tmp 59) (.seq (.reg [(rO 6 (.mv (.const (.int .i64 0))))])
 .ret)
 .skip))
 (.seq (.reg [(rO 61 (.mv (.tmp 1))),
 (rO 62 (.mv (.tmp 12))),
 (rO 63 (.ia 16 (.tmp 62) (.const (.int .i64 0)))),
 (rO 64 (.ld (some 16) (.tmp 63))),
 (rO 65 (.call 61 [(.tmp 61), (.tmp 64)])),
 (rO 60 (.mv (.tmp 65))),
 (rO 66 (.ext 0 (.tmp 60))),
 (rO 67 (.ext 1 (.tmp 60))),
 (rO 10 (.mv (.tmp 67)))])
 (.seq (.reg [(rO 68 (.mv (.tmp 1))),
 (rO 69 (.call 28 [(.tmp 68)])),
 (rO 13 (.new 74 [.int .i64 (0), .int .i64 (0), .int .i64 (0), .int .i64 (0), .string ⟨#[]⟩, .int .i64 (0), .int .i64 (0), .slice none 0 0])),
 ⟨none, (.st 8 (.tmp 13) (.tmp 69)), none⟩])
 (.seq (.block 0 (.seq (.reg [(rO 71 (.mv (.tmp 10))),
 (rO 72 (.nt (.tmp 71))),
 (rO 70 (.mv (.tmp 72)))])
 (.cond (.tmp 70) (.seq (.reg [(rO 6 (.mv (.const (.int .i64 0))))])
 .ret)
 (.seq (.reg [(rO 74 (.fa 0 (.tmp 13))),
 (rO 75 (.ld none (.tmp 74))),
 (rO 76 (.bin .eql (.tmp 75) (.const (.int .i64 0)))),
 (rO 77 (.mv (.tmp 76))),
 ⟨(some 78), (.mv (.tmp 11)), (some (77, true))⟩,
 ⟨(some 79), (.nt (.tmp 78)), (some (77, true))⟩,
 (rO 80 (.pick (.tmp 77) (.tmp 79) (.const (.bool false)))),
 (rO 73 (.mv (.tmp 80)))])
 (.cond (.tmp 73) (.seq (.reg [(rO 6 (.mv (.const (.int .i64 1))))])
 .ret)
 (.seq (.reg [(rO 82 (.fa 0 (.tmp 13))),
 (rO 83 (.ld none (.tmp 82))),
 (rO 84 (.bin .eql (.tmp 83) (.const (.int .i64 4)))),
 (rO 85 (.mv (.tmp 84))),
 ⟨(some 86), (.fa 1 (.tmp 13)), (some (85, true))⟩,
 ⟨(some 87), (.ld none (.tmp 86)), (some (85, true))⟩,
 ⟨(some 88), (.bin .eql (.tmp 87) (.const (.int .i64 20))), (some (85, true))⟩,
 (rO 89 (.pick (.tmp 85) (.tmp 88) (.const (.bool false)))),
 (rO 90 (.mv (.tmp 89))),
 ⟨(some 91), (.mv (.tmp 11)), (some (90, true))⟩,
 (rO 92 (.pick (.tmp 90) (.tmp 91) (.const (.bool false)))),
 (rO 81 (.mv (.tmp 92)))])
 (.cond (.tmp 81) (.seq (.reg [(rO 6 (.mv (.const (.int .i64 2))))])
 .ret)
 .skip)))))))
 (.seq (.reg [(rO 6 (.mv (.const (.int .i64 0))))])
 .ret)))))))))))))
def r29 : List RV := [.tmp 6]
theorem ok29 : FnOk Try.prog 29 93 c29 r29 := ⟨[], _, _, Try.func29, rfl, rfl, by kernel_rfl, by kernel_rfl, by kernel_rfl⟩
/-- (*vouch/tx.Tx).Finish -/
def c30 : C := (.seq (.reg [(rO 2 (.mv (.const (.int .i64 0)))),
 (rO 3 (.mv (.const (.int .i64 0))))])
 (.seq (.block 0 (.seq (.reg [(rO 5 (.mv (.tmp 0))),
 (rO 6 (.eqs false .ptr (.tmp 5) (.const (.pointer none)))),
 (rO 4 (.mv (.tmp 6)))])
 (.cond (.tmp 4) (.seq (.reg [(rO 2 (.mv (.const (.int .i64 0)))),
 (rO 3 (.mv (.const (.int .i64 3))))])
 .ret)
 (.seq (.reg [(rO 8 (.mv (.tmp 0))),
 (rO 9 (.nilc (.tmp 8))),
 (rO 10 (.fa 2 (.tmp 9))),
 (rO 11 (.fa 0 (.tmp 10))),
 (rO 12 (.ld none (.tmp 11))),
 (rO 13 (.bin .eql (.tmp 12) (.const (.int .i64 3)))),
 (rO 7 (.mv (.tmp 13)))])
 (.cond (.tmp 7) (.seq (.reg [(rO 2 (.mv (.const (.int .i64 0)))),
 (rO 3 (.mv (.const (.int .i64 40))))])
 .ret)
 (.seq (.reg [(rO 15 (.mv (.tmp 0))),
 (rO 16 (.nilc (.tmp 15))),
 (rO 17 (.fa 2 (.tmp 16))),
 (rO 18 (.fa 0 (.tmp 17))),
 (rO 19 (.ld none (.tmp 18))),
 (rO 20 (.bin .eql (.tmp 19) (.const (.int .i64 4)))),
 (rO 14 (.mv (.tmp 20)))])
 (.cond (.tmp 14) (.seq (.draw [⟨(rO 21 (.mv (.tmp 0))), .p⟩,
 ⟨(rO 22 (.nilc (.tmp 21))), .p⟩,
 ⟨(rO 23 (.fa 2 (.tmp 22))), .p⟩,
 ⟨(rO 24 (.fa 1 (.tmp 23))), .p⟩,
 ⟨(rO 25 (.ld none (.tmp 24))), .l⟩,
 ⟨(rO 2 (.mv (.const (.int .i64 0)))), .p⟩,
 ⟨(rO 3 (.mv (.tmp 25))), .p⟩])
 .ret)
 (.seq (.reg [(rO 27 (.mv (.tmp 0))),
 (rO 28 (.call 63 [(.tmp 27)])),
 (rO 26 (.mv (.tmp 28)))])
 (.cond (.tmp 26) (.seq (.reg [(rO 2 (.mv (.const (.int .i64 0)))),
 (rO 3 (.mv (.const (.int .i64 31))))])
 .ret)
 .skip)))))))))
 (.seq (.reg [(rO 29 (.mv (.tmp 0))),
 (rO 30 (.call 64 [(.tmp 29), (.const (.int .i64 3)), (.const (.int .i64 0))]))])
 (.seq (.seq (.reg [(rO 31 (.mv (.tmp 0))),
 (rO 32 (.nilc (.tmp 31))),
 (rO 33 (.fa 2 (.tmp 32))),
 (rO 34 (.fa 2 (.tmp 33))),
 (rO 35 (.fa 1 (.tmp 34))),
 (rO 36 (.ld none (.tmp 35))),
 (rO 37 (.bin .eql (.tmp 36) (.const (.int .i64 4611686018427387904))))])
 (.cond (.tmp 37) (.seq (.reg [(rO 38 (.mv (.tmp 0))),
 (rO 39 (.nilc (.tmp 38))),
 (rO 40 (.fa 2 (.tmp 39))),
 (rO 41 (.fa 2 (.tmp 40))),
 (rO 42 (.fa 0 (.tmp 41))),
 (rO 43 (.ld none (.tmp 42))),
 (rO 2 (.mv (.tmp 43))),
 (rO 3 (.mv (.const (.int .i64 0))))])
 .ret)
 .skip))
 (.seq (.reg [(rO 44 (.mv (.tmp 0))),
 (rO 45 (.nilc (.tmp 44))),
 (rO 46 (.fa 2 (.tmp 45))),
 (rO 47 (.fa 2 (.tmp 46))),
 (rO 48 (.fa 1 (.tmp 47))),
 (rO 49 (.ld none (.tmp 48))),
 (rO 50 (.bin .sub (.tmp 49) (.const (.int .i64 1)))),
 (rO 2 (.mv (.tmp 50))),
 (rO 3 (.mv (.const (.int .i64 0))))])
 .ret)))))
def r30 : List RV := [.tmp 2, .tmp 3]
theorem ok30 : FnOk Try.prog 30 51 c30 r30 := ⟨[], _, _, Try.func30, rfl, rfl, by kernel_rfl, by kernel_rfl, by kernel_rfl⟩
def c31_b1 : C := (.block 1 (.seq (.reg [(rO 9 (.mv (.const (.int .i64 0))))])
 (.block 2 (.loop (.seq (.seq (.reg [(rO 22 (.mv (.tmp 9))),
 (rO 23 (.mv (.tmp 0))),
 (rO 24 (.mv (.tmp 8))),
 (rO 25 (.ia 1 (.tmp 23) (.tmp 24))),
 (rO 26 (.ld none (.tmp 25))),
 (rO 27 (.len true (.tmp 26))),
 (rO 28 (.bin .lss (.tmp 22) (.tmp 27)))])
 (.cond (.tmp 28) .skip
 (.exit 2)))
 (.seq (.block 3 (.seq (.reg [(rO 31 (.mv (.tmp 0))),
 (rO 32 (.mv (.tmp 8))),
 (rO 33 (.ia 1 (.tmp 31) (.tmp 32))),
 (rO 34 (.ld none (.tmp 33))),
 (rO 35 (.mv (.tmp 9))),
 (rO 36 (.ia 3 (.tmp 34) (.tmp 35))),
 (rO 37 (.fa 0 (.tmp 36))),
 (rO 38 (.ld none (.tmp 37))),
 (rO 39 (.mv (.tmp 1))),
 (rO 40 (.bin .eql (.tmp 38) (.tmp 39)))])
 (.cond (.tmp 40) (.reg [(rO 41 (.mv (.tmp 0))),
 (rO 42 (.mv (.tmp 8))),
 (rO 43 (.ia 1 (.tmp 41) (.tmp 42))),
 (rO 44 (.ld none (.tmp 43))),
 (rO 45 (.mv (.tmp 9))),
 (rO 46 (.ia 3 (.tmp 44) (.tmp 45))),
 (rO 47 (.fa 1 (.tmp 46))),
 (rO 48 (.ld (some 2) (.tmp 47))),
 ⟨none, (.st 2 (.tmp 7) (.tmp 48)), none⟩])
 .skip)))
 (.reg [(rO 29 (.mv (.tmp 9))),
 (rO 30 (.bin .add (.tmp 29) (.const (.int .i64 1)))),
 (rO 9 (.mv (.tmp 30)))])))))))
def c31_t1 : C := (.reg [(rO 20 (.mv (.tmp 8))),
 (rO 21 (.bin .add (.tmp 20) (.const (.int .i64 1)))),
 (rO 8 (.mv (.tmp 21)))])
def c31_s1 : C := .seq c31_b1 c31_t1
/-- vouch/vouchtop.at -/
def c31 : C := (.seq (.reg [(rO 6 (.new 31 [.bool false, .string ⟨#[]⟩]))])
 (.seq (.reg [(rO 10 (.bld [.bool false, .string ⟨#[]⟩] [])),
 (rO 7 (.new 31 [.bool false, .string ⟨#[]⟩])),
 ⟨none, (.st 2 (.tmp 7) (.tmp 10)), none⟩])
 (.seq (.seq (.reg [(rO 8 (.mv (.const (.int .i64 0))))])
 (.block 0 (.loop (.seq (.seq (.reg [(rO 11 (.mv (.tmp 8))),
 (rO 12 (.mv (.tmp 0))),
 (rO 13 (.len true (.tmp 12))),
 (rO 14 (.bin .lss (.tmp 11) (.tmp 13))),
 (rO 15 (.mv (.tmp 14))),
 ⟨(some 16), (.mv (.tmp 8)), (some (15, true))⟩,
 ⟨(some 17), (.mv (.tmp 2)), (some (15, true))⟩,
 ⟨(some 18), (.bin .lss (.tmp 16) (.tmp 17)), (some (15, true))⟩,
 (rO 19 (.pick (.tmp 15) (.tmp 18) (.const (.bool false))))])
 (.cond (.tmp 19) .skip
 (.exit 0)))
 c31_s1))))
 (.seq (.reg [(rO 49 (.ld (some 2) (.tmp 7))),
 ⟨none, (.st 2 (.tmp 6) (.tmp 49)), none⟩])
 .ret))))
def r31 : List RV := [.agg 6 2]
theorem ok31 : FnOk Try.prog 31 50 c31 r31 := ⟨[], _, _, Try.func31, rfl, rfl, by kernel_rfl, by kernel_rfl, by kernel_rfl⟩
/-- vouch/fact.Held -/
def c56 : C := (.seq (.reg [(rO 1 (.box 66 (.tmp 0))),
 (rO 2 (.new 66 [.int .i64 (0), .int .i64 (0), .int .i64 (0), .int .i64 (0), .int .i64 (0), .int .i64 (0), .int .i64 (0), .int .i64 (0)]))])
 (.seq (.reg [(rO 3 (.mv (.func 78)))])
 (.seq (.draw [⟨(rO 4 (.mv (.tmp 3))), .p⟩,
 ⟨(rO 5 (.fa 0 (.tmp 1))), .p⟩,
 ⟨(rO 6 (.ld none (.tmp 5))), .l⟩,
 ⟨(rO 7 (.callv (.tmp 4) [(.tmp 6), (.const (.int .i64 8)), (.const (.int .i64 1))])), .c⟩,
 ⟨(rO 8 (.mv (.tmp 3))), .p⟩,
 ⟨(rO 9 (.fa 1 (.tmp 1))), .p⟩,
 ⟨(rO 10 (.ld none (.tmp 9))), .l⟩,
 ⟨(rO 11 (.callv (.tmp 8) [(.tmp 10), (.const (.int .i64 1048576)), (.const (.int .i64 0))])), .c⟩,
 ⟨(rO 12 (.mv (.tmp 3))), .p⟩,
 ⟨(rO 13 (.fa 2 (.tmp 1))), .p⟩,
 ⟨(rO 14 (.ld none (.tmp 13))), .l⟩,
 ⟨(rO 15 (.callv (.tmp 12) [(.tmp 14), (.const (.int .i64 64)), (.const (.int .i64 1))])), .c⟩,
 ⟨(rO 16 (.mv (.tmp 3))), .p⟩,
 ⟨(rO 17 (.fa 3 (.tmp 1))), .p⟩,
 ⟨(rO 18 (.ld none (.tmp 17))), .l⟩,
 ⟨(rO 19 (.callv (.tmp 16) [(.tmp 18), (.const (.int .i64 256)), (.const (.int .i64 0))])), .c⟩,
 ⟨(rO 20 (.mv (.tmp 3))), .p⟩,
 ⟨(rO 21 (.fa 4 (.tmp 1))), .p⟩,
 ⟨(rO 22 (.ld none (.tmp 21))), .l⟩,
 ⟨(rO 23 (.callv (.tmp 20) [(.tmp 22), (.const (.int .i64 1024)), (.const (.int .i64 0))])), .c⟩,
 ⟨(rO 24 (.mv (.tmp 3))), .p⟩,
 ⟨(rO 25 (.fa 5 (.tmp 1))), .p⟩,
 ⟨(rO 26 (.ld none (.tmp 25))), .l⟩,
 ⟨(rO 27 (.callv (.tmp 24) [(.tmp 26), (.const (.int .i64 64)), (.const (.int .i64 1))])), .c⟩,
 ⟨(rO 28 (.mv (.tmp 3))), .p⟩,
 ⟨(rO 29 (.fa 6 (.tmp 1))), .p⟩,
 ⟨(rO 30 (.ld none (.tmp 29))), .l⟩,
 ⟨(rO 31 (.callv (.tmp 28) [(.tmp 30), (.const (.int .i64 256)), (.const (.int .i64 0))])), .c⟩,
 ⟨(rO 32 (.mv (.tmp 3))), .p⟩,
 ⟨(rO 33 (.fa 7 (.tmp 1))), .p⟩,
 ⟨(rO 34 (.ld none (.tmp 33))), .l⟩,
 ⟨(rO 35 (.callv (.tmp 32) [(.tmp 34), (.const (.int .i64 16)), (.const (.int .i64 0))])), .m⟩,
 ⟨(rO 36 (.bld [.int .i64 (0), .int .i64 (0), .int .i64 (0), .int .i64 (0), .int .i64 (0), .int .i64 (0), .int .i64 (0), .int .i64 (0)] [(0, 1, (.tmp 7)), (1, 1, (.tmp 11)), (2, 1, (.tmp 15)), (3, 1, (.tmp 19)), (4, 1, (.tmp 23)), (5, 1, (.tmp 27)), (6, 1, (.tmp 31)), (7, 1, (.tmp 35))])), .p⟩,
 ⟨⟨none, (.st 8 (.tmp 2) (.tmp 36)), none⟩, .m⟩])
 .ret)))
def r56 : List RV := [.agg 2 8]
theorem ok56 : FnOk Try.prog 56 37 c56 r56 := ⟨[], _, _, Try.func56, rfl, rfl, by kernel_rfl, by kernel_rfl, by kernel_rfl⟩
/-- (*vouch/origin.Origin).Handle -/
def c57 : C := (.seq (.reg [(rO 3 (.box 139 (.tmp 1))),
 (rO 4 (.mv (.const (.slice none 0 0))))])
 (.seq (.seq (.reg [(rO 5 (.mv (.tmp 0))),
 (rO 6 (.eqs false .ptr (.tmp 5) (.const (.pointer none)))),
 (rO 7 (.mv (.tmp 6))),
 ⟨(some 8), (.ld (some 16) (.tmp 3)), (some (7, false))⟩,
 ⟨(some 9), (.call 79 [(.tmp 8)]), (some (7, false))⟩,
 ⟨(some 10), (.bin .neq (.tmp 9) (.const (.int .i64 0))), (some (7, false))⟩,
 (rO 11 (.pick (.tmp 7) (.const (.bool true)) (.tmp 10)))])
 (.cond (.tmp 11) (.seq (.reg [(rO 4 (.mv (.const (.slice none 0 0))))])
 .ret)
 .skip))
 (.seq (.seq (.reg [(rO 12 (.fa 0 (.tmp 3))),
 (rO 13 (.ld none (.tmp 12)))])
 (.block 0 (.seq (.reg [(rO 15 (.bin .eql (.tmp 13) (.const (.int .i64 1)))),
 (rO 14 (.mv (.tmp 15)))])
 (.cond (.tmp 14) (.seq (.reg [(rO 16 (.mv (.tmp 0))),
 (rO 17 (.ld (some 16) (.tmp 3))),
 (rO 18 (.call 80 [(.tmp 16), (.tmp 17)])),
 (rO 4 (.mv (.tmp 18)))])
 .ret)
 (.seq (.reg [(rO 20 (.bin .eql (.tmp 13) (.const (.int .i64 5)))),
 (rO 19 (.mv (.tmp 20)))])
 (.cond (.tmp 19) (.seq (.reg [(rO 21 (.mv (.tmp 0))),
 (rO 22 (.ld (some 16) (.tmp 3))),
 (rO 23 (.call 81 [(.tmp 21), (.tmp 22)])),
 (rO 4 (.mv (.tmp 23)))])
 .ret)
 (.seq (.reg [(rO 25 (.bin .eql (.tmp 13) (.const (.int .i64 9)))),
 (rO 24 (.mv (.tmp 25)))])
 (.cond (.tmp 24) (.seq (.reg [(rO 26 (.mv (.tmp 0))),
 (rO 27 (.ld (some 16) (.tmp 3))),
 (rO 28 (.call 82 [(.tmp 26), (.tmp 27)])),
 (rO 4 (.mv (.tmp 28)))])
 .ret)
 (.seq (.reg [(rO 30 (.bin .eql (.tmp 13) (.const (.int .i64 10)))),
 (rO 29 (.mv (.tmp 30)))])
 (.cond (.tmp 29) (.seq (.draw [⟨(rO 31 (.fa 1 (.tmp 3))), .p⟩,
 ⟨(rO 32 (.ld none (.tmp 31))), .l⟩,
 ⟨(rO 33 (.mv (.tmp 0))), .p⟩,
 ⟨(rO 34 (.nilc (.tmp 33))), .p⟩,
 ⟨(rO 35 (.fa 0 (.tmp 34))), .p⟩,
 ⟨(rO 36 (.fa 0 (.tmp 35))), .p⟩,
 ⟨(rO 37 (.ld none (.tmp 36))), .l⟩,
 ⟨(rO 38 (.bin .lss (.tmp 32) (.tmp 37))), .p⟩])
 (.cond (.tmp 38) (.seq (.draw [⟨(rO 39 (.fa 1 (.tmp 3))), .p⟩,
 ⟨(rO 40 (.ld none (.tmp 39))), .l⟩,
 ⟨(rO 41 (.fa 2 (.tmp 3))), .p⟩,
 ⟨(rO 42 (.ld none (.tmp 41))), .l⟩,
 ⟨(rO 43 (.mv (.tmp 0))), .p⟩,
 ⟨(rO 44 (.call 26 [(.tmp 43)])), .g⟩,
 ⟨(rO 45 (.bld [.int .i64 (0), .int .i64 (0), .int .i64 (0), .int .i64 (0), .int .i64 (0), .int .i64 (0), .string ⟨#[]⟩, .int .i64 (0), .int .i64 (0), .bool false, .string ⟨#[]⟩, .bool false, .int .i64 (0), .int .i64 (0), .slice none 0 0, .slice none 0 0] [(0, 1, (.const (.int .i64 11))), (1, 1, (.tmp 40)), (2, 1, (.tmp 42)), (13, 1, (.tmp 44))])), .p⟩,
 ⟨(rO 46 (.lit 139 1 16 [.int .i64 (0), .int .i64 (0), .int .i64 (0), .int .i64 (0), .int .i64 (0), .int .i64 (0), .string ⟨#[]⟩, .int .i64 (0), .int .i64 (0), .bool false, .string ⟨#[]⟩, .bool false, .int .i64 (0), .int .i64 (0), .slice none 0 0, .slice none 0 0] [(0, 16, (.tmp 45))])), .f⟩,
 ⟨(rO 4 (.mv (.tmp 46))), .p⟩])
 .ret)
 .skip))
 .skip))))))))))
 (.seq (.reg [(rO 4 (.mv (.const (.slice none 0 0))))])
 .ret))))
def r57 : List RV := [.tmp 4]
theorem ok57 : FnOk Try.prog 57 47 c57 r57 := ⟨[], _, _, Try.func57, rfl, rfl, by kernel_rfl, by kernel_rfl, by kernel_rfl⟩
/-- (*vouch/store.Store).Last -/
def c58 : C := (.seq (.reg [(rO 2 (.mv (.const (.int .i64 0))))])
 (.seq (.seq (.reg [(rO 3 (.mv (.tmp 0))),
 (rO 4 (.eqs false .ptr (.tmp 3) (.const (.pointer none))))])
 (.cond (.tmp 4) (.seq (.reg [(rO 2 (.mv (.const (.int .i64 0))))])
 .ret)
 .skip))
 (.seq (.reg [(rO 5 (.mv (.tmp 0))),
 (rO 6 (.nilc (.tmp 5))),
 (rO 7 (.fa 2 (.tmp 6))),
 (rO 8 (.ld none (.tmp 7))),
 (rO 2 (.mv (.tmp 8)))])
 .ret)))
def r58 : List RV := [.tmp 2]
theorem ok58 : FnOk Try.prog 58 9 c58 r58 := ⟨[], _, _, Try.func58, rfl, rfl, by kernel_rfl, by kernel_rfl, by kernel_rfl⟩
/-- slices.Clone[[]vouch/api.Got,vouch/api.Got] -/
def c59 : C := (.seq (.reg [(rO 2 (.mv (.const (.slice none 0 0))))])
 (.seq (.seq (.reg [(rO 3 (.mv (.tmp 0))),
 (rO 4 (.eqs false .slice (.tmp 3) (.const (.slice none 0 0))))])
 (.cond (.tmp 4) (.seq (.reg [(rO 2 (.mv (.const (.slice none 0 0))))])
 .ret)
 .skip))
 (.seq (.reg [(rO 5 (.lit 81 0 3 [] [])),
 (rO 6 (.mv (.tmp 0))),
 (rO 7 (.app 81 3 40 (.tmp 5) (.tmp 6))),
 (rO 2 (.mv (.tmp 7)))])
 .ret)))
def r59 : List RV := [.tmp 2]
theorem ok59 : FnOk Try.prog 59 8 c59 r59 := ⟨[], _, _, Try.func59, rfl, rfl, by kernel_rfl, by kernel_rfl, by kernel_rfl⟩
/-- (*vouch/tx.Tx).Read -/
def c60 : C := (.seq (.reg [(rO 4 (.new 31 [.bool false, .string ⟨#[]⟩])),
 (rO 5 (.new 139 [.int .i64 (0), .int .i64 (0), .int .i64 (0), .int .i64 (0), .int .i64 (0), .int .i64 (0), .string ⟨#[]⟩, .int .i64 (0), .int .i64 (0), .bool false, .string ⟨#[]⟩, .bool false, .int .i64 (0), .int .i64 (0), .slice none 0 0, .slice none 0 0])),
 (rO 6 (.mv (.const (.int .i64 0))))])
 (.seq (.block 0 (.seq (.reg [(rO 10 (.mv (.tmp 0))),
 (rO 11 (.eqs false .ptr (.tmp 10) (.const (.pointer none)))),
 (rO 9 (.mv (.tmp 11)))])
 (.cond (.tmp 9) (.seq (.reg [(rO 12 (.bld [.bool false, .string ⟨#[]⟩] [])),
 (rO 13 (.bld [.int .i64 (0), .int .i64 (0), .int .i64 (0), .int .i64 (0), .int .i64 (0), .int .i64 (0), .string ⟨#[]⟩, .int .i64 (0), .int .i64 (0), .bool false, .string ⟨#[]⟩, .bool false, .int .i64 (0), .int .i64 (0), .slice none 0 0, .slice none 0 0] [])),
 ⟨none, (.st 2 (.tmp 4) (.tmp 12)), none⟩,
 ⟨none, (.st 16 (.tmp 5) (.tmp 13)), none⟩,
 (rO 6 (.mv (.const (.int .i64 3))))])
 .ret)
 (.seq (.reg [(rO 15 (.mv (.tmp 0))),
 (rO 16 (.nilc (.tmp 15))),
 (rO 17 (.fa 2 (.tmp 16))),
 (rO 18 (.fa 0 (.tmp 17))),
 (rO 19 (.ld none (.tmp 18))),
 (rO 20 (.bin .geq (.tmp 19) (.const (.int .i64 3)))),
 (rO 14 (.mv (.tmp 20)))])
 (.cond (.tmp 14) (.seq (.reg [(rO 21 (.bld [.bool false, .string ⟨#[]⟩] [])),
 (rO 22 (.bld [.int .i64 (0), .int .i64 (0), .int .i64 (0), .int .i64 (0), .int .i64 (0), .int .i64 (0), .string ⟨#[]⟩, .int .i64 (0), .int .i64 (0), .bool false, .string ⟨#[]⟩, .bool false, .int .i64 (0), .int .i64 (0), .slice none 0 0, .slice none 0 0] [])),
 ⟨none, (.st 2 (.tmp 4) (.tmp 21)), none⟩,
 ⟨none, (.st 16 (.tmp 5) (.tmp 22)), none⟩,
 (rO 6 (.mv (.const (.int .i64 40))))])
 .ret)
 (.seq (.reg [(rO 24 (.mv (.tmp 0))),
 (rO 25 (.call 63 [(.tmp 24)])),
 (rO 23 (.mv (.tmp 25)))])
 (.cond (.tmp 23) (.seq (.reg [(rO 26 (.bld [.bool false, .string ⟨#[]⟩] [])),
 (rO 27 (.bld [.int .i64 (0), .int .i64 (0), .int .i64 (0), .int .i64 (0), .int .i64 (0), .int .i64 (0), .string ⟨#[]⟩, .int .i64 (0), .int .i64 (0), .bool false, .string ⟨#[]⟩, .bool false, .int .i64 (0), .int .i64 (0), .slice none 0 0, .slice none 0 0] [])),
 ⟨none, (.st 2 (.tmp 4) (.tmp 26)), none⟩,
 ⟨none, (.st 16 (.tmp 5) (.tmp 27)), none⟩,
 (rO 6 (.mv (.const (.int .i64 31))))])
 .ret)
 (.seq (.reg [(rO 29 (.mv (.tmp 1))),
 (rO 30 (.bin .eql (.tmp 29) (.const (.string { data := #[] })))),
 (rO 31 (.mv (.tmp 30))),
 ⟨(some 32), (.mv (.tmp 1)), (some (31, false))⟩,
 ⟨(some 33), (.len false (.tmp 32)), (some (31, false))⟩,
 ⟨(some 34), (.bin .gtr (.tmp 33) (.const (.int .i64 32))), (some (31, false))⟩,
 (rO 35 (.pick (.tmp 31) (.const (.bool true)) (.tmp 34))),
 (rO 28 (.mv (.tmp 35)))])
 (.cond (.tmp 28) (.seq (.reg [(rO 36 (.bld [.bool false, .string ⟨#[]⟩] [])),
 (rO 37 (.bld [.int .i64 (0), .int .i64 (0), .int .i64 (0), .int .i64 (0), .int .i64 (0), .int .i64 (0), .string ⟨#[]⟩, .int .i64 (0), .int .i64 (0), .bool false, .string ⟨#[]⟩, .bool false, .int .i64 (0), .int .i64 (0), .slice none 0 0, .slice none 0 0] [])),
 ⟨none, (.st 2 (.tmp 4) (.tmp 36)), none⟩,
 ⟨none, (.st 16 (.tmp 5) (.tmp 37)), none⟩,
 (rO 6 (.mv (.const (.int .i64 1))))])
 .ret)
 .skip)))))))))
 (.seq (.seq (.reg [(rO 38 (.mv (.tmp 0))),
 (rO 39 (.nilc (.tmp 38))),
 (rO 40 (.fa 2 (.tmp 39))),
 (rO 41 (.fa 7 (.tmp 40))),
 (rO 42 (.ld none (.tmp 41))),
 (rO 43 (.len true (.tmp 42))),
 (rO 44 (.mv (.const (.int .i64 0))))])
 (.block 1 (.loop (.seq (.reg [(rO 45 (.bin .lss (.tmp 44) (.tmp 43)))])
 (.seq (.cond (.tmp 45) .skip
 (.exit 1))
 (.seq (.block 2 (.seq (.reg [(rO 46 (.ia 3 (.tmp 42) (.tmp 44))),
 (rO 47 (.ld (some 3) (.tmp 46))),
 (rO 8 (.new 81 [.string ⟨#[]⟩, .bool false, .string ⟨#[]⟩])),
 ⟨none, (.st 3 (.tmp 8) (.tmp 47)), none⟩])
 (.seq (.reg [(rO 48 (.fa 0 (.tmp 8))),
 (rO 49 (.ld none (.tmp 48))),
 (rO 50 (.mv (.tmp 1))),
 (rO 51 (.bin .eql (.tmp 49) (.tmp 50)))])
 (.cond (.tmp 51) (.seq (.reg [(rO 52 (.fa 1 (.tmp 8))),
 (rO 53 (.ld (some 2) (.tmp 52))),
 (rO 54 (.bld [.int .i64 (0), .int .i64 (0), .int .i64 (0), .int .i64 (0), .int .i64 (0), .int .i64 (0), .string ⟨#[]⟩, .int .i64 (0), .int .i64 (0), .bool false, .string ⟨#[]⟩, .bool false, .int .i64 (0), .int .i64 (0), .slice none 0 0, .slice none 0 0] [])),
 ⟨none, (.st 2 (.tmp 4) (.tmp 53)), none⟩,
 ⟨none, (.st 16 (.tmp 5) (.tmp 54)), none⟩,
 (rO 6 (.mv (.const (.int .i64 0))))])
 .ret)
 .skip))))
 (.reg [(rO 55 (.bin .add (.tmp 44) (.const (.int .i64 1)))),
 (rO 44 (.mv (.tmp 55)))])))))))
 (.seq (.reg [(rO 56 (.bld [.bool false, .string ⟨#[]⟩] [])),
 (rO 57 (.mv (.tmp 0))),
 (rO 58 (.mv (.tmp 1))),
 (rO 59 (.call 83 [(.tmp 57), (.const (.int .i64 1)), (.tmp 58)])),
 ⟨none, (.st 2 (.tmp 4) (.tmp 56)), none⟩,
 ⟨none, (.st 16 (.tmp 5) (.tmp 59)), none⟩,
 (rO 6 (.mv (.const (.int .i64 0))))])
 .ret))))
def r60 : List RV := [.agg 4 2, .agg 5 16, .tmp 6]
theorem ok60 : FnOk Try.prog 60 60 c60 r60 := ⟨[], _, _, Try.func60, rfl, rfl, by kernel_rfl, by kernel_rfl, by kernel_rfl⟩
/-- (*vouch/tx.Tx).Hear -/
def c61 : C := (.seq (.reg [(rO 3 (.box 139 (.tmp 1))),
 (rO 4 (.new 139 [.int .i64 (0), .int .i64 (0), .int .i64 (0), .int .i64 (0), .int .i64 (0), .int .i64 (0), .string ⟨#[]⟩, .int .i64 (0), .int .i64 (0), .bool false, .string ⟨#[]⟩, .bool false, .int .i64 (0), .int .i64 (0), .slice none 0 0, .slice none 0 0])),
 (rO 5 (.mv (.const (.bool false))))])
 (.seq (.seq (.draw [⟨(rO 6 (.mv (.tmp 0))), .p⟩,
 ⟨(rO 7 (.eqs false .ptr (.tmp 6) (.const (.pointer none)))), .p⟩,
 ⟨(rO 8 (.mv (.tmp 7))), .p⟩,
 ⟨⟨(some 9), (.mv (.tmp 0)), (some (8, false))⟩, .p⟩,
 ⟨⟨(some 10), (.call 63 [(.tmp 9)]), (some (8, false))⟩, .m⟩,
 ⟨⟨(some 11), (.nt (.tmp 10)), (some (8, false))⟩, .p⟩,
 ⟨(rO 12 (.pick (.tmp 8) (.const (.bool true)) (.tmp 11))), .p⟩,
 ⟨(rO 13 (.mv (.tmp 12))), .p⟩,
 ⟨⟨(some 14), (.fa 4 (.tmp 3)), (some (13, false))⟩, .p⟩,
 ⟨⟨(some 15), (.ld none (.tmp 14)), (some (13, false))⟩, .l⟩,
 ⟨⟨(some 16), (.mv (.tmp 0)), (some (13, false))⟩, .p⟩,
 ⟨⟨(some 17), (.nilc (.tmp 16)), (some (13, false))⟩, .p⟩,
 ⟨⟨(some 18), (.fa 0 (.tmp 17)), (some (13, false))⟩, .p⟩,
 ⟨⟨(some 19), (.ld none (.tmp 18)), (some (13, false))⟩, .l⟩,
 ⟨⟨(some 20), (.bin .neq (.tmp 15) (.tmp 19)), (some (13, false))⟩, .p⟩,
 ⟨(rO 21 (.pick (.tmp 13) (.const (.bool true)) (.tmp 20))), .p⟩,
 ⟨(rO 22 (.mv (.tmp 21))), .p⟩,
 ⟨⟨(some 23), (.fa 5 (.tmp 3)), (some (22, false))⟩, .p⟩,
 ⟨⟨(some 24), (.ld none (.tmp 23)), (some (22, false))⟩, .l⟩,
 ⟨⟨(some 25), (.mv (.tmp 0)), (some (22, false))⟩, .p⟩,
 ⟨⟨(some 26), (.nilc (.tmp 25)), (some (22, false))⟩, .p⟩,
 ⟨⟨(some 27), (.fa 2 (.tmp 26)), (some (22, false))⟩, .p⟩,
 ⟨⟨(some 28), (.fa 5 (.tmp 27)), (some (22, false))⟩, .p⟩,
 ⟨⟨(some 29), (.ld none (.tmp 28)), (some (22, false))⟩, .l⟩,
 ⟨⟨(some 30), (.bin .neq (.tmp 24) (.tmp 29)), (some (22, false))⟩, .p⟩,
 ⟨(rO 31 (.pick (.tmp 22) (.const (.bool true)) (.tmp 30))), .p⟩])
 (.cond (.tmp 31) (.seq (.reg [(rO 32 (.bld [.int .i64 (0), .int .i64 (0), .int .i64 (0), .int .i64 (0), .int .i64 (0), .int .i64 (0), .string ⟨#[]⟩, .int .i64 (0), .int .i64 (0), .bool false, .string ⟨#[]⟩, .bool false, .int .i64 (0), .int .i64 (0), .slice none 0 0, .slice none 0 0] [])),
 ⟨none, (.st 16 (.tmp 4) (.tmp 32)), none⟩,
 (rO 5 (.mv (.const (.bool false))))])
 .ret)
 .skip))
 (.seq (.block 0 (.seq (.reg [(rO 34 (.fa 0 (.tmp 3))),
 (rO 35 (.ld none (.tmp 34))),
 (rO 36 (.bin .eql (.tmp 35) (.const (.int .i64 4)))),
 (rO 37 (.mv (.tmp 36))),
 ⟨(some 38), (.mv (.tmp 0)), (some (37, true))⟩,
 ⟨(some 39), (.nilc (.tmp 38)), (some (37, true))⟩,
 ⟨(some 40), (.fa 2 (.tmp 39)), (some (37, true))⟩,
 ⟨(some 41), (.fa 0 (.tmp 40)), (some (37, true))⟩,
 ⟨(some 42), (.ld none (.tmp 41)), (some (37, true))⟩,
 ⟨(some 43), (.bin .eql (.tmp 42) (.const (.int .i64 1))), (some (37, true))⟩,
 (rO 44 (.pick (.tmp 37) (.tmp 43) (.const (.bool false)))),
 (rO 33 (.mv (.tmp 44)))])
 (.cond (.tmp 33) (.seq (.seq (.reg [(rO 45 (.fa 11 (.tmp 3))),
 (rO 46 (.ld none (.tmp 45))),
 (rO 47 (.mv (.tmp 46))),
 ⟨(some 48), (.mv (.tmp 0)), (some (47, true))⟩,
 ⟨(some 49), (.fa 9 (.tmp 3)), (some (47, true))⟩,
 ⟨(some 50), (.ld (some 2) (.tmp 49)), (some (47, true))⟩,
 ⟨(some 51), (.fa 7 (.tmp 3)), (some (47, true))⟩,
 ⟨(some 52), (.ld (some 2) (.tmp 51)), (some (47, true))⟩,
 ⟨(some 53), (.call 84 [(.tmp 48), (.tmp 50), (.tmp 52)]), (some (47, true))⟩,
 (rO 54 (.pick (.tmp 47) (.tmp 53) (.const (.bool false))))])
 (.cond (.tmp 54) (.seq (.reg [(rO 55 (.bld [.int .i64 (0), .int .i64 (0), .int .i64 (0), .int .i64 (0), .int .i64 (0), .int .i64 (0), .string ⟨#[]⟩, .int .i64 (0), .int .i64 (0), .bool false, .string ⟨#[]⟩, .bool false, .int .i64 (0), .int .i64 (0), .slice none 0 0, .slice none 0 0] [])),
 ⟨none, (.st 16 (.tmp 4) (.tmp 55)), none⟩,
 (rO 5 (.mv (.const (.bool true))))])
 .ret)
 .skip))
 (.seq (.reg [(rO 56 (.mv (.tmp 0))),
 (rO 57 (.mv (.tmp 0))),
 (rO 58 (.nilc (.tmp 57))),
 (rO 59 (.fa 2 (.tmp 58))),
 (rO 60 (.fa 4 (.tmp 59))),
 (rO 61 (.ld none (.tmp 60))),
 (rO 62 (.call 83 [(.tmp 56), (.const (.int .i64 2)), (.tmp 61)])),
 ⟨none, (.st 16 (.tmp 4) (.tmp 62)), none⟩,
 (rO 5 (.mv (.const (.bool true))))])
 .ret))
 (.seq (.reg [(rO 64 (.fa 0 (.tmp 3))),
 (rO 65 (.ld none (.tmp 64))),
 (rO 66 (.bin .eql (.tmp 65) (.const (.int .i64 6)))),
 (rO 67 (.mv (.tmp 66))),
 ⟨(some 68), (.mv (.tmp 0)), (some (67, true))⟩,
 ⟨(some 69), (.nilc (.tmp 68)), (some (67, true))⟩,
 ⟨(some 70), (.fa 2 (.tmp 69)), (some (67, true))⟩,
 ⟨(some 71), (.fa 0 (.tmp 70)), (some (67, true))⟩,
 ⟨(some 72), (.ld none (.tmp 71)), (some (67, true))⟩,
 ⟨(some 73), (.bin .eql (.tmp 72) (.const (.int .i64 2))), (some (67, true))⟩,
 (rO 74 (.pick (.tmp 67) (.tmp 73) (.const (.bool false)))),
 (rO 63 (.mv (.tmp 74)))])
 (.cond (.tmp 63) (.seq (.seq (.reg [(rO 75 (.fa 12 (.tmp 3))),
 (rO 76 (.ld none (.tmp 75))),
 (rO 77 (.bin .neq (.tmp 76) (.const (.int .i64 0))))])
 (.cond (.tmp 77) (.seq (.reg [(rO 78 (.mv (.tmp 0))),
 (rO 79 (.fa 12 (.tmp 3))),
 (rO 80 (.ld none (.tmp 79))),
 (rO 81 (.call 64 [(.tmp 78), (.const (.int .i64 4)), (.tmp 80)]))])
 (.seq (.reg [(rO 82 (.bld [.int .i64 (0), .int .i64 (0), .int .i64 (0), .int .i64 (0), .int .i64 (0), .int .i64 (0), .string ⟨#[]⟩, .int .i64 (0), .int .i64 (0), .bool false, .string ⟨#[]⟩, .bool false, .int .i64 (0), .int .i64 (0), .slice none 0 0, .slice none 0 0] [])),
 ⟨none, (.st 16 (.tmp 4) (.tmp 82)), none⟩,
 (rO 5 (.mv (.const (.bool true))))])
 .ret))
 .skip))
 (.seq (.reg [(rO 83 (.bld [.int .i64 (0), .int .i64 (0), .int .i64 (0), .int .i64 (0), .int .i64 (0), .int .i64 (0), .string ⟨#[]⟩, .int .i64 (0), .int .i64 (0), .bool false, .string ⟨#[]⟩, .bool false, .int .i64 (0), .int .i64 (0), .slice none 0 0, .slice none 0 0] [])),
 (rO 84 (.mv (.tmp 0))),
 (rO 85 (.fa 9 (.tmp 3))),
 (rO 86 (.ld (some 2) (.tmp 85))),
 (rO 87 (.fa 7 (.tmp 3))),
 (rO 88 (.ld (some 2) (.tmp 87))),
 (rO 89 (.call 84 [(.tmp 84), (.tmp 86), (.tmp 88)])),
 ⟨none, (.st 16 (.tmp 4) (.tmp 83)), none⟩,
 (rO 5 (.mv (.tmp 89)))])
 .ret))
 .skip)))))
 (.seq (.reg [(rO 90 (.bld [.int .i64 (0), .int .i64 (0), .int .i64 (0), .int .i64 (0), .int .i64 (0), .int .i64 (0), .string ⟨#[]⟩, .int .i64 (0), .int .i64 (0), .bool false, .string ⟨#[]⟩, .bool false, .int .i64 (0), .int .i64 (0), .slice none 0 0, .slice none 0 0] [])),
 ⟨none, (.st 16 (.tmp 4) (.tmp 90)), none⟩,
 (rO 5 (.mv (.const (.bool false))))])
 .ret))))
def r61 : List RV := [.agg 4 16, .tmp 5]
theorem ok61 : FnOk Try.prog 61 91 c61 r61 := ⟨[], _, _, Try.func61, rfl, rfl, by kernel_rfl, by kernel_rfl, by kernel_rfl⟩
/-- (*vouch/origin.Origin).Oldest -/
def c62 : C := (.seq (.reg [(rO 4 (.mv (.const (.int .i64 0))))])
 (.seq (.seq (.reg [(rO 5 (.mv (.tmp 0))),
 (rO 6 (.eqs false .ptr (.tmp 5) (.const (.pointer none))))])
 (.cond (.tmp 6) (.seq (.reg [(rO 4 (.mv (.const (.int .i64 0))))])
 .ret)
 .skip))
 (.seq (.reg [(rO 7 (.mv (.tmp 0))),
 (rO 8 (.nilc (.tmp 7))),
 (rO 9 (.fa 8 (.tmp 8))),
 (rO 10 (.ld none (.tmp 9))),
 (rO 11 (.mv (.tmp 1))),
 (rO 12 (.call 46 [(.tmp 10), (.tmp 11)])),
 (rO 4 (.mv (.tmp 12)))])
 .ret)))
def r62 : List RV := [.tmp 4]
theorem ok62 : FnOk Try.prog 62 13 c62 r62 := ⟨[], _, _, Try.func62, rfl, rfl, by kernel_rfl, by kernel_rfl, by kernel_rfl⟩
/-- (*vouch/tx.Tx).busy -/
def c63 : C := (.seq (.reg [(rO 2 (.mv (.const (.bool false))))])
 (.seq (.reg [(rO 3 (.mv (.tmp 0))),
 (rO 4 (.nilc (.tmp 3))),
 (rO 5 (.fa 2 (.tmp 4))),
 (rO 6 (.fa 0 (.tmp 5))),
 (rO 7 (.ld none (.tmp 6))),
 (rO 8 (.bin .eql (.tmp 7) (.const (.int .i64 1)))),
 (rO 9 (.mv (.tmp 8))),
 ⟨(some 10), (.mv (.tmp 0)), (some (9, false))⟩,
 ⟨(some 11), (.nilc (.tmp 10)), (some (9, false))⟩,
 ⟨(some 12), (.fa 2 (.tmp 11)), (some (9, false))⟩,
 ⟨(some 13), (.fa 0 (.tmp 12)), (some (9, false))⟩,
 ⟨(some 14), (.ld none (.tmp 13)), (some (9, false))⟩,
 ⟨(some 15), (.bin .eql (.tmp 14) (.const (.int .i64 2))), (some (9, false))⟩,
 (rO 16 (.pick (.tmp 9) (.const (.bool true)) (.tmp 15))),
 (rO 2 (.mv (.tmp 16)))])
 .ret))
def r63 : List RV := [.tmp 2]
theorem ok63 : FnOk Try.prog 63 17 c63 r63 := ⟨[], _, _, Try.func63, rfl, rfl, by kernel_rfl, by kernel_rfl, by kernel_rfl⟩
/-- (*vouch/tx.Tx).rest -/
def c64 : C := (.reg [(rO 6 (.mv (.tmp 0))),
 (rO 7 (.mv (.tmp 0))),
 (rO 8 (.mv (.tmp 0))),
 (rO 9 (.mv (.tmp 0))),
 (rO 10 (.mv (.tmp 1))),
 (rO 11 (.mv (.tmp 2))),
 (rO 12 (.nilc (.tmp 6))),
 (rO 13 (.fa 2 (.tmp 12))),
 (rO 14 (.fa 0 (.tmp 13))),
 ⟨none, (.st 1 (.tmp 14) (.tmp 10)), none⟩,
 (rO 15 (.nilc (.tmp 7))),
 (rO 16 (.fa 2 (.tmp 15))),
 (rO 17 (.fa 1 (.tmp 16))),
 ⟨none, (.st 1 (.tmp 17) (.tmp 11)), none⟩,
 (rO 18 (.nilc (.tmp 8))),
 (rO 19 (.fa 2 (.tmp 18))),
 (rO 20 (.fa 4 (.tmp 19))),
 ⟨none, (.st 1 (.tmp 20) (.const (.string { data := #[] }))), none⟩,
 (rO 21 (.nilc (.tmp 9))),
 (rO 22 (.fa 2 (.tmp 21))),
 (rO 23 (.fa 6 (.tmp 22))),
 ⟨none, (.st 1 (.tmp 23) (.const (.int .i64 0))), none⟩])
def r64 : List RV := []
theorem ok64 : FnOk Try.prog 64 24 c64 r64 := ⟨[], _, _, Try.func64, rfl, rfl, by kernel_rfl, by kernel_rfl, by kernel_rfl⟩
/-- vouch/fact.Good -/
def c65 : C := (.seq (.reg [(rO 1 (.box 39 (.tmp 0))),
 (rO 2 (.mv (.const (.bool false))))])
 (.seq (.block 0 (.seq (.reg [(rO 4 (.fa 0 (.tmp 1))),
 (rO 5 (.ld none (.tmp 4))),
 (rO 6 (.bin .eql (.tmp 5) (.const (.string { data := #[] })))),
 (rO 7 (.mv (.tmp 6))),
 ⟨(some 8), (.fa 0 (.tmp 1)), (some (7, false))⟩,
 ⟨(some 9), (.ld none (.tmp 8)), (some (7, false))⟩,
 ⟨(some 10), (.len false (.tmp 9)), (some (7, false))⟩,
 ⟨(some 11), (.bin .gtr (.tmp 10) (.const (.int .i64 32))), (some (7, false))⟩,
 (rO 12 (.pick (.tmp 7) (.const (.bool true)) (.tmp 11))),
 (rO 3 (.mv (.tmp 12)))])
 (.cond (.tmp 3) (.seq (.reg [(rO 2 (.mv (.const (.bool false))))])
 .ret)
 (.seq (.reg [(rO 14 (.fa 1 (.tmp 1))),
 (rO 15 (.fa 1 (.tmp 14))),
 (rO 16 (.ld none (.tmp 15))),
 (rO 17 (.len false (.tmp 16))),
 (rO 18 (.bin .gtr (.tmp 17) (.const (.int .i64 256)))),
 (rO 19 (.mv (.tmp 18))),
 ⟨(some 20), (.fa 1 (.tmp 1)), (some (19, false))⟩,
 ⟨(some 21), (.fa 0 (.tmp 20)), (some (19, false))⟩,
 ⟨(some 22), (.ld none (.tmp 21)), (some (19, false))⟩,
 ⟨(some 23), (.nt (.tmp 22)), (some (19, false))⟩,
 ⟨(some 24), (.mv (.tmp 23)), (some (19, false))⟩,
 ⟨(some 25), (.fa 1 (.tmp 1)), (some (24, true))⟩,
 ⟨(some 26), (.fa 1 (.tmp 25)), (some (24, true))⟩,
 ⟨(some 27), (.ld none (.tmp 26)), (some (24, true))⟩,
 ⟨(some 28), (.bin .neq (.tmp 27) (.const (.string { data := #[] }))), (some (24, true))⟩,
 ⟨(some 29), (.pick (.tmp 24) (.tmp 28) (.const (.bool false))), (some (19, false))⟩,
 (rO 30 (.pick (.tmp 19) (.const (.bool true)) (.tmp 29))),
 (rO 13 (.mv (.tmp 30)))])
 (.cond (.tmp 13) (.seq (.reg [(rO 2 (.mv (.const (.bool false))))])
 .ret)
 .skip)))))
 (.seq (.reg [(rO 31 (.fa 3 (.tmp 1))),
 (rO 32 (.ld none (.tmp 31))),
 (rO 33 (.bin .geq (.tmp 32) (.const (.int .i64 0)))),
 (rO 34 (.mv (.tmp 33))),
 ⟨(some 35), (.fa 3 (.tmp 1)), (some (34, true))⟩,
 ⟨(some 36), (.ld none (.tmp 35)), (some (34, true))⟩,
 ⟨(some 37), (.bin .leq (.tmp 36) (.const (.int .i64 1099511627776))), (some (34, true))⟩,
 (rO 38 (.pick (.tmp 34) (.tmp 37) (.const (.bool false)))),
 (rO 39 (.mv (.tmp 38))),
 ⟨(some 40), (.fa 4 (.tmp 1)), (some (39, true))⟩,
 ⟨(some 41), (.ld none (.tmp 40)), (some (39, true))⟩,
 ⟨(some 42), (.fa 3 (.tmp 1)), (some (39, true))⟩,
 ⟨(some 43), (.ld none (.tmp 42)), (some (39, true))⟩,
 ⟨(some 44), (.bin .gtr (.tmp 41) (.tmp 43)), (some (39, true))⟩,
 (rO 45 (.pick (.tmp 39) (.tmp 44) (.const (.bool false)))),
 (rO 46 (.mv (.tmp 45))),
 ⟨(some 47), (.fa 4 (.tmp 1)), (some (46, true))⟩,
 ⟨(some 48), (.ld none (.tmp 47)), (some (46, true))⟩,
 ⟨(some 49), (.bin .eql (.tmp 48) (.const (.int .i64 4611686018427387904))), (some (46, true))⟩,
 ⟨(some 50), (.mv (.tmp 49)), (some (46, true))⟩,
 ⟨(some 51), (.fa 4 (.tmp 1)), (some (50, false))⟩,
 ⟨(some 52), (.ld none (.tmp 51)), (some (50, false))⟩,
 ⟨(some 53), (.bin .leq (.tmp 52) (.const (.int .i64 1099511627777))), (some (50, false))⟩,
 ⟨(some 54), (.pick (.tmp 50) (.const (.bool true)) (.tmp 53)), (some (46, true))⟩,
 (rO 55 (.pick (.tmp 46) (.tmp 54) (.const (.bool false)))),
 (rO 2 (.mv (.tmp 55)))])
 .ret)))
def r65 : List RV := [.tmp 2]
theorem ok65 : FnOk Try.prog 65 56 c65 r65 := ⟨[], _, _, Try.func65, rfl, rfl, by kernel_rfl, by kernel_rfl, by kernel_rfl⟩
/-- vouch/fact.Held$1 -/
def c78 : C := (.seq (.reg [(rO 6 (.mv (.const (.int .i64 0))))])
 (.seq (.reg [(rO 7 (.mv (.tmp 0))),
 (rO 8 (.mv (.tmp 2))),
 (rO 9 (.mx true (.tmp 7) (.tmp 8))),
 (rO 10 (.mv (.tmp 1))),
 (rO 11 (.mx false (.tmp 9) (.tmp 10))),
 (rO 6 (.mv (.tmp 11)))])
 .ret))
def r78 : List RV := [.tmp 6]
theorem ok78 : FnOk Try.prog 78 12 c78 r78 := ⟨[], _, _, Try.func78, rfl, rfl, by kernel_rfl, by kernel_rfl, by kernel_rfl⟩
/-- vouch/codec.Check -/
def c79 : C := (.seq (.reg [(rO 1 (.box 139 (.tmp 0))),
 (rO 2 (.mv (.const (.int .i64 0))))])
 (.seq (.block 0 (.seq (.reg [(rO 4 (.fa 0 (.tmp 1))),
 (rO 5 (.ld none (.tmp 4))),
 (rO 6 (.call 99 [(.tmp 5)])),
 (rO 7 (.nt (.tmp 6))),
 (rO 3 (.mv (.tmp 7)))])
 (.cond (.tmp 3) (.seq (.reg [(rO 2 (.mv (.const (.int .i64 13))))])
 .ret)
 (.seq (.reg [(rO 9 (.ld (some 16) (.tmp 1))),
 (rO 10 (.call 100 [(.tmp 9)])),
 (rO 11 (.nt (.tmp 10))),
 (rO 12 (.mv (.tmp 11))),
 ⟨(some 13), (.ld (some 16) (.tmp 1)), (some (12, false))⟩,
 ⟨(some 14), (.call 101 [(.tmp 13)]), (some (12, false))⟩,
 ⟨(some 15), (.nt (.tmp 14)), (some (12, false))⟩,
 (rO 16 (.pick (.tmp 12) (.const (.bool true)) (.tmp 15))),
 (rO 17 (.mv (.tmp 16))),
 ⟨(some 18), (.ld (some 16) (.tmp 1)), (some (17, false))⟩,
 ⟨(some 19), (.call 102 [(.tmp 18)]), (some (17, false))⟩,
 ⟨(some 20), (.nt (.tmp 19)), (some (17, false))⟩,
 (rO 21 (.pick (.tmp 17) (.const (.bool true)) (.tmp 20))),
 (rO 8 (.mv (.tmp 21)))])
 (.cond (.tmp 8) (.seq (.reg [(rO 2 (.mv (.const (.int .i64 1))))])
 .ret)
 .skip)))))
 (.seq (.reg [(rO 2 (.mv (.const (.int .i64 0))))])
 .ret)))
def r79 : List RV := [.tmp 2]
theorem ok79 : FnOk Try.prog 79 22 c79 r79 := ⟨[], _, _, Try.func79, rfl, rfl, by kernel_rfl, by kernel_rfl, by kernel_rfl⟩
def c80_b2 : C := (.seq (.reg [(rO 85 (.mv (.tmp 0))),
 (rO 86 (.nilc (.tmp 85))),
 (rO 87 (.fa 0 (.tmp 86))),
 (rO 88 (.fa 0 (.tmp 87))),
 (rO 89 (.ld none (.tmp 88))),
 (rO 90 (.mv (.const (.int .i64 0))))])
 (.block 2 (.loop (.seq (.reg [(rO 91 (.bin .lss (.tmp 90) (.tmp 89)))])
 (.seq (.cond (.tmp 91) .skip
 (.exit 2))
 (.seq (.block 3 (.seq (.reg [(rO 92 (.mv (.tmp 90))),
 (rO 14 (.mv (.tmp 92)))])
 (.reg [(rO 93 (.mv (.tmp 10))),
 (rO 94 (.mv (.tmp 0))),
 (rO 95 (.mv (.tmp 14))),
 (rO 96 (.mv (.tmp 7))),
 (rO 97 (.call 104 [(.tmp 94), (.tmp 95), (.tmp 96), (.const (.int .i64 1))])),
 (rO 98 (.app 139 16 176 (.tmp 93) (.tmp 97))),
 (rO 10 (.mv (.tmp 98)))])))
 (.reg [(rO 99 (.bin .add (.tmp 90) (.const (.int .i64 1)))),
 (rO 90 (.mv (.tmp 99)))])))))))
def c80_t2 : C := (.seq (.reg [(rO 100 (.mv (.tmp 10))),
 (rO 4 (.mv (.tmp 100)))])
 .ret)
def c80_s2 : C := .seq c80_b2 c80_t2
def c80_b0 : C := (.seq (.reg [(rO 66 (.fa 14 (.tmp 3))),
 (rO 67 (.ld none (.tmp 66))),
 (rO 68 (.len true (.tmp 67))),
 (rO 69 (.mv (.const (.int .i64 0))))])
 (.block 0 (.loop (.seq (.reg [(rO 70 (.bin .lss (.tmp 69) (.tmp 68)))])
 (.seq (.cond (.tmp 70) .skip
 (.exit 0))
 (.seq (.block 1 (.seq (.reg [(rO 71 (.ia 3 (.tmp 67) (.tmp 69))),
 (rO 72 (.ld (some 3) (.tmp 71))),
 (rO 13 (.new 33 [.string ⟨#[]⟩, .bool false, .string ⟨#[]⟩])),
 ⟨none, (.st 3 (.tmp 13) (.tmp 72)), none⟩])
 (.reg [(rO 73 (.mv (.tmp 11))),
 (rO 74 (.fa 0 (.tmp 13))),
 (rO 75 (.ld none (.tmp 74))),
 (rO 76 (.lit 9 1 1 [.string ⟨#[]⟩] [(0, 1, (.tmp 75))])),
 (rO 77 (.app 9 1 16 (.tmp 73) (.tmp 76))),
 (rO 11 (.mv (.tmp 77)))])))
 (.reg [(rO 78 (.bin .add (.tmp 69) (.const (.int .i64 1)))),
 (rO 69 (.mv (.tmp 78)))])))))))
def c80_t0 : C := (.seq (.reg [(rO 79 (.mv (.tmp 0))),
 (rO 80 (.nilc (.tmp 79))),
 (rO 81 (.fa 9 (.tmp 80))),
 (rO 82 (.ld none (.tmp 81))),
 (rO 83 (.mv (.tmp 11))),
 (rO 84 (.call 10 [(.tmp 82), (.tmp 83)]))])
 c80_s2)
def c80_s0 : C := .seq c80_b0 c80_t0
def c80_br47 : C := (.reg [(rO 47 (.fa 5 (.tmp 3))),
 (rO 48 (.ld none (.tmp 47))),
 (rO 49 (.mv (.tmp 7))),
 (rO 50 (.mv (.tmp 8))),
 (rO 51 (.bld [.int .i64 (0), .int .i64 (0), .int .i64 (0)] [(0, 1, (.tmp 48)), (1, 1, (.tmp 49)), (2, 1, (.tmp 50))])),
 (rO 9 (.new 188 [.int .i64 (0), .int .i64 (0), .int .i64 (0)])),
 ⟨none, (.st 3 (.tmp 9) (.tmp 51)), none⟩])
def c80_tr47 : C := (.seq (.draw [⟨(rO 52 (.mv (.tmp 0))), .p⟩,
 ⟨(rO 53 (.nilc (.tmp 52))), .p⟩,
 ⟨(rO 54 (.fa 10 (.tmp 53))), .p⟩,
 ⟨(rO 55 (.ld none (.tmp 54))), .l⟩,
 ⟨(rO 56 (.fa 3 (.tmp 3))), .p⟩,
 ⟨(rO 57 (.ld none (.tmp 56))), .l⟩,
 ⟨(rO 58 (.ld (some 3) (.tmp 9))), .l⟩,
 ⟨⟨none, (.mset (.put true) (.tmp 55) (.tmp 57) (.tmp 58)), none⟩, .m⟩])
 (.seq (.reg [(rO 59 (.mv (.tmp 6))),
 (rO 60 (.ld (some 3) (.tmp 9))),
 (rO 61 (.callv (.tmp 59) [(.tmp 60)])),
 (rO 62 (.lit 139 1 16 [.int .i64 (0), .int .i64 (0), .int .i64 (0), .int .i64 (0), .int .i64 (0), .int .i64 (0), .string ⟨#[]⟩, .int .i64 (0), .int .i64 (0), .bool false, .string ⟨#[]⟩, .bool false, .int .i64 (0), .int .i64 (0), .slice none 0 0, .slice none 0 0] [(0, 16, (.tmp 61))])),
 (rO 10 (.mv (.tmp 62)))])
 (.seq (.seq (.reg [(rO 63 (.mv (.tmp 8))),
 (rO 64 (.bin .neq (.tmp 63) (.const (.int .i64 0))))])
 (.cond (.tmp 64) (.seq (.reg [(rO 65 (.mv (.tmp 10))),
 (rO 4 (.mv (.tmp 65)))])
 .ret)
 .skip))
 (.seq (.reg [(rO 11 (.mv (.const (.slice none 0 0))))])
 c80_s0))))
def c80_sr47 : C := .seq c80_br47 c80_tr47
/-- (*vouch/origin.Origin).commit -/
def c80 : C := (.seq (.reg [(rO 3 (.box 139 (.tmp 1))),
 (rO 4 (.mv (.const (.slice none 0 0))))])
 (.seq (.draw [⟨(rO 15 (.mv (.tmp 0))), .p⟩,
 ⟨(rO 16 (.nilc (.tmp 15))), .p⟩,
 ⟨(rO 17 (.fa 10 (.tmp 16))), .p⟩,
 ⟨(rO 18 (.ld none (.tmp 17))), .l⟩,
 ⟨(rO 19 (.fa 3 (.tmp 3))), .p⟩,
 ⟨(rO 20 (.ld none (.tmp 19))), .l⟩,
 ⟨(rO 21 (.look (.get true false) (.agg #[.int .i64 (0), .int .i64 (0), .int .i64 (0)]) (.tmp 18) (.tmp 20))), .l⟩,
 ⟨(rO 5 (.new 188 [.int .i64 (0), .int .i64 (0), .int .i64 (0)])), .f⟩,
 ⟨⟨none, (.st 3 (.tmp 5) (.tmp 21)), none⟩, .m⟩])
 (.seq (.seq (.reg [(rO 22 (.fa 5 (.tmp 3))),
 (rO 23 (.ld none (.tmp 22))),
 (rO 24 (.fa 0 (.tmp 5))),
 (rO 25 (.ld none (.tmp 24))),
 (rO 26 (.bin .lss (.tmp 23) (.tmp 25)))])
 (.cond (.tmp 26) (.seq (.reg [(rO 4 (.mv (.const (.slice none 0 0))))])
 .ret)
 .skip))
 (.seq (.reg [(rO 27 (.fnl (.clo 103) [(.tmp 3)])),
 (rO 6 (.mv (.tmp 27)))])
 (.seq (.seq (.reg [(rO 28 (.fa 5 (.tmp 3))),
 (rO 29 (.ld none (.tmp 28))),
 (rO 30 (.fa 0 (.tmp 5))),
 (rO 31 (.ld none (.tmp 30))),
 (rO 32 (.bin .eql (.tmp 29) (.tmp 31)))])
 (.cond (.tmp 32) (.seq (.reg [(rO 33 (.mv (.tmp 6))),
 (rO 34 (.ld (some 3) (.tmp 5))),
 (rO 35 (.callv (.tmp 33) [(.tmp 34)])),
 (rO 36 (.lit 139 1 16 [.int .i64 (0), .int .i64 (0), .int .i64 (0), .int .i64 (0), .int .i64 (0), .int .i64 (0), .string ⟨#[]⟩, .int .i64 (0), .int .i64 (0), .bool false, .string ⟨#[]⟩, .bool false, .int .i64 (0), .int .i64 (0), .slice none 0 0, .slice none 0 0] [(0, 16, (.tmp 35))])),
 (rO 4 (.mv (.tmp 36)))])
 .ret)
 .skip))
 (.seq (.draw [⟨(rO 38 (.mv (.tmp 0))), .p⟩,
 ⟨(rO 39 (.nilc (.tmp 38))), .p⟩,
 ⟨(rO 40 (.fa 8 (.tmp 39))), .p⟩,
 ⟨(rO 41 (.ld none (.tmp 40))), .l⟩,
 ⟨(rO 42 (.fa 14 (.tmp 3))), .p⟩,
 ⟨(rO 43 (.ld none (.tmp 42))), .l⟩,
 ⟨(rO 44 (.call 9 [(.tmp 41), (.tmp 43)])), .m⟩,
 ⟨(rO 37 (.mv (.tmp 44))), .p⟩,
 ⟨(rO 45 (.ext 0 (.tmp 37))), .p⟩,
 ⟨(rO 46 (.ext 1 (.tmp 37))), .p⟩,
 ⟨(rO 7 (.mv (.tmp 45))), .p⟩,
 ⟨(rO 8 (.mv (.tmp 46))), .p⟩])
 c80_sr47))))))
def r80 : List RV := [.tmp 4]
theorem ok80 : FnOk Try.prog 80 101 c80 r80 := ⟨[], _, _, Try.func80, rfl, rfl, by kernel_rfl, by kernel_rfl, by kernel_rfl⟩
/-- (*vouch/origin.Origin).read -/
def c81 : C := (.seq (.reg [(rO 3 (.box 139 (.tmp 1))),
 (rO 4 (.mv (.const (.slice none 0 0))))])
 (.seq (.reg [(rO 10 (.mv (.tmp 0))),
 (rO 11 (.call 26 [(.tmp 10)])),
 (rO 5 (.mv (.tmp 11)))])
 (.seq (.reg [(rO 12 (.fa 4 (.tmp 3))),
 (rO 13 (.ld none (.tmp 12))),
 (rO 14 (.fa 5 (.tmp 3))),
 (rO 15 (.ld none (.tmp 14))),
 (rO 16 (.bld [.int .i64 (0), .int .i64 (0), .int .i64 (0), .int .i64 (0), .int .i64 (0), .int .i64 (0), .string ⟨#[]⟩, .int .i64 (0), .int .i64 (0), .bool false, .string ⟨#[]⟩, .bool false, .int .i64 (0), .int .i64 (0), .slice none 0 0, .slice none 0 0] [(0, 1, (.const (.int .i64 6))), (4, 1, (.tmp 13)), (5, 1, (.tmp 15))])),
 (rO 6 (.new 139 [.int .i64 (0), .int .i64 (0), .int .i64 (0), .int .i64 (0), .int .i64 (0), .int .i64 (0), .string ⟨#[]⟩, .int .i64 (0), .int .i64 (0), .bool false, .string ⟨#[]⟩, .bool false, .int .i64 (0), .int .i64 (0), .slice none 0 0, .slice none 0 0])),
 ⟨none, (.st 16 (.tmp 6) (.tmp 16)), none⟩])
 (.seq (.seq (.reg [(rO 17 (.fa 7 (.tmp 3))),
 (rO 18 (.fa 0 (.tmp 17))),
 (rO 19 (.ld none (.tmp 18))),
 (rO 20 (.mv (.tmp 5))),
 (rO 21 (.bin .gtr (.tmp 19) (.tmp 20)))])
 (.cond (.tmp 21) (.seq (.reg [(rO 22 (.fa 12 (.tmp 6))),
 ⟨none, (.st 1 (.tmp 22) (.const (.int .i64 21))), none⟩])
 (.seq (.reg [(rO 23 (.ld (some 16) (.tmp 6))),
 (rO 24 (.lit 139 1 16 [.int .i64 (0), .int .i64 (0), .int .i64 (0), .int .i64 (0), .int .i64 (0), .int .i64 (0), .string ⟨#[]⟩, .int .i64 (0), .int .i64 (0), .bool false, .string ⟨#[]⟩, .bool false, .int .i64 (0), .int .i64 (0), .slice none 0 0, .slice none 0 0] [(0, 16, (.tmp 23))])),
 (rO 4 (.mv (.tmp 24)))])
 .ret))
 .skip))
 (.seq (.drawx [⟨(rO 26 (.mv (.tmp 0))), .p⟩,
 ⟨(rO 27 (.nilc (.tmp 26))), .p⟩,
 ⟨(rO 28 (.fa 8 (.tmp 27))), .p⟩,
 ⟨(rO 29 (.ld none (.tmp 28))), .l⟩,
 ⟨(rO 30 (.fa 6 (.tmp 3))), .p⟩,
 ⟨(rO 31 (.ld none (.tmp 30))), .l⟩,
 ⟨(rO 32 (.fa 7 (.tmp 3))), .p⟩,
 ⟨(rO 33 (.fa 1 (.tmp 32))), .p⟩,
 ⟨(rO 34 (.ld none (.tmp 33))), .l⟩,
 ⟨(rO 35 (.bin .sub (.tmp 34) (.const (.int .i64 1)))), .p⟩,
 ⟨(rO 36 (.mv (.tmp 5))), .p⟩,
 ⟨(rO 37 (.mx false (.tmp 35) (.tmp 36))), .p⟩,
 ⟨(rO 38 (.call 12 [(.tmp 29), (.tmp 31), (.tmp 37)])), .g⟩,
 ⟨(rO 25 (.mv (.tmp 38))), .p⟩,
 ⟨(rO 39 (.ext 0 (.tmp 25))), .p⟩,
 ⟨(rO 40 (.ext 1 (.tmp 25))), .p⟩,
 ⟨(rO 7 (.new 39 [.string ⟨#[]⟩, .bool false, .string ⟨#[]⟩, .int .i64 (0), .int .i64 (0)])), .f⟩,
 ⟨⟨none, (.st 5 (.tmp 7) (.tmp 39)), none⟩, .m⟩,
 ⟨(rO 8 (.mv (.tmp 40))), .p⟩])
 (.seq (.seq (.reg [(rO 41 (.mv (.tmp 8))),
 (rO 42 (.bin .neq (.tmp 41) (.const (.int .i64 0))))])
 (.cond (.tmp 42) (.seq (.reg [(rO 43 (.mv (.tmp 8))),
 (rO 44 (.fa 12 (.tmp 6))),
 ⟨none, (.st 1 (.tmp 44) (.tmp 43)), none⟩])
 (.seq (.reg [(rO 45 (.ld (some 16) (.tmp 6))),
 (rO 46 (.lit 139 1 16 [.int .i64 (0), .int .i64 (0), .int .i64 (0), .int .i64 (0), .int .i64 (0), .int .i64 (0), .string ⟨#[]⟩, .int .i64 (0), .int .i64 (0), .bool false, .string ⟨#[]⟩, .bool false, .int .i64 (0), .int .i64 (0), .slice none 0 0, .slice none 0 0] [(0, 16, (.tmp 45))])),
 (rO 4 (.mv (.tmp 46)))])
 .ret))
 .skip))
 (.seq (.drawx [⟨(rO 47 (.fa 1 (.tmp 7))), .p⟩,
 ⟨(rO 48 (.ld (some 2) (.tmp 47))), .l⟩,
 ⟨(rO 49 (.fa 3 (.tmp 7))), .p⟩,
 ⟨(rO 50 (.ld none (.tmp 49))), .l⟩,
 ⟨(rO 51 (.fa 4 (.tmp 7))), .p⟩,
 ⟨(rO 52 (.ld none (.tmp 51))), .l⟩,
 ⟨(rO 53 (.mv (.tmp 5))), .p⟩,
 ⟨(rO 54 (.bin .add (.tmp 53) (.const (.int .i64 1)))), .p⟩,
 ⟨(rO 55 (.mx false (.tmp 52) (.tmp 54))), .p⟩,
 ⟨(rO 56 (.bld [.int .i64 (0), .int .i64 (0)] [(0, 1, (.tmp 50)), (1, 1, (.tmp 55))])), .p⟩,
 ⟨(rO 57 (.fa 9 (.tmp 6))), .p⟩,
 ⟨⟨none, (.st 2 (.tmp 57) (.tmp 48)), none⟩, .w⟩,
 ⟨(rO 58 (.fa 7 (.tmp 6))), .p⟩,
 ⟨⟨none, (.st 2 (.tmp 58) (.tmp 56)), none⟩, .m⟩])
 (.seq (.drawx [⟨(rO 59 (.fa 6 (.tmp 3))), .p⟩,
 ⟨(rO 60 (.ld none (.tmp 59))), .l⟩,
 ⟨(rO 61 (.mv (.tmp 0))), .p⟩,
 ⟨(rO 62 (.nilc (.tmp 61))), .p⟩,
 ⟨(rO 63 (.fa 0 (.tmp 62))), .p⟩,
 ⟨(rO 64 (.fa 0 (.tmp 63))), .p⟩,
 ⟨(rO 65 (.ld none (.tmp 64))), .l⟩,
 ⟨(rO 66 (.call 105 [(.tmp 60), (.tmp 65)])), .g⟩,
 ⟨(rO 67 (.fa 6 (.tmp 3))), .p⟩,
 ⟨(rO 68 (.ld none (.tmp 67))), .l⟩,
 ⟨(rO 69 (.fa 1 (.tmp 7))), .p⟩,
 ⟨(rO 70 (.ld (some 2) (.tmp 69))), .l⟩,
 ⟨(rO 71 (.fa 3 (.tmp 7))), .p⟩,
 ⟨(rO 72 (.ld none (.tmp 71))), .l⟩,
 ⟨(rO 73 (.fa 4 (.tmp 7))), .p⟩,
 ⟨(rO 74 (.ld none (.tmp 73))), .l⟩,
 ⟨(rO 75 (.bld [.int .i64 (0), .int .i64 (0)] [(0, 1, (.tmp 72)), (1, 1, (.tmp 74))])), .p⟩,
 ⟨(rO 76 (.mv (.tmp 5))), .p⟩,
 ⟨(rO 77 (.bld [.int .i64 (0), .int .i64 (0), .int .i64 (0), .int .i64 (0), .int .i64 (0), .int .i64 (0), .string ⟨#[]⟩, .int .i64 (0), .int .i64 (0), .bool false, .string ⟨#[]⟩, .bool false, .int .i64 (0), .int .i64 (0), .slice none 0 0, .slice none 0 0] [(0, 1, (.const (.int .i64 7))), (1, 1, (.tmp 66)), (6, 1, (.tmp 68)), (9, 2, (.tmp 70)), (7, 2, (.tmp 75)), (13, 1, (.tmp 76))])), .p⟩,
 ⟨(rO 9 (.new 139 [.int .i64 (0), .int .i64 (0), .int .i64 (0), .int .i64 (0), .int .i64 (0), .int .i64 (0), .string ⟨#[]⟩, .int .i64 (0), .int .i64 (0), .bool false, .string ⟨#[]⟩, .bool false, .int .i64 (0), .int .i64 (0), .slice none 0 0, .slice none 0 0])), .f⟩,
 ⟨⟨none, (.st 16 (.tmp 9) (.tmp 77)), none⟩, .m⟩])
 (.seq (.reg [(rO 78 (.ld (some 16) (.tmp 6))),
 (rO 79 (.ld (some 16) (.tmp 9))),
 (rO 80 (.lit 139 2 16 [.int .i64 (0), .int .i64 (0), .int .i64 (0), .int .i64 (0), .int .i64 (0), .int .i64 (0), .string ⟨#[]⟩, .int .i64 (0), .int .i64 (0), .bool false, .string ⟨#[]⟩, .bool false, .int .i64 (0), .int .i64 (0), .slice none 0 0, .slice none 0 0, .int .i64 (0), .int .i64 (0), .int .i64 (0), .int .i64 (0), .int .i64 (0), .int .i64 (0), .string ⟨#[]⟩, .int .i64 (0), .int .i64 (0), .bool false, .string ⟨#[]⟩, .bool false, .int .i64 (0), .int .i64 (0), .slice none 0 0, .slice none 0 0] [(0, 16, (.tmp 78)), (16, 16, (.tmp 79))])),
 (rO 4 (.mv (.tmp 80)))])
 .ret)))))))))
def r81 : List RV := [.tmp 4]
theorem ok81 : FnOk Try.prog 81 81 c81 r81 := ⟨[999999], _, _, Try.func81, rfl, rfl, by kernel_rfl, by kernel_rfl, by kernel_rfl⟩
/-- (*vouch/tx.Tx).ask -/
def c83 : C := (.seq (.reg [(rO 6 (.new 139 [.int .i64 (0), .int .i64 (0), .int .i64 (0), .int .i64 (0), .int .i64 (0), .int .i64 (0), .string ⟨#[]⟩, .int .i64 (0), .int .i64 (0), .bool false, .string ⟨#[]⟩, .bool false, .int .i64 (0), .int .i64 (0), .slice none 0 0, .slice none 0 0]))])
 (.seq (.reg [(rO 7 (.mv (.tmp 0))),
 (rO 8 (.mv (.tmp 0))),
 (rO 9 (.mv (.tmp 0))),
 (rO 10 (.mv (.tmp 1))),
 (rO 11 (.mv (.tmp 2))),
 (rO 12 (.nilc (.tmp 7))),
 (rO 13 (.fa 2 (.tmp 12))),
 (rO 14 (.fa 0 (.tmp 13))),
 ⟨none, (.st 1 (.tmp 14) (.tmp 10)), none⟩,
 (rO 15 (.nilc (.tmp 8))),
 (rO 16 (.fa 2 (.tmp 15))),
 (rO 17 (.fa 4 (.tmp 16))),
 ⟨none, (.st 1 (.tmp 17) (.tmp 11)), none⟩,
 (rO 18 (.nilc (.tmp 9))),
 (rO 19 (.fa 2 (.tmp 18))),
 (rO 20 (.fa 6 (.tmp 19))),
 ⟨none, (.st 1 (.tmp 20) (.const (.int .i64 0))), none⟩])
 (.seq (.reg [(rO 21 (.mv (.tmp 0))),
 (rO 22 (.nilc (.tmp 21))),
 (rO 23 (.fa 2 (.tmp 22))),
 (rO 24 (.fa 5 (.tmp 23))),
 (rO 25 (.ld none (.tmp 24))),
 (rO 26 (.bin .add (.tmp 25) (.const (.int .i64 1)))),
 (rO 27 (.nilc (.tmp 21))),
 (rO 28 (.fa 2 (.tmp 27))),
 (rO 29 (.fa 5 (.tmp 28))),
 ⟨none, (.st 1 (.tmp 29) (.tmp 26)), none⟩])
 (.seq (.reg [(rO 30 (.mv (.tmp 0))),
 (rO 31 (.call 106 [(.tmp 30)])),
 ⟨none, (.st 16 (.tmp 6) (.tmp 31)), none⟩])
 .ret))))
def r83 : List RV := [.agg 6 16]
theorem ok83 : FnOk Try.prog 83 32 c83 r83 := ⟨[], _, _, Try.func83, rfl, rfl, by kernel_rfl, by kernel_rfl, by kernel_rfl⟩
/-- (*vouch/tx.Tx).take -/
def c84 : C := (.seq (.reg [(rO 4 (.box 31 (.tmp 1))),
 (rO 5 (.box 71 (.tmp 2))),
 (rO 6 (.mv (.const (.bool false))))])
 (.seq (.draw [⟨(rO 10 (.mv (.tmp 0))), .p⟩,
 ⟨(rO 11 (.nilc (.tmp 10))), .p⟩,
 ⟨(rO 12 (.fa 2 (.tmp 11))), .p⟩,
 ⟨(rO 13 (.fa 2 (.tmp 12))), .p⟩,
 ⟨(rO 14 (.ld (some 2) (.tmp 13))), .l⟩,
 ⟨(rO 15 (.fa 0 (.tmp 5))), .p⟩,
 ⟨(rO 16 (.ld none (.tmp 15))), .l⟩,
 ⟨(rO 17 (.fa 1 (.tmp 5))), .p⟩,
 ⟨(rO 18 (.ld none (.tmp 17))), .l⟩,
 ⟨(rO 19 (.call 108 [(.tmp 16), (.tmp 18)])), .g⟩,
 ⟨(rO 20 (.call 107 [(.tmp 14), (.tmp 19)])), .g⟩,
 ⟨(rO 9 (.mv (.tmp 20))), .p⟩,
 ⟨(rO 21 (.ext 0 (.tmp 9))), .p⟩,
 ⟨(rO 22 (.ext 1 (.tmp 9))), .p⟩,
 ⟨(rO 7 (.new 71 [.int .i64 (0), .int .i64 (0)])), .f⟩,
 ⟨⟨none, (.st 2 (.tmp 7) (.tmp 21)), none⟩, .m⟩,
 ⟨(rO 8 (.mv (.tmp 22))), .p⟩])
 (.seq (.seq (.reg [(rO 23 (.mv (.tmp 8)))])
 (.cond (.tmp 23) (.seq (.reg [(rO 24 (.mv (.tmp 0))),
 (rO 25 (.ld (some 2) (.tmp 7))),
 (rO 26 (.nilc (.tmp 24))),
 (rO 27 (.fa 2 (.tmp 26))),
 (rO 28 (.fa 2 (.tmp 27))),
 ⟨none, (.st 2 (.tmp 28) (.tmp 25)), none⟩])
 (.seq (.draw [⟨(rO 29 (.mv (.tmp 0))), .p⟩,
 ⟨(rO 30 (.mv (.tmp 0))), .p⟩,
 ⟨(rO 31 (.nilc (.tmp 30))), .p⟩,
 ⟨(rO 32 (.fa 2 (.tmp 31))), .p⟩,
 ⟨(rO 33 (.fa 7 (.tmp 32))), .p⟩,
 ⟨(rO 34 (.ld none (.tmp 33))), .l⟩,
 ⟨(rO 35 (.mv (.tmp 0))), .p⟩,
 ⟨(rO 36 (.nilc (.tmp 35))), .p⟩,
 ⟨(rO 37 (.fa 2 (.tmp 36))), .p⟩,
 ⟨(rO 38 (.fa 4 (.tmp 37))), .p⟩,
 ⟨(rO 39 (.ld none (.tmp 38))), .l⟩,
 ⟨(rO 40 (.ld (some 2) (.tmp 4))), .l⟩,
 ⟨(rO 41 (.bld [.string ⟨#[]⟩, .bool false, .string ⟨#[]⟩] [(0, 1, (.tmp 39)), (1, 2, (.tmp 40))])), .p⟩,
 ⟨(rO 42 (.lit 81 1 3 [.string ⟨#[]⟩, .bool false, .string ⟨#[]⟩] [(0, 3, (.tmp 41))])), .f⟩,
 ⟨(rO 43 (.app 81 3 40 (.tmp 34) (.tmp 42))), .m⟩,
 ⟨(rO 44 (.nilc (.tmp 29))), .p⟩,
 ⟨(rO 45 (.fa 2 (.tmp 44))), .p⟩,
 ⟨(rO 46 (.fa 7 (.tmp 45))), .p⟩,
 ⟨⟨none, (.st 1 (.tmp 46) (.tmp 43)), none⟩, .m⟩])
 (.reg [(rO 47 (.mv (.tmp 0))),
 (rO 48 (.call 64 [(.tmp 47), (.const (.int .i64 0)), (.const (.int .i64 0))]))])))
 .skip))
 (.seq (.reg [(rO 49 (.mv (.tmp 8))),
 (rO 6 (.mv (.tmp 49)))])
 .ret))))
def r84 : List RV := [.tmp 6]
theorem ok84 : FnOk Try.prog 84 50 c84 r84 := ⟨[], _, _, Try.func84, rfl, rfl, by kernel_rfl, by kernel_rfl, by kernel_rfl⟩
/-- vouch/codec.known -/
def c99 : C := (.seq (.reg [(rO 2 (.mv (.const (.bool false))))])
 (.seq (.reg [(rO 3 (.mv (.tmp 0))),
 (rO 4 (.bin .geq (.tmp 3) (.const (.int .i64 1)))),
 (rO 5 (.mv (.tmp 4))),
 ⟨(some 6), (.mv (.tmp 0)), (some (5, true))⟩,
 ⟨(some 7), (.bin .leq (.tmp 6) (.const (.int .i64 11))), (some (5, true))⟩,
 (rO 8 (.pick (.tmp 5) (.tmp 7) (.const (.bool false)))),
 (rO 2 (.mv (.tmp 8)))])
 .ret))
def r99 : List RV := [.tmp 2]
theorem ok99 : FnOk Try.prog 99 9 c99 r99 := ⟨[], _, _, Try.func99, rfl, rfl, by kernel_rfl, by kernel_rfl, by kernel_rfl⟩
/-- vouch/codec.unused -/
def c100 : C := (.seq (.reg [(rO 1 (.box 139 (.tmp 0))),
 (rO 2 (.mv (.const (.bool false))))])
 (.seq (.reg [(rO 4 (.ld (some 16) (.tmp 1))),
 (rO 5 (.call 115 [(.tmp 4)])),
 (rO 3 (.new 139 [.int .i64 (0), .int .i64 (0), .int .i64 (0), .int .i64 (0), .int .i64 (0), .int .i64 (0), .string ⟨#[]⟩, .int .i64 (0), .int .i64 (0), .bool false, .string ⟨#[]⟩, .bool false, .int .i64 (0), .int .i64 (0), .slice none 0 0, .slice none 0 0])),
 ⟨none, (.st 16 (.tmp 3) (.tmp 5)), none⟩])
 (.seq (.reg [(rO 6 (.fa 1 (.tmp 3))),
 (rO 7 (.ld none (.tmp 6))),
 (rO 8 (.bin .eql (.tmp 7) (.const (.int .i64 0)))),
 (rO 9 (.mv (.tmp 8))),
 ⟨(some 10), (.fa 2 (.tmp 3)), (some (9, true))⟩,
 ⟨(some 11), (.ld none (.tmp 10)), (some (9, true))⟩,
 ⟨(some 12), (.bin .eql (.tmp 11) (.const (.int .i64 0))), (some (9, true))⟩,
 (rO 13 (.pick (.tmp 9) (.tmp 12) (.const (.bool false)))),
 (rO 14 (.mv (.tmp 13))),
 ⟨(some 15), (.fa 3 (.tmp 3)), (some (14, true))⟩,
 ⟨(some 16), (.ld none (.tmp 15)), (some (14, true))⟩,
 ⟨(some 17), (.bin .eql (.tmp 16) (.const (.int .i64 0))), (some (14, true))⟩,
 (rO 18 (.pick (.tmp 14) (.tmp 17) (.const (.bool false)))),
 (rO 19 (.mv (.tmp 18))),
 ⟨(some 20), (.fa 4 (.tmp 3)), (some (19, true))⟩,
 ⟨(some 21), (.ld none (.tmp 20)), (some (19, true))⟩,
 ⟨(some 22), (.bin .eql (.tmp 21) (.const (.int .i64 0))), (some (19, true))⟩,
 (rO 23 (.pick (.tmp 19) (.tmp 22) (.const (.bool false)))),
 (rO 24 (.mv (.tmp 23))),
 ⟨(some 25), (.fa 5 (.tmp 3)), (some (24, true))⟩,
 ⟨(some 26), (.ld none (.tmp 25)), (some (24, true))⟩,
 ⟨(some 27), (.bin .eql (.tmp 26) (.const (.int .i64 0))), (some (24, true))⟩,
 (rO 28 (.pick (.tmp 24) (.tmp 27) (.const (.bool false)))),
 (rO 29 (.mv (.tmp 28))),
 ⟨(some 30), (.fa 6 (.tmp 3)), (some (29, true))⟩,
 ⟨(some 31), (.ld none (.tmp 30)), (some (29, true))⟩,
 ⟨(some 32), (.bin .eql (.tmp 31) (.const (.string { data := #[] }))), (some (29, true))⟩,
 (rO 33 (.pick (.tmp 29) (.tmp 32) (.const (.bool false)))),
 (rO 34 (.mv (.tmp 33))),
 ⟨(some 35), (.fa 7 (.tmp 3)), (some (34, true))⟩,
 ⟨(some 36), (.ld (some 2) (.tmp 35)), (some (34, true))⟩,
 ⟨(some 37), (.bld [.int .i64 (0), .int .i64 (0)] []), (some (34, true))⟩,
 ⟨(some 38), (.eqa false [.num, .num] (.tmp 36) (.tmp 37)), (some (34, true))⟩,
 (rO 39 (.pick (.tmp 34) (.tmp 38) (.const (.bool false)))),
 (rO 40 (.mv (.tmp 39))),
 ⟨(some 41), (.fa 9 (.tmp 3)), (some (40, true))⟩,
 ⟨(some 42), (.ld (some 2) (.tmp 41)), (some (40, true))⟩,
 ⟨(some 43), (.bld [.bool false, .string ⟨#[]⟩] []), (some (40, true))⟩,
 ⟨(some 44), (.eqa false [.truth, .text] (.tmp 42) (.tmp 43)), (some (40, true))⟩,
 (rO 45 (.pick (.tmp 40) (.tmp 44) (.const (.bool false)))),
 (rO 46 (.mv (.tmp 45))),
 ⟨(some 47), (.fa 11 (.tmp 3)), (some (46, true))⟩,
 ⟨(some 48), (.ld none (.tmp 47)), (some (46, true))⟩,
 ⟨(some 49), (.nt (.tmp 48)), (some (46, true))⟩,
 (rO 50 (.pick (.tmp 46) (.tmp 49) (.const (.bool false)))),
 (rO 51 (.mv (.tmp 50))),
 ⟨(some 52), (.fa 12 (.tmp 3)), (some (51, true))⟩,
 ⟨(some 53), (.ld none (.tmp 52)), (some (51, true))⟩,
 ⟨(some 54), (.bin .eql (.tmp 53) (.const (.int .i64 0))), (some (51, true))⟩,
 (rO 55 (.pick (.tmp 51) (.tmp 54) (.const (.bool false)))),
 (rO 56 (.mv (.tmp 55))),
 ⟨(some 57), (.fa 13 (.tmp 3)), (some (56, true))⟩,
 ⟨(some 58), (.ld none (.tmp 57)), (some (56, true))⟩,
 ⟨(some 59), (.bin .eql (.tmp 58) (.const (.int .i64 0))), (some (56, true))⟩,
 (rO 60 (.pick (.tmp 56) (.tmp 59) (.const (.bool false)))),
 (rO 61 (.mv (.tmp 60))),
 ⟨(some 62), (.fa 14 (.tmp 3)), (some (61, true))⟩,
 ⟨(some 63), (.ld none (.tmp 62)), (some (61, true))⟩,
 ⟨(some 64), (.len true (.tmp 63)), (some (61, true))⟩,
 ⟨(some 65), (.bin .eql (.tmp 64) (.const (.int .i64 0))), (some (61, true))⟩,
 (rO 66 (.pick (.tmp 61) (.tmp 65) (.const (.bool false)))),
 (rO 67 (.mv (.tmp 66))),
 ⟨(some 68), (.fa 15 (.tmp 3)), (some (67, true))⟩,
 ⟨(some 69), (.ld none (.tmp 68)), (some (67, true))⟩,
 ⟨(some 70), (.len true (.tmp 69)), (some (67, true))⟩,
 ⟨(some 71), (.bin .eql (.tmp 70) (.const (.int .i64 0))), (some (67, true))⟩,
 (rO 72 (.pick (.tmp 67) (.tmp 71) (.const (.bool false)))),
 (rO 2 (.mv (.tmp 72)))])
 .ret)))
def r100 : List RV := [.tmp 2]
theorem ok100 : FnOk Try.prog 100 73 c100 r100 := ⟨[], _, _, Try.func100, rfl, rfl, by kernel_rfl, by kernel_rfl, by kernel_rfl⟩
/-- vouch/codec.numbers -/
def c101 : C := (.seq (.reg [(rO 1 (.box 139 (.tmp 0))),
 (rO 2 (.mv (.const (.bool false))))])
 (.seq (.reg [(rO 3 (.mv (.const (.int .i64 2147483647))))])
 (.seq (.seq (.reg [(rO 7 (.fa 1 (.tmp 1))),
 (rO 8 (.ld none (.tmp 7))),
 (rO 9 (.call 116 [(.tmp 8), (.const (.int .i64 0)), (.const (.int .i64 7))])),
 (rO 10 (.nt (.tmp 9))),
 (rO 11 (.mv (.tmp 10))),
 ⟨(some 12), (.fa 3 (.tmp 1)), (some (11, false))⟩,
 ⟨(some 13), (.ld none (.tmp 12)), (some (11, false))⟩,
 ⟨(some 14), (.call 116 [(.tmp 13), (.const (.int .i64 0)), (.const (.int .i64 63))]), (some (11, false))⟩,
 ⟨(some 15), (.nt (.tmp 14)), (some (11, false))⟩,
 (rO 16 (.pick (.tmp 11) (.const (.bool true)) (.tmp 15))),
 (rO 17 (.mv (.tmp 16))),
 ⟨(some 18), (.fa 4 (.tmp 1)), (some (17, false))⟩,
 ⟨(some 19), (.ld none (.tmp 18)), (some (17, false))⟩,
 ⟨(some 20), (.call 116 [(.tmp 19), (.const (.int .i64 0)), (.const (.int .i64 255))]), (some (17, false))⟩,
 ⟨(some 21), (.nt (.tmp 20)), (some (17, false))⟩,
 (rO 22 (.pick (.tmp 17) (.const (.bool true)) (.tmp 21)))])
 (.cond (.tmp 22) (.seq (.reg [(rO 2 (.mv (.const (.bool false))))])
 .ret)
 .skip))
 (.seq (.seq (.reg [(rO 23 (.fa 12 (.tmp 1))),
 (rO 24 (.ld none (.tmp 23))),
 (rO 25 (.call 116 [(.tmp 24), (.const (.int .i64 0)), (.const (.int .i64 255))])),
 (rO 26 (.nt (.tmp 25))),
 (rO 27 (.mv (.tmp 26))),
 ⟨(some 28), (.fa 13 (.tmp 1)), (some (27, false))⟩,
 ⟨(some 29), (.ld none (.tmp 28)), (some (27, false))⟩,
 ⟨(some 30), (.call 116 [(.tmp 29), (.const (.int .i64 0)), (.const (.int .i64 1099511627776))]), (some (27, false))⟩,
 ⟨(some 31), (.nt (.tmp 30)), (some (27, false))⟩,
 (rO 32 (.pick (.tmp 27) (.const (.bool true)) (.tmp 31)))])
 (.cond (.tmp 32) (.seq (.reg [(rO 2 (.mv (.const (.bool false))))])
 .ret)
 .skip))
 (.seq (.reg [(rO 33 (.fa 0 (.tmp 1))),
 (rO 34 (.ld none (.tmp 33))),
 (rO 35 (.bin .leq (.tmp 34) (.const (.int .i64 6)))),
 (rO 4 (.mv (.tmp 35)))])
 (.seq (.reg [(rO 36 (.fa 0 (.tmp 1))),
 (rO 37 (.ld none (.tmp 36))),
 (rO 38 (.bin .eql (.tmp 37) (.const (.int .i64 10)))),
 (rO 39 (.mv (.tmp 38))),
 ⟨(some 40), (.fa 0 (.tmp 1)), (some (39, false))⟩,
 ⟨(some 41), (.ld none (.tmp 40)), (some (39, false))⟩,
 ⟨(some 42), (.bin .eql (.tmp 41) (.const (.int .i64 11))), (some (39, false))⟩,
 (rO 43 (.pick (.tmp 39) (.const (.bool true)) (.tmp 42))),
 (rO 5 (.mv (.tmp 43)))])
 (.seq (.reg [(rO 44 (.fa 0 (.tmp 1))),
 (rO 45 (.ld none (.tmp 44))),
 (rO 46 (.bin .eql (.tmp 45) (.const (.int .i64 8)))),
 (rO 47 (.mv (.tmp 46))),
 ⟨(some 48), (.fa 0 (.tmp 1)), (some (47, false))⟩,
 ⟨(some 49), (.ld none (.tmp 48)), (some (47, false))⟩,
 ⟨(some 50), (.bin .eql (.tmp 49) (.const (.int .i64 9))), (some (47, false))⟩,
 (rO 51 (.pick (.tmp 47) (.const (.bool true)) (.tmp 50))),
 (rO 6 (.mv (.tmp 51)))])
 (.seq (.reg [(rO 52 (.mv (.tmp 4))),
 (rO 53 (.nt (.tmp 52))),
 (rO 54 (.mv (.tmp 53))),
 ⟨(some 55), (.fa 5 (.tmp 1)), (some (54, false))⟩,
 ⟨(some 56), (.ld none (.tmp 55)), (some (54, false))⟩,
 ⟨(some 57), (.mv (.tmp 3)), (some (54, false))⟩,
 ⟨(some 58), (.call 116 [(.tmp 56), (.const (.int .i64 1)), (.tmp 57)]), (some (54, false))⟩,
 (rO 59 (.pick (.tmp 54) (.const (.bool true)) (.tmp 58))),
 (rO 60 (.mv (.tmp 59))),
 ⟨(some 61), (.mv (.tmp 5)), (some (60, true))⟩,
 ⟨(some 62), (.nt (.tmp 61)), (some (60, true))⟩,
 ⟨(some 63), (.mv (.tmp 62)), (some (60, true))⟩,
 ⟨(some 64), (.fa 2 (.tmp 1)), (some (63, false))⟩,
 ⟨(some 65), (.ld none (.tmp 64)), (some (63, false))⟩,
 ⟨(some 66), (.mv (.tmp 3)), (some (63, false))⟩,
 ⟨(some 67), (.call 116 [(.tmp 65), (.const (.int .i64 1)), (.tmp 66)]), (some (63, false))⟩,
 ⟨(some 68), (.pick (.tmp 63) (.const (.bool true)) (.tmp 67)), (some (60, true))⟩,
 (rO 69 (.pick (.tmp 60) (.tmp 68) (.const (.bool false)))),
 (rO 70 (.mv (.tmp 69))),
 ⟨(some 71), (.mv (.tmp 6)), (some (70, true))⟩,
 ⟨(some 72), (.nt (.tmp 71)), (some (70, true))⟩,
 ⟨(some 73), (.mv (.tmp 72)), (some (70, true))⟩,
 ⟨(some 74), (.fa 13 (.tmp 1)), (some (73, false))⟩,
 ⟨(some 75), (.ld none (.tmp 74)), (some (73, false))⟩,
 ⟨(some 76), (.bin .geq (.tmp 75) (.const (.int .i64 1))), (some (73, false))⟩,
 ⟨(some 77), (.pick (.tmp 73) (.const (.bool true)) (.tmp 76)), (some (70, true))⟩,
 (rO 78 (.pick (.tmp 70) (.tmp 77) (.const (.bool false)))),
 (rO 2 (.mv (.tmp 78)))])
 .ret))))))))
def r101 : List RV := [.tmp 2]
theorem ok101 : FnOk Try.prog 101 79 c101 r101 := ⟨[], _, _, Try.func101, rfl, rfl, by kernel_rfl, by kernel_rfl, by kernel_rfl⟩
/-- vouch/codec.things -/
def c102 : C := (.seq (.reg [(rO 1 (.box 139 (.tmp 0))),
 (rO 2 (.mv (.const (.bool false))))])
 (.seq (.seq (.reg [(rO 6 (.fa 0 (.tmp 1))),
 (rO 7 (.ld none (.tmp 6)))])
 (.block 0 (.seq (.reg [(rO 9 (.bin .eql (.tmp 7) (.const (.int .i64 1)))),
 (rO 8 (.mv (.tmp 9)))])
 (.cond (.tmp 8) (.seq (.reg [(rO 3 (.mv (.func 117)))])
 (.seq (.reg [(rO 10 (.fa 14 (.tmp 1))),
 (rO 11 (.ld none (.tmp 10))),
 (rO 12 (.len true (.tmp 11))),
 (rO 13 (.call 116 [(.tmp 12), (.const (.int .i64 1)), (.const (.int .i64 8))])),
 (rO 14 (.mv (.tmp 13))),
 ⟨(some 15), (.fa 14 (.tmp 1)), (some (14, true))⟩,
 ⟨(some 16), (.ld none (.tmp 15)), (some (14, true))⟩,
 ⟨(some 17), (.mv (.tmp 3)), (some (14, true))⟩,
 ⟨(some 18), (.call 120 [(.tmp 16), (.tmp 17)]), (some (14, true))⟩,
 ⟨(some 19), (.nt (.tmp 18)), (some (14, true))⟩,
 (rO 20 (.pick (.tmp 14) (.tmp 19) (.const (.bool false)))),
 (rO 2 (.mv (.tmp 20)))])
 .ret))
 (.seq (.seq (.reg [(rO 22 (.bin .eql (.tmp 7) (.const (.int .i64 3)))),
 (rO 21 (.mv (.tmp 22)))])
 (.cond (.tmp 21) .skip
 (.reg [(rO 23 (.bin .eql (.tmp 7) (.const (.int .i64 5)))),
 (rO 21 (.mv (.tmp 23)))])))
 (.cond (.tmp 21) (.seq (.reg [(rO 24 (.fa 6 (.tmp 1))),
 (rO 25 (.ld none (.tmp 24))),
 (rO 26 (.call 118 [(.tmp 25)])),
 (rO 27 (.mv (.tmp 26))),
 ⟨(some 28), (.fa 7 (.tmp 1)), (some (27, true))⟩,
 ⟨(some 29), (.ld (some 2) (.tmp 28)), (some (27, true))⟩,
 ⟨(some 30), (.call 121 [(.tmp 29)]), (some (27, true))⟩,
 (rO 31 (.pick (.tmp 27) (.tmp 30) (.const (.bool false)))),
 (rO 2 (.mv (.tmp 31)))])
 .ret)
 (.seq (.reg [(rO 33 (.bin .eql (.tmp 7) (.const (.int .i64 7)))),
 (rO 32 (.mv (.tmp 33)))])
 (.cond (.tmp 32) (.seq (.reg [(rO 34 (.fa 6 (.tmp 1))),
 (rO 35 (.ld none (.tmp 34))),
 (rO 36 (.call 118 [(.tmp 35)])),
 (rO 37 (.mv (.tmp 36))),
 ⟨(some 38), (.fa 9 (.tmp 1)), (some (37, true))⟩,
 ⟨(some 39), (.ld (some 2) (.tmp 38)), (some (37, true))⟩,
 ⟨(some 40), (.call 119 [(.tmp 39)]), (some (37, true))⟩,
 (rO 41 (.pick (.tmp 37) (.tmp 40) (.const (.bool false)))),
 (rO 42 (.mv (.tmp 41))),
 ⟨(some 43), (.fa 7 (.tmp 1)), (some (42, true))⟩,
 ⟨(some 44), (.ld (some 2) (.tmp 43)), (some (42, true))⟩,
 ⟨(some 45), (.call 121 [(.tmp 44)]), (some (42, true))⟩,
 (rO 46 (.pick (.tmp 42) (.tmp 45) (.const (.bool false)))),
 (rO 2 (.mv (.tmp 46)))])
 .ret)
 (.seq (.seq (.reg [(rO 48 (.bin .eql (.tmp 7) (.const (.int .i64 4)))),
 (rO 47 (.mv (.tmp 48)))])
 (.cond (.tmp 47) .skip
 (.reg [(rO 49 (.bin .eql (.tmp 7) (.const (.int .i64 6)))),
 (rO 47 (.mv (.tmp 49)))])))
 (.cond (.tmp 47) (.seq (.reg [(rO 50 (.fa 11 (.tmp 1))),
 (rO 51 (.ld none (.tmp 50))),
 (rO 52 (.mv (.tmp 51))),
 ⟨(some 53), (.fa 0 (.tmp 1)), (some (52, false))⟩,
 ⟨(some 54), (.ld none (.tmp 53)), (some (52, false))⟩,
 ⟨(some 55), (.bin .eql (.tmp 54) (.const (.int .i64 6))), (some (52, false))⟩,
 ⟨(some 56), (.mv (.tmp 55)), (some (52, false))⟩,
 ⟨(some 57), (.fa 12 (.tmp 1)), (some (56, true))⟩,
 ⟨(some 58), (.ld none (.tmp 57)), (some (56, true))⟩,
 ⟨(some 59), (.bin .eql (.tmp 58) (.const (.int .i64 0))), (some (56, true))⟩,
 ⟨(some 60), (.pick (.tmp 56) (.tmp 59) (.const (.bool false))), (some (52, false))⟩,
 (rO 61 (.pick (.tmp 52) (.const (.bool true)) (.tmp 60))),
 (rO 4 (.mv (.tmp 61)))])
 (.seq (.reg [(rO 62 (.mv (.tmp 4))),
 (rO 63 (.nt (.tmp 62))),
 (rO 64 (.mv (.tmp 63))),
 ⟨(some 65), (.fa 9 (.tmp 1)), (some (64, false))⟩,
 ⟨(some 66), (.ld (some 2) (.tmp 65)), (some (64, false))⟩,
 ⟨(some 67), (.call 119 [(.tmp 66)]), (some (64, false))⟩,
 ⟨(some 68), (.mv (.tmp 67)), (some (64, false))⟩,
 ⟨(some 69), (.fa 7 (.tmp 1)), (some (68, true))⟩,
 ⟨(some 70), (.ld (some 2) (.tmp 69)), (some (68, true))⟩,
 ⟨(some 71), (.call 121 [(.tmp 70)]), (some (68, true))⟩,
 ⟨(some 72), (.pick (.tmp 68) (.tmp 71) (.const (.bool false))), (some (64, false))⟩,
 (rO 73 (.pick (.tmp 64) (.const (.bool true)) (.tmp 72))),
 (rO 2 (.mv (.tmp 73)))])
 .ret))
 (.seq (.reg [(rO 75 (.bin .eql (.tmp 7) (.const (.int .i64 8)))),
 (rO 74 (.mv (.tmp 75)))])
 (.cond (.tmp 74) (.seq (.reg [(rO 5 (.mv (.func 122)))])
 (.seq (.reg [(rO 76 (.fa 15 (.tmp 1))),
 (rO 77 (.ld none (.tmp 76))),
 (rO 78 (.len true (.tmp 77))),
 (rO 79 (.call 116 [(.tmp 78), (.const (.int .i64 1)), (.const (.int .i64 8))])),
 (rO 80 (.mv (.tmp 79))),
 ⟨(some 81), (.fa 15 (.tmp 1)), (some (80, true))⟩,
 ⟨(some 82), (.ld none (.tmp 81)), (some (80, true))⟩,
 ⟨(some 83), (.mv (.tmp 5)), (some (80, true))⟩,
 ⟨(some 84), (.call 123 [(.tmp 82), (.tmp 83)]), (some (80, true))⟩,
 ⟨(some 85), (.nt (.tmp 84)), (some (80, true))⟩,
 (rO 86 (.pick (.tmp 80) (.tmp 85) (.const (.bool false)))),
 (rO 2 (.mv (.tmp 86)))])
 .ret))
 .skip))))))))))))
 (.seq (.reg [(rO 2 (.mv (.const (.bool true))))])
 .ret)))
def r102 : List RV := [.tmp 2]
theorem ok102 : FnOk Try.prog 102 87 c102 r102 := ⟨[], _, _, Try.func102, rfl, rfl, by kernel_rfl, by kernel_rfl, by kernel_rfl⟩
/-- (*vouch/origin.Origin).commit$1 -/
def c103 : C := (.seq (.reg [(rO 2 (.box 188 (.tmp 0))),
 (rO 3 (.new 139 [.int .i64 (0), .int .i64 (0), .int .i64 (0), .int .i64 (0), .int .i64 (0), .int .i64 (0), .string ⟨#[]⟩, .int .i64 (0), .int .i64 (0), .bool false, .string ⟨#[]⟩, .bool false, .int .i64 (0), .int .i64 (0), .slice none 0 0, .slice none 0 0]))])
 (.seq (.reg [(rO 4 (.fa 3 (.tmp 1))),
 (rO 5 (.ld none (.tmp 4))),
 (rO 6 (.fa 5 (.tmp 1))),
 (rO 7 (.ld none (.tmp 6))),
 (rO 8 (.fa 1 (.tmp 2))),
 (rO 9 (.ld none (.tmp 8))),
 (rO 10 (.fa 2 (.tmp 2))),
 (rO 11 (.ld none (.tmp 10))),
 (rO 12 (.bld [.int .i64 (0), .int .i64 (0), .int .i64 (0), .int .i64 (0), .int .i64 (0), .int .i64 (0), .string ⟨#[]⟩, .int .i64 (0), .int .i64 (0), .bool false, .string ⟨#[]⟩, .bool false, .int .i64 (0), .int .i64 (0), .slice none 0 0, .slice none 0 0] [(0, 1, (.const (.int .i64 2))), (3, 1, (.tmp 5)), (5, 1, (.tmp 7)), (13, 1, (.tmp 9)), (12, 1, (.tmp 11))])),
 ⟨none, (.st 16 (.tmp 3) (.tmp 12)), none⟩])
 .ret))
def r103 : List RV := [.agg 3 16]
theorem ok103 : FnOk Try.prog 103 13 c103 r103 := ⟨[], _, _, Try.func103, rfl, rfl, by kernel_rfl, by kernel_rfl, by kernel_rfl⟩
/-- (*vouch/origin.Origin).record -/
def c104 : C := (.seq (.reg [(rO 8 (.mv (.const (.slice none 0 0))))])
 (.seq (.reg [(rO 9 (.mv (.const (.slice none 0 0))))])
 (.seq (.seq (.reg [(rO 12 (.mv (.tmp 0))),
 (rO 13 (.nilc (.tmp 12))),
 (rO 14 (.fa 9 (.tmp 13))),
 (rO 15 (.ld none (.tmp 14))),
 (rO 16 (.mv (.tmp 2))),
 (rO 17 (.mv (.tmp 3))),
 (rO 18 (.call 124 [(.tmp 15), (.tmp 16), (.tmp 17)])),
 (rO 19 (.len true (.tmp 18))),
 (rO 20 (.mv (.const (.int .i64 0))))])
 (.block 0 (.loop (.seq (.reg [(rO 21 (.bin .lss (.tmp 20) (.tmp 19)))])
 (.seq (.cond (.tmp 21) .skip
 (.exit 0))
 (.seq (.block 1 (.seq (.reg [(rO 22 (.ia 2 (.tmp 18) (.tmp 20))),
 (rO 23 (.ld (some 2) (.tmp 22))),
 (rO 11 (.new 51 [.int .i64 (0), .slice none 0 0])),
 ⟨none, (.st 2 (.tmp 11) (.tmp 23)), none⟩])
 (.reg [(rO 24 (.mv (.tmp 9))),
 (rO 25 (.mv (.tmp 1))),
 (rO 26 (.fa 0 (.tmp 11))),
 (rO 27 (.ld none (.tmp 26))),
 (rO 28 (.fa 1 (.tmp 11))),
 (rO 29 (.ld none (.tmp 28))),
 (rO 30 (.bld [.int .i64 (0), .int .i64 (0), .int .i64 (0), .int .i64 (0), .int .i64 (0), .int .i64 (0), .string ⟨#[]⟩, .int .i64 (0), .int .i64 (0), .bool false, .string ⟨#[]⟩, .bool false, .int .i64 (0), .int .i64 (0), .slice none 0 0, .slice none 0 0] [(0, 1, (.const (.int .i64 8))), (1, 1, (.tmp 25)), (13, 1, (.tmp 27)), (15, 1, (.tmp 29))])),
 (rO 31 (.lit 139 1 16 [.int .i64 (0), .int .i64 (0), .int .i64 (0), .int .i64 (0), .int .i64 (0), .int .i64 (0), .string ⟨#[]⟩, .int .i64 (0), .int .i64 (0), .bool false, .string ⟨#[]⟩, .bool false, .int .i64 (0), .int .i64 (0), .slice none 0 0, .slice none 0 0] [(0, 16, (.tmp 30))])),
 (rO 32 (.app 139 16 176 (.tmp 24) (.tmp 31))),
 (rO 9 (.mv (.tmp 32)))])))
 (.reg [(rO 33 (.bin .add (.tmp 20) (.const (.int .i64 1)))),
 (rO 20 (.mv (.tmp 33)))])))))))
 (.seq (.reg [(rO 34 (.mv (.tmp 9))),
 (rO 8 (.mv (.tmp 34)))])
 .ret))))
def r104 : List RV := [.tmp 8]
theorem ok104 : FnOk Try.prog 104 35 c104 r104 := ⟨[], _, _, Try.func104, rfl, rfl, by kernel_rfl, by kernel_rfl, by kernel_rfl⟩
/-- vouch/route.To -/
def c105 : C := (.seq (.reg [(rO 4 (.mv (.const (.int .i64 0))))])
 (.seq (.seq (.reg [(rO 5 (.mv (.tmp 1))),
 (rO 6 (.bin .lss (.tmp 5) (.const (.int .i64 1)))),
 (rO 7 (.mv (.tmp 6))),
 ⟨(some 8), (.mv (.tmp 1)), (some (7, false))⟩,
 ⟨(some 9), (.bin .gtr (.tmp 8) (.const (.int .i64 8))), (some (7, false))⟩,
 (rO 10 (.pick (.tmp 7) (.const (.bool true)) (.tmp 9)))])
 (.cond (.tmp 10) (.seq (.reg [(rO 4 (.mv (.const (.int .i64 (-1)))))])
 .ret)
 .skip))
 (.seq (.reg [(rO 11 (.mv (.tmp 0))),
 (rO 12 (.call 125 [(.tmp 11)])),
 (rO 13 (.mv (.tmp 1))),
 (rO 14 (.conv .u64 (.tmp 13))),
 (rO 15 (.bin .rem (.tmp 12) (.tmp 14))),
 (rO 16 (.conv .i64 (.tmp 15))),
 (rO 4 (.mv (.tmp 16)))])
 .ret)))
def r105 : List RV := [.tmp 4]
theorem ok105 : FnOk Try.prog 105 17 c105 r105 := ⟨[], _, _, Try.func105, rfl, rfl, by kernel_rfl, by kernel_rfl, by kernel_rfl⟩
/-- (*vouch/tx.Tx).message -/
def c106 : C := (.seq (.reg [(rO 2 (.new 139 [.int .i64 (0), .int .i64 (0), .int .i64 (0), .int .i64 (0), .int .i64 (0), .int .i64 (0), .string ⟨#[]⟩, .int .i64 (0), .int .i64 (0), .bool false, .string ⟨#[]⟩, .bool false, .int .i64 (0), .int .i64 (0), .slice none 0 0, .slice none 0 0]))])
 (.seq (.draw [⟨(rO 4 (.mv (.tmp 0))), .p⟩,
 ⟨(rO 5 (.nilc (.tmp 4))), .p⟩,
 ⟨(rO 6 (.fa 0 (.tmp 5))), .p⟩,
 ⟨(rO 7 (.ld none (.tmp 6))), .l⟩,
 ⟨(rO 8 (.mv (.tmp 0))), .p⟩,
 ⟨(rO 9 (.nilc (.tmp 8))), .p⟩,
 ⟨(rO 10 (.fa 2 (.tmp 9))), .p⟩,
 ⟨(rO 11 (.fa 5 (.tmp 10))), .p⟩,
 ⟨(rO 12 (.ld none (.tmp 11))), .l⟩,
 ⟨(rO 13 (.mv (.tmp 0))), .p⟩,
 ⟨(rO 14 (.nilc (.tmp 13))), .p⟩,
 ⟨(rO 15 (.fa 2 (.tmp 14))), .p⟩,
 ⟨(rO 16 (.fa 4 (.tmp 15))), .p⟩,
 ⟨(rO 17 (.ld none (.tmp 16))), .l⟩,
 ⟨(rO 18 (.mv (.tmp 0))), .p⟩,
 ⟨(rO 19 (.nilc (.tmp 18))), .p⟩,
 ⟨(rO 20 (.fa 2 (.tmp 19))), .p⟩,
 ⟨(rO 21 (.fa 2 (.tmp 20))), .p⟩,
 ⟨(rO 22 (.ld (some 2) (.tmp 21))), .l⟩,
 ⟨(rO 23 (.bld [.int .i64 (0), .int .i64 (0), .int .i64 (0), .int .i64 (0), .int .i64 (0), .int .i64 (0), .string ⟨#[]⟩, .int .i64 (0), .int .i64 (0), .bool false, .string ⟨#[]⟩, .bool false, .int .i64 (0), .int .i64 (0), .slice none 0 0, .slice none 0 0] [(0, 1, (.const (.int .i64 5))), (4, 1, (.tmp 7)), (5, 1, (.tmp 12)), (6, 1, (.tmp 17)), (7, 2, (.tmp 22))])), .p⟩,
 ⟨(rO 3 (.new 139 [.int .i64 (0), .int .i64 (0), .int .i64 (0), .int .i64 (0), .int .i64 (0), .int .i64 (0), .string ⟨#[]⟩, .int .i64 (0), .int .i64 (0), .bool false, .string ⟨#[]⟩, .bool false, .int .i64 (0), .int .i64 (0), .slice none 0 0, .slice none 0 0])), .f⟩,
 ⟨⟨none, (.st 16 (.tmp 3) (.tmp 23)), none⟩, .m⟩])
 (.seq (.seq (.reg [(rO 24 (.mv (.tmp 0))),
 (rO 25 (.nilc (.tmp 24))),
 (rO 26 (.fa 2 (.tmp 25))),
 (rO 27 (.fa 0 (.tmp 26))),
 (rO 28 (.ld none (.tmp 27))),
 (rO 29 (.bin .eql (.tmp 28) (.const (.int .i64 1))))])
 (.cond (.tmp 29) (.draw [⟨(rO 30 (.fa 6 (.tmp 3))), .p⟩,
 ⟨(rO 31 (.ld none (.tmp 30))), .l⟩,
 ⟨(rO 32 (.mv (.tmp 0))), .p⟩,
 ⟨(rO 33 (.nilc (.tmp 32))), .p⟩,
 ⟨(rO 34 (.fa 1 (.tmp 33))), .p⟩,
 ⟨(rO 35 (.ld none (.tmp 34))), .l⟩,
 ⟨(rO 36 (.call 105 [(.tmp 31), (.tmp 35)])), .m⟩,
 ⟨(rO 37 (.fa 0 (.tmp 3))), .p⟩,
 ⟨⟨none, (.st 1 (.tmp 37) (.const (.int .i64 3))), none⟩, .m⟩,
 ⟨(rO 38 (.fa 1 (.tmp 3))), .p⟩,
 ⟨⟨none, (.st 1 (.tmp 38) (.tmp 36)), none⟩, .m⟩])
 .skip))
 (.seq (.reg [(rO 39 (.ld (some 16) (.tmp 3))),
 ⟨none, (.st 16 (.tmp 2) (.tmp 39)), none⟩])
 .ret))))
def r106 : List RV := [.agg 2 16]
theorem ok106 : FnOk Try.prog 106 40 c106 r106 := ⟨[], _, _, Try.func106, rfl, rfl, by kernel_rfl, by kernel_rfl, by kernel_rfl⟩
/-- vouch/fact.Narrow -/
def c107 : C := (.seq (.reg [(rO 2 (.box 71 (.tmp 0))),
 (rO 3 (.box 195 (.tmp 1))),
 (rO 4 (.new 71 [.int .i64 (0), .int .i64 (0)])),
 (rO 5 (.mv (.const (.bool false))))])
 (.seq (.draw [⟨(rO 7 (.ld (some 2) (.tmp 2))), .l⟩,
 ⟨(rO 8 (.call 126 [(.tmp 7)])), .g⟩,
 ⟨(rO 9 (.ld (some 2) (.tmp 3))), .l⟩,
 ⟨(rO 10 (.call 127 [(.tmp 8), (.tmp 9)])), .g⟩,
 ⟨(rO 6 (.new 195 [.int .i64 (0), .int .i64 (0)])), .f⟩,
 ⟨⟨none, (.st 2 (.tmp 6) (.tmp 10)), none⟩, .m⟩])
 (.seq (.draw [⟨(rO 11 (.fa 0 (.tmp 6))), .p⟩,
 ⟨(rO 12 (.ld none (.tmp 11))), .l⟩,
 ⟨(rO 13 (.fa 1 (.tmp 6))), .p⟩,
 ⟨(rO 14 (.ld none (.tmp 13))), .l⟩,
 ⟨(rO 15 (.bld [.int .i64 (0), .int .i64 (0)] [(0, 1, (.tmp 12)), (1, 1, (.tmp 14))])), .p⟩,
 ⟨(rO 16 (.ld (some 2) (.tmp 6))), .l⟩,
 ⟨(rO 17 (.call 128 [(.tmp 16)])), .g⟩,
 ⟨(rO 18 (.nt (.tmp 17))), .p⟩,
 ⟨⟨none, (.st 2 (.tmp 4) (.tmp 15)), none⟩, .m⟩,
 ⟨(rO 5 (.mv (.tmp 18))), .p⟩])
 .ret)))
def r107 : List RV := [.agg 4 2, .tmp 5]
theorem ok107 : FnOk Try.prog 107 19 c107 r107 := ⟨[], _, _, Try.func107, rfl, rfl, by kernel_rfl, by kernel_rfl, by kernel_rfl⟩
/-- vouch/span.Of[int64] -/
def c108 : C := (.seq (.reg [(rO 4 (.new 195 [.int .i64 (0), .int .i64 (0)]))])
 (.seq (.seq (.reg [(rO 5 (.mv (.tmp 0))),
 (rO 6 (.mv (.tmp 1))),
 (rO 7 (.bin .geq (.tmp 5) (.tmp 6)))])
 (.cond (.tmp 7) (.seq (.reg [(rO 8 (.bld [.int .i64 (0), .int .i64 (0)] [])),
 ⟨none, (.st 2 (.tmp 4) (.tmp 8)), none⟩])
 .ret)
 .skip))
 (.seq (.reg [(rO 9 (.mv (.tmp 0))),
 (rO 10 (.mv (.tmp 1))),
 (rO 11 (.bld [.int .i64 (0), .int .i64 (0)] [(0, 1, (.tmp 9)), (1, 1, (.tmp 10))])),
 ⟨none, (.st 2 (.tmp 4) (.tmp 11)), none⟩])
 .ret)))
def r108 : List RV := [.agg 4 2]
theorem ok108 : FnOk Try.prog 108 12 c108 r108 := ⟨[], _, _, Try.func108, rfl, rfl, by kernel_rfl, by kernel_rfl, by kernel_rfl⟩
/-- vouch/codec.blank -/
def c115 : C := (.seq (.reg [(rO 1 (.box 139 (.tmp 0))),
 (rO 2 (.new 139 [.int .i64 (0), .int .i64 (0), .int .i64 (0), .int .i64 (0), .int .i64 (0), .int .i64 (0), .string ⟨#[]⟩, .int .i64 (0), .int .i64 (0), .bool false, .string ⟨#[]⟩, .bool false, .int .i64 (0), .int .i64 (0), .slice none 0 0, .slice none 0 0]))])
 (.seq (.reg [(rO 4 (.ld (some 16) (.tmp 1))),
 (rO 3 (.new 139 [.int .i64 (0), .int .i64 (0), .int .i64 (0), .int .i64 (0), .int .i64 (0), .int .i64 (0), .string ⟨#[]⟩, .int .i64 (0), .int .i64 (0), .bool false, .string ⟨#[]⟩, .bool false, .int .i64 (0), .int .i64 (0), .slice none 0 0, .slice none 0 0])),
 ⟨none, (.st 16 (.tmp 3) (.tmp 4)), none⟩])
 (.seq (.seq (.reg [(rO 5 (.fa 0 (.tmp 1))),
 (rO 6 (.ld none (.tmp 5)))])
 (.block 0 (.seq (.seq (.reg [(rO 8 (.bin .eql (.tmp 6) (.const (.int .i64 1)))),
 (rO 7 (.mv (.tmp 8)))])
 (.cond (.tmp 7) .skip
 (.reg [(rO 9 (.bin .eql (.tmp 6) (.const (.int .i64 2)))),
 (rO 7 (.mv (.tmp 9)))])))
 (.cond (.tmp 7) (.seq (.reg [(rO 10 (.fa 3 (.tmp 3))),
 ⟨none, (.st 1 (.tmp 10) (.const (.int .i64 0))), none⟩,
 (rO 11 (.fa 5 (.tmp 3))),
 ⟨none, (.st 1 (.tmp 11) (.const (.int .i64 0))), none⟩,
 (rO 12 (.fa 14 (.tmp 3))),
 ⟨none, (.st 1 (.tmp 12) (.const (.slice none 0 0))), none⟩])
 (.seq (.reg [(rO 13 (.fa 0 (.tmp 1))),
 (rO 14 (.ld none (.tmp 13))),
 (rO 15 (.bin .eql (.tmp 14) (.const (.int .i64 2))))])
 (.cond (.tmp 15) (.draw [⟨(rO 16 (.fa 14 (.tmp 1))), .p⟩,
 ⟨(rO 17 (.ld none (.tmp 16))), .l⟩,
 ⟨(rO 18 (.fa 12 (.tmp 3))), .p⟩,
 ⟨⟨none, (.st 1 (.tmp 18) (.const (.int .i64 0))), none⟩, .w⟩,
 ⟨(rO 19 (.fa 13 (.tmp 3))), .p⟩,
 ⟨⟨none, (.st 1 (.tmp 19) (.const (.int .i64 0))), none⟩, .w⟩,
 ⟨(rO 20 (.fa 14 (.tmp 3))), .p⟩,
 ⟨⟨none, (.st 1 (.tmp 20) (.tmp 17)), none⟩, .m⟩])
 .skip)))
 (.seq (.seq (.reg [(rO 22 (.bin .eql (.tmp 6) (.const (.int .i64 3)))),
 (rO 21 (.mv (.tmp 22)))])
 (.cond (.tmp 21) .skip
 (.reg [(rO 23 (.bin .eql (.tmp 6) (.const (.int .i64 5)))),
 (rO 21 (.mv (.tmp 23)))])))
 (.cond (.tmp 21) (.seq (.reg [(rO 24 (.bld [.int .i64 (0), .int .i64 (0)] [])),
 (rO 25 (.fa 4 (.tmp 3))),
 ⟨none, (.st 1 (.tmp 25) (.const (.int .i64 0))), none⟩,
 (rO 26 (.fa 5 (.tmp 3))),
 ⟨none, (.st 1 (.tmp 26) (.const (.int .i64 0))), none⟩,
 (rO 27 (.fa 6 (.tmp 3))),
 ⟨none, (.st 1 (.tmp 27) (.const (.string { data := #[] }))), none⟩,
 (rO 28 (.fa 7 (.tmp 3))),
 ⟨none, (.st 2 (.tmp 28) (.tmp 24)), none⟩])
 (.seq (.reg [(rO 29 (.fa 0 (.tmp 1))),
 (rO 30 (.ld none (.tmp 29))),
 (rO 31 (.bin .eql (.tmp 30) (.const (.int .i64 3))))])
 (.cond (.tmp 31) (.reg [(rO 32 (.fa 1 (.tmp 3))),
 ⟨none, (.st 1 (.tmp 32) (.const (.int .i64 0))), none⟩])
 .skip)))
 (.seq (.seq (.reg [(rO 34 (.bin .eql (.tmp 6) (.const (.int .i64 4)))),
 (rO 33 (.mv (.tmp 34)))])
 (.cond (.tmp 33) .skip
 (.reg [(rO 35 (.bin .eql (.tmp 6) (.const (.int .i64 6)))),
 (rO 33 (.mv (.tmp 35)))])))
 (.cond (.tmp 33) (.seq (.reg [(rO 36 (.fa 4 (.tmp 3))),
 ⟨none, (.st 1 (.tmp 36) (.const (.int .i64 0))), none⟩,
 (rO 37 (.fa 5 (.tmp 3))),
 ⟨none, (.st 1 (.tmp 37) (.const (.int .i64 0))), none⟩])
 (.seq (.seq (.reg [(rO 38 (.fa 0 (.tmp 1))),
 (rO 39 (.ld none (.tmp 38))),
 (rO 40 (.bin .eql (.tmp 39) (.const (.int .i64 4))))])
 (.cond (.tmp 40) (.reg [(rO 41 (.fa 11 (.tmp 3))),
 ⟨none, (.st 1 (.tmp 41) (.const (.bool false))), none⟩])
 (.reg [(rO 42 (.fa 12 (.tmp 3))),
 ⟨none, (.st 1 (.tmp 42) (.const (.int .i64 0))), none⟩])))
 (.seq (.reg [(rO 43 (.fa 11 (.tmp 1))),
 (rO 44 (.ld none (.tmp 43))),
 (rO 45 (.mv (.tmp 44))),
 ⟨(some 46), (.fa 0 (.tmp 1)), (some (45, true))⟩,
 ⟨(some 47), (.ld none (.tmp 46)), (some (45, true))⟩,
 ⟨(some 48), (.bin .eql (.tmp 47) (.const (.int .i64 4))), (some (45, true))⟩,
 (rO 49 (.pick (.tmp 45) (.tmp 48) (.const (.bool false)))),
 (rO 50 (.mv (.tmp 49))),
 ⟨(some 51), (.fa 12 (.tmp 1)), (some (50, false))⟩,
 ⟨(some 52), (.ld none (.tmp 51)), (some (50, false))⟩,
 ⟨(some 53), (.bin .eql (.tmp 52) (.const (.int .i64 0))), (some (50, false))⟩,
 ⟨(some 54), (.mv (.tmp 53)), (some (50, false))⟩,
 ⟨(some 55), (.fa 0 (.tmp 1)), (some (54, true))⟩,
 ⟨(some 56), (.ld none (.tmp 55)), (some (54, true))⟩,
 ⟨(some 57), (.bin .eql (.tmp 56) (.const (.int .i64 6))), (some (54, true))⟩,
 ⟨(some 58), (.pick (.tmp 54) (.tmp 57) (.const (.bool false))), (some (50, false))⟩,
 (rO 59 (.pick (.tmp 50) (.const (.bool true)) (.tmp 58)))])
 (.cond (.tmp 59) (.reg [(rO 60 (.bld [.bool false, .string ⟨#[]⟩] [])),
 (rO 61 (.bld [.int .i64 (0), .int .i64 (0)] [])),
 (rO 62 (.fa 9 (.tmp 3))),
 ⟨none, (.st 2 (.tmp 62) (.tmp 60)), none⟩,
 (rO 63 (.fa 7 (.tmp 3))),
 ⟨none, (.st 2 (.tmp 63) (.tmp 61)), none⟩])
 .skip))))
 (.seq (.reg [(rO 65 (.bin .eql (.tmp 6) (.const (.int .i64 7)))),
 (rO 64 (.mv (.tmp 65)))])
 (.cond (.tmp 64) (.reg [(rO 66 (.bld [.bool false, .string ⟨#[]⟩] [])),
 (rO 67 (.bld [.int .i64 (0), .int .i64 (0)] [])),
 (rO 68 (.fa 1 (.tmp 3))),
 ⟨none, (.st 1 (.tmp 68) (.const (.int .i64 0))), none⟩,
 (rO 69 (.fa 6 (.tmp 3))),
 ⟨none, (.st 1 (.tmp 69) (.const (.string { data := #[] }))), none⟩,
 (rO 70 (.fa 9 (.tmp 3))),
 ⟨none, (.st 2 (.tmp 70) (.tmp 66)), none⟩,
 (rO 71 (.fa 7 (.tmp 3))),
 ⟨none, (.st 2 (.tmp 71) (.tmp 67)), none⟩,
 (rO 72 (.fa 13 (.tmp 3))),
 ⟨none, (.st 1 (.tmp 72) (.const (.int .i64 0))), none⟩])
 (.seq (.seq (.reg [(rO 74 (.bin .eql (.tmp 6) (.const (.int .i64 8)))),
 (rO 73 (.mv (.tmp 74)))])
 (.cond (.tmp 73) .skip
 (.seq (.reg [(rO 75 (.bin .eql (.tmp 6) (.const (.int .i64 9)))),
 (rO 73 (.mv (.tmp 75)))])
 (.cond (.tmp 73) .skip
 (.seq (.reg [(rO 76 (.bin .eql (.tmp 6) (.const (.int .i64 10)))),
 (rO 73 (.mv (.tmp 76)))])
 (.cond (.tmp 73) .skip
 (.reg [(rO 77 (.bin .eql (.tmp 6) (.const (.int .i64 11)))),
 (rO 73 (.mv (.tmp 77)))])))))))
 (.cond (.tmp 73) (.seq (.reg [(rO 78 (.fa 1 (.tmp 3))),
 ⟨none, (.st 1 (.tmp 78) (.const (.int .i64 0))), none⟩])
 (.seq (.seq (.reg [(rO 79 (.fa 0 (.tmp 1))),
 (rO 80 (.ld none (.tmp 79))),
 (rO 81 (.bin .neq (.tmp 80) (.const (.int .i64 10))))])
 (.cond (.tmp 81) (.reg [(rO 82 (.fa 13 (.tmp 3))),
 ⟨none, (.st 1 (.tmp 82) (.const (.int .i64 0))), none⟩])
 .skip))
 (.seq (.seq (.reg [(rO 83 (.fa 0 (.tmp 1))),
 (rO 84 (.ld none (.tmp 83))),
 (rO 85 (.bin .eql (.tmp 84) (.const (.int .i64 8))))])
 (.cond (.tmp 85) (.reg [(rO 86 (.fa 15 (.tmp 3))),
 ⟨none, (.st 1 (.tmp 86) (.const (.slice none 0 0))), none⟩])
 .skip))
 (.seq (.reg [(rO 87 (.fa 0 (.tmp 1))),
 (rO 88 (.ld none (.tmp 87))),
 (rO 89 (.bin .geq (.tmp 88) (.const (.int .i64 10))))])
 (.cond (.tmp 89) (.reg [(rO 90 (.fa 2 (.tmp 3))),
 ⟨none, (.st 1 (.tmp 90) (.const (.int .i64 0))), none⟩])
 .skip)))))
 .skip))))))))))))
 (.seq (.reg [(rO 91 (.ld (some 16) (.tmp 3))),
 ⟨none, (.st 16 (.tmp 2) (.tmp 91)), none⟩])
 .ret))))
def r115 : List RV := [.agg 2 16]
theorem ok115 : FnOk Try.prog 115 92 c115 r115 := ⟨[], _, _, Try.func115, rfl, rfl, by kernel_rfl, by kernel_rfl, by kernel_rfl⟩
/-- vouch/codec.between -/
def c116 : C := (.seq (.reg [(rO 6 (.mv (.const (.bool false))))])
 (.seq (.reg [(rO 7 (.mv (.tmp 1))),
 (rO 8 (.mv (.tmp 0))),
 (rO 9 (.bin .leq (.tmp 7) (.tmp 8))),
 (rO 10 (.mv (.tmp 9))),
 ⟨(some 11), (.mv (.tmp 0)), (some (10, true))⟩,
 ⟨(some 12), (.mv (.tmp 2)), (some (10, true))⟩,
 ⟨(some 13), (.bin .leq (.tmp 11) (.tmp 12)), (some (10, true))⟩,
 (rO 14 (.pick (.tmp 10) (.tmp 13) (.const (.bool false)))),
 (rO 6 (.mv (.tmp 14)))])
 .ret))
def r116 : List RV := [.tmp 6]
theorem ok116 : FnOk Try.prog 116 15 c116 r116 := ⟨[], _, _, Try.func116, rfl, rfl, by kernel_rfl, by kernel_rfl, by kernel_rfl⟩
/-- vouch/codec.things$1 -/
def c117 : C := (.seq (.reg [(rO 1 (.box 33 (.tmp 0))),
 (rO 2 (.mv (.const (.bool false))))])
 (.seq (.reg [(rO 3 (.fa 0 (.tmp 1))),
 (rO 4 (.ld none (.tmp 3))),
 (rO 5 (.call 118 [(.tmp 4)])),
 (rO 6 (.nt (.tmp 5))),
 (rO 7 (.mv (.tmp 6))),
 ⟨(some 8), (.fa 1 (.tmp 1)), (some (7, false))⟩,
 ⟨(some 9), (.ld (some 2) (.tmp 8)), (some (7, false))⟩,
 ⟨(some 10), (.call 119 [(.tmp 9)]), (some (7, false))⟩,
 ⟨(some 11), (.nt (.tmp 10)), (some (7, false))⟩,
 (rO 12 (.pick (.tmp 7) (.const (.bool true)) (.tmp 11))),
 (rO 2 (.mv (.tmp 12)))])
 .ret))
def r117 : List RV := [.tmp 2]
theorem ok117 : FnOk Try.prog 117 13 c117 r117 := ⟨[], _, _, Try.func117, rfl, rfl, by kernel_rfl, by kernel_rfl, by kernel_rfl⟩
/-- vouch/codec.goodKey -/
def c118 : C := (.seq (.reg [(rO 2 (.mv (.const (.bool false))))])
 (.seq (.reg [(rO 3 (.mv (.tmp 0))),
 (rO 4 (.bld [.string ⟨#[]⟩, .bool false, .string ⟨#[]⟩, .int .i64 (0), .int .i64 (0)] [(0, 1, (.tmp 3)), (4, 1, (.const (.int .i64 1)))])),
 (rO 5 (.call 65 [(.tmp 4)])),
 (rO 2 (.mv (.tmp 5)))])
 .ret))
def r118 : List RV := [.tmp 2]
theorem ok118 : FnOk Try.prog 118 6 c118 r118 := ⟨[], _, _, Try.func118, rfl, rfl, by kernel_rfl, by kernel_rfl, by kernel_rfl⟩
/-- vouch/codec.goodValue -/
def c119 : C := (.seq (.reg [(rO 1 (.box 31 (.tmp 0))),
 (rO 2 (.mv (.const (.bool false))))])
 (.seq (.reg [(rO 3 (.ld (some 2) (.tmp 1))),
 (rO 4 (.bld [.string ⟨#[]⟩, .bool false, .string ⟨#[]⟩, .int .i64 (0), .int .i64 (0)] [(0, 1, (.const (.string { data := #[107] }))), (1, 2, (.tmp 3)), (4, 1, (.const (.int .i64 1)))])),
 (rO 5 (.call 65 [(.tmp 4)])),
 (rO 2 (.mv (.tmp 5)))])
 .ret))
def r119 : List RV := [.tmp 2]
theorem ok119 : FnOk Try.prog 119 6 c119 r119 := ⟨[], _, _, Try.func119, rfl, rfl, by kernel_rfl, by kernel_rfl, by kernel_rfl⟩
/-- slices.ContainsFunc[[]vouch/api.Write,vouch/api.Write] -/
def c120 : C := (.seq (.reg [(rO 4 (.mv (.const (.bool false))))])
 (.seq (.reg [(rO 5 (.mv (.tmp 0))),
 (rO 6 (.mv (.tmp 1))),
 (rO 7 (.call 143 [(.tmp 5), (.tmp 6)])),
 (rO 8 (.bin .geq (.tmp 7) (.const (.int .i64 0)))),
 (rO 4 (.mv (.tmp 8)))])
 .ret))
def r120 : List RV := [.tmp 4]
theorem ok120 : FnOk Try.prog 120 9 c120 r120 := ⟨[], _, _, Try.func120, rfl, rfl, by kernel_rfl, by kernel_rfl, by kernel_rfl⟩
/-- vouch/codec.goodPin -/
def c121 : C := (.seq (.reg [(rO 1 (.box 71 (.tmp 0))),
 (rO 2 (.mv (.const (.bool false))))])
 (.seq (.reg [(rO 3 (.fa 0 (.tmp 1))),
 (rO 4 (.ld none (.tmp 3))),
 (rO 5 (.fa 1 (.tmp 1))),
 (rO 6 (.ld none (.tmp 5))),
 (rO 7 (.bld [.string ⟨#[]⟩, .bool false, .string ⟨#[]⟩, .int .i64 (0), .int .i64 (0)] [(0, 1, (.const (.string { data := #[107] }))), (3, 1, (.tmp 4)), (4, 1, (.tmp 6))])),
 (rO 8 (.call 65 [(.tmp 7)])),
 (rO 2 (.mv (.tmp 8)))])
 .ret))
def r121 : List RV := [.tmp 2]
theorem ok121 : FnOk Try.prog 121 9 c121 r121 := ⟨[], _, _, Try.func121, rfl, rfl, by kernel_rfl, by kernel_rfl, by kernel_rfl⟩
/-- (*vouch/stream.Log).From -/
def c124 : C := (.seq (.reg [(rO 6 (.mv (.const (.slice none 0 0))))])
 (.seq (.reg [(rO 7 (.mv (.const (.slice none 0 0))))])
 (.seq (.seq (.reg [(rO 10 (.mv (.tmp 1))),
 (rO 11 (.mx true (.tmp 10) (.const (.int .i64 1)))),
 (rO 1 (.mv (.tmp 11)))])
 (.block 0 (.loop (.seq (.seq (.reg [(rO 12 (.mv (.tmp 1))),
 (rO 13 (.mv (.tmp 0))),
 (rO 14 (.call 13 [(.tmp 13)])),
 (rO 15 (.bin .leq (.tmp 12) (.tmp 14))),
 (rO 16 (.mv (.tmp 15))),
 ⟨(some 17), (.mv (.tmp 7)), (some (16, true))⟩,
 ⟨(some 18), (.len true (.tmp 17)), (some (16, true))⟩,
 ⟨(some 19), (.mv (.tmp 2)), (some (16, true))⟩,
 ⟨(some 20), (.bin .lss (.tmp 18) (.tmp 19)), (some (16, true))⟩,
 (rO 21 (.pick (.tmp 16) (.tmp 20) (.const (.bool false))))])
 (.cond (.tmp 21) .skip
 (.exit 0)))
 (.seq (.block 1 (.seq (.reg [(rO 25 (.mv (.tmp 0))),
 (rO 26 (.mv (.tmp 1))),
 (rO 27 (.call 17 [(.tmp 25), (.tmp 26)])),
 (rO 24 (.mv (.tmp 27))),
 (rO 28 (.ext 0 (.tmp 24))),
 (rO 29 (.ext 1 (.tmp 24))),
 (rO 8 (.new 51 [.int .i64 (0), .slice none 0 0])),
 ⟨none, (.st 2 (.tmp 8) (.tmp 28)), none⟩,
 (rO 9 (.mv (.tmp 29)))])
 (.reg [(rO 30 (.mv (.tmp 7))),
 (rO 31 (.ld (some 2) (.tmp 8))),
 (rO 32 (.lit 51 1 2 [.int .i64 (0), .slice none 0 0] [(0, 2, (.tmp 31))])),
 (rO 33 (.app 51 2 32 (.tmp 30) (.tmp 32))),
 (rO 7 (.mv (.tmp 33)))])))
 (.reg [(rO 22 (.mv (.tmp 1))),
 (rO 23 (.bin .add (.tmp 22) (.const (.int .i64 1)))),
 (rO 1 (.mv (.tmp 23)))]))))))
 (.seq (.reg [(rO 34 (.mv (.tmp 7))),
 (rO 6 (.mv (.tmp 34)))])
 .ret))))
def r124 : List RV := [.tmp 6]
theorem ok124 : FnOk Try.prog 124 35 c124 r124 := ⟨[], _, _, Try.func124, rfl, rfl, by kernel_rfl, by kernel_rfl, by kernel_rfl⟩
/-- vouch/route.Hash -/
def c125 : C := (.seq (.reg [(rO 2 (.mv (.const (.int .u64 0))))])
 (.seq (.reg [(rO 3 (.mv (.const (.int .u64 14695981039346656037))))])
 (.seq (.seq (.reg [(rO 5 (.mv (.tmp 0))),
 (rO 6 (.len false (.tmp 5))),
 (rO 7 (.mv (.const (.int .i64 0))))])
 (.block 0 (.loop (.seq (.reg [(rO 8 (.bin .lss (.tmp 7) (.tmp 6)))])
 (.seq (.cond (.tmp 8) .skip
 (.exit 0))
 (.seq (.block 1 (.seq (.reg [(rO 9 (.mv (.tmp 7))),
 (rO 4 (.mv (.tmp 9)))])
 (.seq (.reg [(rO 10 (.mv (.tmp 3))),
 (rO 11 (.mv (.tmp 0))),
 (rO 12 (.mv (.tmp 4))),
 (rO 13 (.ixs (.tmp 11) (.tmp 12))),
 (rO 14 (.conv .u64 (.tmp 13))),
 (rO 15 (.bin .xor (.tmp 10) (.tmp 14))),
 (rO 3 (.mv (.tmp 15)))])
 (.reg [(rO 16 (.mv (.tmp 3))),
 (rO 17 (.bin .mul (.tmp 16) (.const (.int .u64 1099511628211)))),
 (rO 3 (.mv (.tmp 17)))]))))
 (.reg [(rO 18 (.bin .add (.tmp 7) (.const (.int .i64 1)))),
 (rO 7 (.mv (.tmp 18)))])))))))
 (.seq (.reg [(rO 19 (.mv (.tmp 3))),
 (rO 2 (.mv (.tmp 19)))])
 .ret))))
def r125 : List RV := [.tmp 2]
theorem ok125 : FnOk Try.prog 125 20 c125 r125 := ⟨[], _, _, Try.func125, rfl, rfl, by kernel_rfl, by kernel_rfl, by kernel_rfl⟩
/-- vouch/fact.pinned -/
def c126 : C := (.seq (.reg [(rO 1 (.box 71 (.tmp 0))),
 (rO 2 (.new 195 [.int .i64 (0), .int .i64 (0)]))])
 (.seq (.reg [(rO 3 (.fa 0 (.tmp 1))),
 (rO 4 (.ld none (.tmp 3))),
 (rO 5 (.fa 1 (.tmp 1))),
 (rO 6 (.ld none (.tmp 5))),
 (rO 7 (.call 108 [(.tmp 4), (.tmp 6)])),
 ⟨none, (.st 2 (.tmp 2) (.tmp 7)), none⟩])
 .ret))
def r126 : List RV := [.agg 2 2]
theorem ok126 : FnOk Try.prog 126 8 c126 r126 := ⟨[], _, _, Try.func126, rfl, rfl, by kernel_rfl, by kernel_rfl, by kernel_rfl⟩
/-- (vouch/span.Span[int64]).Meet -/
def c127 : C := (.seq (.reg [(rO 2 (.box 195 (.tmp 0))),
 (rO 3 (.box 195 (.tmp 1))),
 (rO 4 (.new 195 [.int .i64 (0), .int .i64 (0)]))])
 (.seq (.reg [(rO 5 (.fa 0 (.tmp 2))),
 (rO 6 (.ld none (.tmp 5))),
 (rO 7 (.fa 0 (.tmp 3))),
 (rO 8 (.ld none (.tmp 7))),
 (rO 9 (.mx true (.tmp 6) (.tmp 8))),
 (rO 10 (.fa 1 (.tmp 2))),
 (rO 11 (.ld none (.tmp 10))),
 (rO 12 (.fa 1 (.tmp 3))),
 (rO 13 (.ld none (.tmp 12))),
 (rO 14 (.mx false (.tmp 11) (.tmp 13))),
 (rO 15 (.call 108 [(.tmp 9), (.tmp 14)])),
 ⟨none, (.st 2 (.tmp 4) (.tmp 15)), none⟩])
 .ret))
def r127 : List RV := [.agg 4 2]
theorem ok127 : FnOk Try.prog 127 16 c127 r127 := ⟨[], _, _, Try.func127, rfl, rfl, by kernel_rfl, by kernel_rfl, by kernel_rfl⟩
/-- (vouch/span.Span[int64]).Empty -/
def c128 : C := (.seq (.reg [(rO 1 (.box 195 (.tmp 0))),
 (rO 2 (.mv (.const (.bool false))))])
 (.seq (.reg [(rO 3 (.fa 0 (.tmp 1))),
 (rO 4 (.ld none (.tmp 3))),
 (rO 5 (.fa 1 (.tmp 1))),
 (rO 6 (.ld none (.tmp 5))),
 (rO 7 (.bin .geq (.tmp 4) (.tmp 6))),
 (rO 2 (.mv (.tmp 7)))])
 .ret))
def r128 : List RV := [.tmp 2]
theorem ok128 : FnOk Try.prog 128 8 c128 r128 := ⟨[], _, _, Try.func128, rfl, rfl, by kernel_rfl, by kernel_rfl, by kernel_rfl⟩
/-- slices.IndexFunc[[]vouch/api.Write,vouch/api.Write] -/
def c143 : C := (.seq (.reg [(rO 4 (.mv (.const (.int .i64 0))))])
 (.seq (.seq (.reg [(rO 6 (.mv (.tmp 0))),
 (rO 7 (.len true (.tmp 6))),
 (rO 8 (.mv (.const (.int .i64 0))))])
 (.block 0 (.loop (.seq (.reg [(rO 9 (.bin .lss (.tmp 8) (.tmp 7)))])
 (.seq (.cond (.tmp 9) .skip
 (.exit 0))
 (.seq (.block 1 (.seq (.reg [(rO 10 (.mv (.tmp 8))),
 (rO 5 (.mv (.tmp 10)))])
 (.seq (.reg [(rO 11 (.mv (.tmp 1))),
 (rO 12 (.mv (.tmp 0))),
 (rO 13 (.mv (.tmp 5))),
 (rO 14 (.ia 3 (.tmp 12) (.tmp 13))),
 (rO 15 (.ld (some 3) (.tmp 14))),
 (rO 16 (.callv (.tmp 11) [(.tmp 15)]))])
 (.cond (.tmp 16) (.seq (.reg [(rO 17 (.mv (.tmp 5))),
 (rO 4 (.mv (.tmp 17)))])
 .ret)
 .skip))))
 (.reg [(rO 18 (.bin .add (.tmp 8) (.const (.int .i64 1)))),
 (rO 8 (.mv (.tmp 18)))])))))))
 (.seq (.reg [(rO 4 (.mv (.const (.int .i64 (-1)))))])
 .ret)))
def r143 : List RV := [.tmp 4]
theorem ok143 : FnOk Try.prog 143 19 c143 r143 := ⟨[], _, _, Try.func143, rfl, rfl, by kernel_rfl, by kernel_rfl, by kernel_rfl⟩
end Go.Proofs.Ytpnghjmphbhkjaa

-- SpK
namespace Go.Sp
theorem RowsAt.known {α : Type} {E sz : Nat} {f : α → List Value} {σ : Hp} {v : Value} {l : List α} (h : RowsAt E sz f σ v l) {k : Nat} (hk : blk v = some k) : σ k ≠ none := by
  rcases h with ⟨rfl, _⟩ | ⟨b, c, rfl, _, hb⟩
  · cases hk
  · cases hk; rw [hb]; simp
open Go.RowKit (Below)
/-- The block of v is not known to σ. -/
def New (σ : Hp) (v : Value) : Prop := ∀ k, blk v = some k → σ k = none
theorem Same.at {F : Nat → Prop} {σ σ' : Hp} {g : Nat} {o : Blk} (h : Same F σ σ') (hg : σ g = some o) (hf : ¬ F g) : σ' g = some o := (h g (by rw [hg]; simp) hf).trans hg
def off (σ : Hp) (g : Nat) : Hp := fun k => if k = g then none else σ k
theorem Sub.noneAt {τ σ : Hp} {b : Nat} (h : Sub τ σ) (hb : σ b = none) : τ b = none := (h b).elim id fun e => e.trans hb
theorem Sub.same {τ σ σ' : Hp} {F : Nat → Prop} (h : Sub τ σ) (s : Same F σ σ') (hF : ∀ k, F k → τ k = none) : Sub τ σ' := fun k => by
  rcases h k with e | e
  · exact .inl e
  · by_cases hf : F k
    · exact .inl (hF k hf)
    · by_cases hs : σ k = none
      · exact .inl (e.trans hs)
      · exact .inr (e.trans (s k hs hf).symm)
theorem RowsAt.ro {α : Type} {E sz : Nat} {f : α → List Value} (hf : ∀ x, (f x).length = sz) {σ : Hp} {v : Value} {l : List α} (h : RowsAt E sz f σ v l) : RoRows sz f σ v l := by
  rcases h with ⟨rfl, rfl⟩ | ⟨b, c, rfl, _, hb⟩
  · exact ⟨none, 0, rfl, fun i x hx => by simp at hx⟩
  · refine ⟨some ⟨b, 0, none⟩, c, rfl, fun i x hx => ⟨b, 0, rfl, ?_⟩⟩
    unfold rdn
    rw [hb]
    show seg _ (0 + i * sz) sz = _
    have := seg_flat hf hx 0 sz (by omega)
    rw [Nat.add_zero] at this
    rw [Nat.zero_add, this]
    have e := seg_all (f x)
    rw [hf] at e
    exact e
theorem Same.unUpd {τ σ : Hp} {g : Nat} {X : Blk} (hg : τ g = none) (h : Same (fun _ => False) (upd τ g X) σ) : Same (fun _ => False) τ σ := fun k hk hf => by
  have e : k ≠ g := fun e => by subst e; exact hk hg
  have := h k (by rw [upd_ne _ _ e]; exact hk) hf
  rw [this, upd_ne _ _ e]
theorem New.unUpd {τ : Hp} {g : Nat} {X : Blk} {v : Value} (h : New (upd τ g X) v) : New τ v := fun k hk => ((none_upd _ _ _ _).1 (h k hk)).2
theorem New.ne {τ : Hp} {g : Nat} {X : Blk} {v : Value} (h : New (upd τ g X) v) : blk v ≠ some g := fun e => by
  have := h g e; rw [upd_same] at this; cases this
theorem Same.sub {τ σ : Hp} (h : Same (fun _ => False) τ σ) : Sub τ σ := fun k => by
  by_cases e : τ k = none
  · exact .inl e
  · exact .inr (h k e (fun x => x)).symm
theorem RowsAt.ne {α : Type} {E sz : Nat} {f : α → List Value} {σ : Hp} {v : Value} {l : List α} (h : RowsAt E sz f σ v l) {g : Nat} (hg : σ g = none) : blk v ≠ some g := fun e => h.known e hg
/-- Two known blocks, laid open. -/
theorem open_2 {σ : Hp} {g b : Nat} {A B : Blk} (hg : σ g = some A) (hb : σ b = some B) (_hne : g ≠ b) : ∃ τ, σ = upd (upd τ b B) g A := ⟨σ, by rw [upd_self hb, upd_self hg]⟩
theorem seg_part {cs vs : List Value} {o n : Nat} (h : seg cs o n = some vs) (i m : Nat) (hm : i + m ≤ n) : seg cs (o + i) m = some ((vs.drop i).take m) := by
  unfold seg at h ⊢
  split at h
  · cases h
    rw [if_pos (by omega), List.drop_take, List.take_take, List.drop_drop, Nat.min_eq_left (by omega)]
  · cases h
theorem rdn_part {σ : Hp} {b o n : Nat} {vs : List Value} (h : rdn σ b o n = some vs) (i m : Nat) (hm : i + m ≤ n) : rdn σ b (o + i) m = some ((vs.drop i).take m) := by
  unfold rdn at *
  generalize σ b = q at *
  split at h
  · exact seg_part h i m hm
  · exact seg_part h i m hm
  · exact seg_part h i m hm
  · cases h
theorem rd_of_rdn {σ : Hp} {b o : Nat} {v : Value} (h : rdn σ b o 1 = some [v]) : rd σ b o = some v := by
  have key : ∀ cs : List Value, seg cs o 1 = some [v] → cs[o]? = some v := fun cs h => by
    unfold seg at h
    split at h
    · rename_i hl
      have e : (cs.drop o).take 1 = [v] := Option.some.inj h
      have : ((cs.drop o).take 1)[0]? = some v := by rw [e]; rfl
      rw [List.getElem?_take_of_lt (by omega), List.getElem?_drop] at this
      simpa using this
    · cases h
  unfold rdn at h
  unfold rd
  generalize σ b = q at *
  cases q with
  | none => cases h
  | some x =>
    cases x with
    | cells cs t => exact key _ h
    | row cs r t => exact key _ h
    | dead => cases h
    | ro o =>
      cases o with
      | cells cs t fr =>
        have := key _ h
        simpa using this
      | _ => cases h
    | mp l => cases h
    | im l => cases h
theorem rd_part {σ : Hp} {b o n : Nat} {vs : List Value} (h : rdn σ b o n = some vs) (i : Nat) {v : Value} (hv : vs[i]? = some v) : rd σ b (o + i) = some v := by
  have hl := rdn_len h
  have hi : i < vs.length := (List.getElem?_eq_some_iff.1 hv).1
  have := rdn_part h i 1 (by omega)
  refine rd_of_rdn (this.trans ?_)
  rw [List.drop_eq_getElem_cons hi]
  rw [List.getElem?_eq_getElem hi] at hv
  cases hv; rfl
/-- An element of rows that are only read. -/
theorem RoRows.get {α : Type} {sz : Nat} {f : α → List Value} {σ : Hp} {A : Option Addr} {n c : Nat} {l : List α} (h : RoRows sz f σ (.slice A n c) l) {i : Nat} (hi : i < l.length) : ∃ b o, A = some ⟨b, o, none⟩ ∧ rdn σ b (o + i * sz) sz = some (f l[i]) := by
  obtain ⟨A', c', e, h⟩ := h
  cases e
  exact h i _ (List.getElem?_eq_getElem hi)
theorem RoRows.len {α : Type} {sz : Nat} {f : α → List Value} {σ : Hp} {A : Option Addr} {n c : Nat} {l : List α} (h : RoRows sz f σ (.slice A n c) l) : n = l.length := by
  obtain ⟨A', c', e, _⟩ := h
  cases e; rfl
theorem rdn_known {σ : Hp} {b o n : Nat} {vs : List Value} (h : rdn σ b o n = some vs) : σ b ≠ none := fun e => by unfold rdn at h; rw [e] at h; cases h
end Go.Sp

-- XLay
namespace Go.Proofs
open Go.Shelf
def Try.apL_ren : Go.Shelf.Ren := ⟨fun | 11 => 111 | n => n, fun | 24 => 36 | 26 => 9 | 28 => 159 | 0 => 0 | 33 => 112 | 4 => 4 | n => n, fun | n => n⟩
theorem Try.apL : Go.Proofs.SlLaysZ.n11 Try.prog Try.apL_ren := {
  mixed := by kernel_rfl
  f11 := ⟨Try.f111.name, by decide, Try.func111.trans (congrArg some (by kernel_rfl))⟩
  t0 := Try.underlying0
  a0 := Try.isAgg0
  z0 := Try.sizeOf0
  v0 := Try.zeroValue0
  t24 := Try.underlying36
  a24 := Try.isAgg36
  z24 := Try.sizeOf36
  v24 := Try.zeroValue36
  t26 := Try.underlying9
  a26 := Try.isAgg9
  z26 := Try.sizeOf9
  v26 := Try.zeroValue9
  t28 := Try.underlying159
  a28 := Try.isAgg159
  z28 := Try.sizeOf159
  v28 := Try.zeroValue159
  i26 := by kernel_rfl }
def Try.sortL_ren : Go.Shelf.Ren := ⟨fun | 190 => 92 | 125 => 113 | 258 => 112 | 128 => 139 | 129 => 140 | 302 => 130 | 303 => 131 | 304 => 132 | 305 => 133 | 306 => 134 | 307 => 135 | 308 => 136 | 309 => 137 | 310 => 138 | 333 => 145 | 329 => 146 | 330 => 147 | 334 => 148 | 335 => 149 | 336 => 150 | 344 => 152 | n => n, fun | 31 => 36 | 9 => 9 | 3 => 3 | 46 => 167 | 0 => 0 | 51 => 222 | 53 => 208 | 4 => 4 | 183 => 215 | 182 => 214 | 131 => 153 | 5 => 5 | 218 => 228 | 222 => 232 | 228 => 234 | 229 => 235 | n => n, fun | n => n⟩
theorem Try.sortL : Go.Proofs.Lays.n190 Try.prog Try.sortL_ren := {
  mixed := by kernel_rfl
  f125 := Try.func113.trans (congrArg some (by kernel_rfl))
  f128 := Try.func139.trans (congrArg some (by kernel_rfl))
  f129 := Try.func140.trans (congrArg some (by kernel_rfl))
  f190 := Try.func92.trans (congrArg some (by kernel_rfl))
  f258 := Try.func112.trans (congrArg some (by kernel_rfl))
  f302 := Try.func130.trans (congrArg some (by kernel_rfl))
  f303 := Try.func131.trans (congrArg some (by kernel_rfl))
  f304 := Try.func132.trans (congrArg some (by kernel_rfl))
  f305 := Try.func133.trans (congrArg some (by kernel_rfl))
  f306 := Try.func134.trans (congrArg some (by kernel_rfl))
  f307 := Try.func135.trans (congrArg some (by kernel_rfl))
  f308 := Try.func136.trans (congrArg some (by kernel_rfl))
  f309 := Try.func137.trans (congrArg some (by kernel_rfl))
  f310 := Try.func138.trans (congrArg some (by kernel_rfl))
  f329 := Try.func146.trans (congrArg some (by kernel_rfl))
  f330 := Try.func147.trans (congrArg some (by kernel_rfl))
  f333 := Try.func145.trans (congrArg some (by kernel_rfl))
  f334 := Try.func148.trans (congrArg some (by kernel_rfl))
  f335 := Try.func149.trans (congrArg some (by kernel_rfl))
  f336 := Try.func150.trans (congrArg some (by kernel_rfl))
  f344 := Try.func152.trans (congrArg some (by kernel_rfl))
  t0 := Try.underlying0
  a0 := Try.isAgg0
  z0 := Try.sizeOf0
  v0 := Try.zeroValue0
  t3 := Try.underlying3
  a3 := Try.isAgg3
  z3 := Try.sizeOf3
  v3 := Try.zeroValue3
  t4 := Try.underlying4
  a4 := Try.isAgg4
  z4 := Try.sizeOf4
  v4 := Try.zeroValue4
  t5 := Try.underlying5
  a5 := Try.isAgg5
  z5 := Try.sizeOf5
  v5 := Try.zeroValue5
  t9 := Try.underlying9
  a9 := Try.isAgg9
  z9 := Try.sizeOf9
  v9 := Try.zeroValue9
  t31 := Try.underlying36
  a31 := Try.isAgg36
  z31 := Try.sizeOf36
  v31 := Try.zeroValue36
  t46 := Try.underlying167
  a46 := Try.isAgg167
  z46 := Try.sizeOf167
  v46 := Try.zeroValue167
  t51 := Try.underlying222
  a51 := Try.isAgg222
  z51 := Try.sizeOf222
  v51 := Try.zeroValue222
  t53 := Try.underlying208
  a53 := Try.isAgg208
  z53 := Try.sizeOf208
  v53 := Try.zeroValue208
  t131 := Try.underlying153
  a131 := Try.isAgg153
  z131 := Try.sizeOf153
  v131 := Try.zeroValue153
  t182 := Try.underlying214
  a182 := Try.isAgg214
  z182 := Try.sizeOf214
  v182 := Try.zeroValue214
  t183 := Try.underlying215
  a183 := Try.isAgg215
  z183 := Try.sizeOf215
  v183 := Try.zeroValue215
  t218 := Try.underlying228
  a218 := Try.isAgg228
  z218 := Try.sizeOf228
  v218 := Try.zeroValue228
  t222 := Try.underlying232
  a222 := Try.isAgg232
  z222 := Try.sizeOf232
  v222 := Try.zeroValue232
  t228 := Try.underlying234
  a228 := Try.isAgg234
  z228 := Try.sizeOf234
  v228 := Try.zeroValue234
  t229 := Try.underlying235
  a229 := Try.isAgg235
  z229 := Try.sizeOf235
  v229 := Try.zeroValue235 }
def Try.compL_ren : Go.Shelf.Ren := ⟨fun | 194 => 76 | n => n, fun | 31 => 36 | 9 => 9 | 3 => 3 | 4 => 4 | 0 => 0 | n => n, fun | n => n⟩
theorem Try.compL : Go.Proofs.Lays.n194 Try.prog Try.compL_ren := {
  mixed := by kernel_rfl
  f194 := Try.func76.trans (congrArg some (by kernel_rfl))
  t0 := Try.underlying0
  a0 := Try.isAgg0
  z0 := Try.sizeOf0
  v0 := Try.zeroValue0
  t3 := Try.underlying3
  a3 := Try.isAgg3
  z3 := Try.sizeOf3
  v3 := Try.zeroValue3
  t4 := Try.underlying4
  a4 := Try.isAgg4
  z4 := Try.sizeOf4
  v4 := Try.zeroValue4
  t9 := Try.underlying9
  a9 := Try.isAgg9
  z9 := Try.sizeOf9
  v9 := Try.zeroValue9
  t31 := Try.underlying36
  a31 := Try.isAgg36
  z31 := Try.sizeOf36
  v31 := Try.zeroValue36 }
end Go.Proofs

-- XS
namespace Go.Proofs.Ytpnghjmphbhkjaa
open Go.RowKit Go.Maps Go.Sort Go.Shelf
set_option linter.unusedSimpArgs false
set_option linter.unusedVariables false
attribute [local go_sem] Oper.semAt_some
set_option maxRecDepth 100000 in
set_option maxHeartbeats 2000000 in
/-- slices.Values' closure, of a slice that lies below n₀, for rounds that keep what lies there. -/
theorem vals98 (n : Nat) (hn : 1 ≤ n) (l Bs n₀ b off cap : Nat) (zs : List (List UInt8)) (hreach : zs.length * 16 ≤ 140737488351232) (hBn : Bs < n₀) (hb : b < n₀) (J : List (List UInt8) → World → Prop) (w : World)
    (hJB : ∀ s W', J s W' → Below n₀ w W')
    (hY : ∀ pre x W1, J pre W1 → pre.length < zs.length → YieldAt Fence.wide (n - 1) Try.prog l #[encStr x] W1 fun e W' => e = .returned (.bool true) ∧ J (pre ++ [x]) W' ∧ KeepsWalks W1 W')
    (hBs : w.cell? ⟨Bs, 0, none⟩ = some (.slice (some ⟨b, off, none⟩) zs.length cap)) (hc : ∀ j x, zs[j]? = some x → w.cell? ⟨b, off + j, none⟩ = some (encStr x)) (W : World) (h0 : J [] W) :
    CallsIn Fence.wide n Try.prog 98 #[.func (.yield l) #[] #[], .pointer (some ⟨Bs, 0, none⟩)] W fun e W' => (∃ v, e = .returned v) ∧ J zs W' := by
  have hBs' := ((hJB _ _ h0).cell (p := ⟨Bs, 0, none⟩) hBn).trans hBs
  refine callsIn_of_wp Try.func98 rfl trivial ?_ rfl
  simp only [Try.ntmps98, List.size_toArray, List.length_cons, List.length_nil, Nat.reduceAdd, Nat.reduceSub, Array.replicate_succ, Array.replicate_zero, List.push_toArray, List.append_toArray, List.nil_append, List.cons_append]
  gi_wp2
  gi_loopw [7] (fun i wr => ∃ k : Nat, k ≤ zs.length ∧ i = .int .i64 k ∧ J (zs.take k) wr) (fun i _ => zs.length - (intOf i).toNat)
  case atStart => exact ⟨0, Nat.zero_le _, rfl, by simpa using h0⟩
  case round =>
    obtain ⟨k, hk, rfl, hJs⟩ := hrel
    by_cases hlt : k < zs.length
    · obtain ⟨x, hx⟩ : ∃ x, zs[k]? = some x := ⟨_, List.getElem?_eq_getElem hlt⟩
      have hcx := ((hJB _ _ hJs).cell (p := ⟨b, off + k, none⟩) hb).trans (hc k x hx)
      have e1 : zs.take (k + 1) = zs.take k ++ [x] := by rw [List.take_add_one, hx]; rfl
      obtain ⟨fn, tmps, assign, body, hy, hR⟩ := hY _ x wr hJs (by simp; omega)
      clear hx
      gi_wp2
      refine hR.mono ?_
      rintro e W3 ⟨rfl, hJ3, hk3⟩
      gi_wp2
      go_roundw
      case rel => exact ⟨k + 1, by omega, by simp, by rw [e1]; exact hJ3⟩
      case measure => simp [intOf]; omega
    · obtain rfl : k = zs.length := by omega
      gi_wp2
      go_end0
      exact ⟨⟨_, rfl⟩, by simpa using hJs⟩
/-- An iterator value that gives zs to rounds that keep what lay in w. -/
def SeqB (g : Nat) (lb : Array Value) (zs : List (List UInt8)) (w : World) : Prop :=
  ∀ (n l : Nat) (J : List (List UInt8) → World → Prop) (W : World), 1 ≤ n → (∀ s W', J s W' → Below w.heap.size w W') →
    (∀ pre x W1, J pre W1 → pre.length < zs.length → YieldAt Fence.wide (n - 1) Try.prog l #[encStr x] W1 fun e W' => e = .returned (.bool true) ∧ J (pre ++ [x]) W' ∧ KeepsWalks W1 W') →
    J [] W → CallsIn Fence.wide n Try.prog g (#[.func (.yield l) #[] #[]] ++ lb) W fun e W' => (∃ v, e = .returned v) ∧ J zs W'
theorem seqB98 {Bs b off cap : Nat} {zs : List (List UInt8)} {w : World} (hreach : zs.length * 16 ≤ 140737488351232) (hBn : Bs < w.heap.size) (hb : b < w.heap.size)
    (hBs : w.cell? ⟨Bs, 0, none⟩ = some (.slice (some ⟨b, off, none⟩) zs.length cap)) (hc : ∀ j x, zs[j]? = some x → w.cell? ⟨b, off + j, none⟩ = some (encStr x)) : SeqB 98 #[.pointer (some ⟨Bs, 0, none⟩)] zs w :=
  fun n l J W hn hJB hY h0 => vals98 n hn l Bs w.heap.size b off cap zs hreach hBn hb J w hJB hY hBs hc W h0
set_option maxRecDepth 100000 in
set_option maxHeartbeats 2000000 in
/-- slices.AppendSeq(nil, seq). -/
theorem appendSeq111 (g : Nat) (lb : Array Value) (eg : ∀ args w, (callFunc g args).run Try.prog w = .ok (.enter g args) w) (zs : List (List UInt8)) (hN : zs.length ≤ maxLen) (hNb : zs.length * 16 ≤ 140737488355328) (w : World) (hseq : SeqB g lb zs w) :
    CallsIn Fence.wide 4 Try.prog 111 #[.slice none 0 0, .func (.func g) #[] lb] w fun e w' => ∃ v : Value, e = .returned v ∧ w'.ownsRow w.heap.size 9 1 v zs.length (zs.map encStr) ∧ (v = .slice none 0 0 ↔ zs = []) ∧ Below w.heap.size w w' := by
  refine callsIn_of_wp_marks Try.func111 rfl trivial ?_ rfl
  simp only [Try.ntmps111, List.size_toArray, List.length_cons, List.length_nil, Nat.reduceAdd, Nat.reduceSub, Array.replicate_succ, Array.replicate_zero, List.push_toArray, List.append_toArray, List.nil_append, List.cons_append]
  gi_wp2
  refine wpIn_rangeFunc ?_
  intro fn hfn
  obtain ⟨W0, hW0⟩ : ∃ W0, w.alloc (.cells #[.slice none 0 0] 36) = W0 := ⟨_, rfl⟩
  have hs0 : W0.heap.size = w.heap.size + 1 := by rw [← hW0]; simp
  have hv0 : W0.heap[w.heap.size]? = some (.cells #[.slice none 0 0] 36 (0, 0)) := by rw [← hW0]; exact World.alloc_heap_new w _
  have hb0 : Below w.heap.size w W0 := by rw [← hW0]; exact (Below.refl _ w).alloc (Nat.le_refl _) _
  rw [hW0]
  obtain ⟨W1, hW1⟩ : ∃ W1, (W0.alloc (.deferred (some []))).alloc (.loop (AnyZ.apRec Try.apL_ren fn (.func (.func g) #[] lb) w.heap.size W0.heap.size .ready none)) = W1 := ⟨_, rfl⟩
  have hold : ∀ k, k < W0.heap.size → W1.heap[k]? = W0.heap[k]? := fun k hk => by
    rw [← hW1]; exact (Below.heap_alloc _ _ k (by simp; omega)).trans (Below.heap_alloc _ _ k hk)
  have hb1 : Below w.heap.size w W1 := by rw [← hW1]; exact (hb0.alloc hb0.size _).alloc (by have := hb0.size; simp; omega) _
  have hs1 : W1.heap.size = W0.heap.size + 2 := by rw [← hW1]; simp
  have hM : AnyZ.ApAt Try.apL_ren w fn (.func (.func g) #[] lb) w.heap.size (W0.heap.size + 1) W0.heap.size [] W1 :=
    ⟨⟨_, (hold w.heap.size (by omega)).trans hv0, ⟨rfl, .inl ⟨rfl, rfl⟩⟩, by simp⟩,
     by rw [← hW1]; have := World.alloc_heap_new (W0.alloc (.deferred (some []))) (.loop (AnyZ.apRec Try.apL_ren fn (.func (.func g) #[] lb) w.heap.size W0.heap.size .ready none)); rwa [World.size_alloc] at this,
     by rw [← hW1]; exact (Below.heap_alloc _ _ _ (by simp)).trans (World.alloc_heap_new W0 _), hb1⟩
  refine ⟨W0.heap.size + 1, [{ target := .collected W0.heap.size, args := #[] }], W1, { target := .fn (.func g) lb, args := #[.func (.yield (W0.heap.size + 1)) #[] #[]] }, W1, g,
    #[.func (.yield (W0.heap.size + 1)) #[] #[]] ++ lb, W1, ?_, ?_, ?_, ?_, fun _ => (by decide), ?_⟩
  · rw [← hW1]; exact run_enterLoop_outer _ _ _ _ _
  · simp [resolve, go_sem]
  · intro f' hf'; trivial
  · simp [invoke, go_sem, eg]
  · refine (hseq 3 (W0.heap.size + 1) (AnyZ.ApAt Try.apL_ren w fn (.func (.func g) #[] lb) w.heap.size (W0.heap.size + 1) W0.heap.size) W1 (by decide) (fun _ _ h => h.below)
      (fun pre x W hJ hl => AnyZ.apYield Try.apL Fence.wide 2 w fn hfn _ w.heap.size (W0.heap.size + 1) W0.heap.size (by omega) (by omega) (by omega) (Nat.le_refl _) (by omega) zs.length hN hNb pre x W hJ hl) hM).mono ?_
    rintro e W2 ⟨⟨v0, rfl⟩, h2⟩
    obtain ⟨v, hv, hrow, hnil⟩ := h2.box
    have hend := run_endLoop (P := Try.prog) h2.L (by simp [AnyZ.apRec])
    obtain ⟨W3, hW3⟩ : ∃ W3, W2.putObj (W0.heap.size + 1) (.loop { AnyZ.apRec Try.apL_ren fn (.func (.func g) #[] lb) w.heap.size W0.heap.size .ready none with state := .exhausted }) = W3 := ⟨_, rfl⟩
    rw [hW3] at hend
    have hg3 : W2.grownBy W3 (some (W0.heap.size + 1)) := by rw [← hW3]; exact grownBy_putObj_a _ _ _
    have hv : W2.heap[w.heap.size]? = some (.cells #[v] 36 (0, 0)) := hv
    have hrow : W2.ownsRow w.heap.size 9 1 v zs.length (zs.map encStr) := hrow
    have hv3 : W3.heap[w.heap.size]? = some (.cells #[v] 36 (0, 0)) := by rw [← hW3]; exact (World.putObj_heap_other (by omega)).trans hv
    have hK3 : W3.heap[W0.heap.size]? = some (.deferred (some [])) := by rw [← hW3]; exact (World.putObj_heap_other (by omega)).trans h2.K
    have hrow3 := hrow.kept hg3 (ownsRow_ne_a hrow h2.L (fun cur e => by cases e))
    have hb3 : Below w.heap.size w W3 := h2.below.grown hg3 h2.below.size (fun k e => by cases e; omega)
    obtain ⟨hc3, hf3⟩ := cell_of_box_a hv3
    clear hW3
    refine ⟨none, W3, hend, ?_⟩
    gi_wp2
    rw [← hs0]
    refine ⟨by simp, .inl ⟨_, _, rfl, run_takeDeferred hK3, ?_⟩⟩
    exact ⟨_, results_tmp rfl _ _ _, v, rfl, hrow3.kept (grownBy_putObj_a _ _ _) (ownsRow_ne_a hrow3 hK3 (fun cur e => by cases e)), hnil, hb3.grown (grownBy_putObj_a _ _ _) hb3.size (fun k e => by cases e; omega)⟩
set_option maxHeartbeats 1000000 in
/-- slices.Collect(seq). -/
theorem collect91 (g : Nat) (lb : Array Value) (eg : ∀ args w, (callFunc g args).run Try.prog w = .ok (.enter g args) w) (zs : List (List UInt8)) (hN : zs.length ≤ maxLen) (hNb : zs.length * 16 ≤ 140737488355328) (w : World) (hseq : SeqB g lb zs w) :
    CallsIn Fence.wide 5 Try.prog 91 #[.func (.func g) #[] lb] w fun e w' => ∃ v : Value, e = .returned v ∧ w'.ownsRow w.heap.size 9 1 v zs.length (zs.map encStr) ∧ (v = .slice none 0 0 ↔ zs = []) ∧ Below w.heap.size w w' := by
  refine callsIn_of_wp Try.func91 rfl trivial ?_ rfl
  simp only [Try.ntmps91, List.size_toArray, List.length_cons, List.length_nil, Nat.reduceAdd, Nat.reduceSub, Array.replicate_succ, Array.replicate_zero, List.push_toArray, List.append_toArray, List.nil_append, List.cons_append]
  have h11 : Fence.wide.fn 111 := trivial
  gi_wp2_with (gi_at_call 111; refine (appendSeq111 g lb eg zs hN hNb _ hseq).mono ?_; rintro e w' ⟨v, rfl, hrow, hnil, hb⟩)
  go_ret
  exact ⟨v, rfl, hrow, hnil, hb⟩
set_option maxRecDepth 100000 in
set_option maxHeartbeats 2000000 in
/-- slices.Sorted(seq). -/
theorem sorted69 (g : Nat) (lb : Array Value) (eg : ∀ args w, (callFunc g args).run Try.prog w = .ok (.enter g args) w) (zs : List (List UInt8)) (hN : zs.length ≤ maxLen) (hNb : zs.length * 16 ≤ 140737488355328) (w : World) (hseq : SeqB g lb zs w) :
    Calls Try.prog 69 #[.func (.func g) #[] lb] w fun e w' => ∃ v : Value, e = .returned v ∧ w'.ownsRow w.heap.size 9 1 v zs.length ((zs.mergeSort (fun x y => decide (x ≤ y))).map encStr) ∧ Below w.heap.size w w' := by
  have c1 : ∀ (blk off cap : Nat) (ss : List (List UInt8)) (W : World), Holds encStr W blk off ss.toArray → blk < W.heap.size → ss.length < 4611686018427387904 →
    CallsIn Fence.wide 5 Try.prog 92 #[.slice (some ⟨blk, off, none⟩) ss.length cap] W fun e w' => e = .returned (.tuple #[]) ∧ ∃ k os, w' = grow (putRow encStr (Sort.ahead W k) blk off (ss.mergeSort fun x y => decide (x ≤ y)).toArray) os :=
    fun blk off cap ss W hH hblk hsz => callsIn_wide.2 (Any.slices_Sort_string Try.sortL blk off cap ss W hH hblk hsz)
  have c2 : ∀ (p : Option Addr) (cap : Nat) (W : World), CallsIn Fence.wide 5 Try.prog 92 #[.slice p 0 cap] W fun e w' => e = .returned (.tuple #[]) ∧ w' = W :=
    fun p cap W => callsIn_wide.2 (Any.slices_Sort_string_none Try.sortL p cap W)
  refine (callsIn_wide (n := 6)).1 ?_
  refine callsIn_of_wp Try.func69 rfl trivial ?_ rfl
  simp only [Try.ntmps69, List.size_toArray, List.length_cons, List.length_nil, Nat.reduceAdd, Nat.reduceSub, Array.replicate_succ, Array.replicate_zero, List.push_toArray, List.append_toArray, List.nil_append, List.cons_append]
  have h91 : Fence.wide.fn 91 := trivial
  have h92 : Fence.wide.fn 92 := trivial
  gi_wp2_with (gi_at_call 91; refine (collect91 g lb eg zs hN hNb _ hseq).mono ?_; rintro e W ⟨v, rfl, hrow, hnil, hb⟩)
  rcases hrow.2 with ⟨rfl, hz⟩ | ⟨gb, cap, cur, rfl, hbase, hgb, r1, r2, r3, r4⟩
  · have hss : zs = [] := List.eq_nil_of_length_eq_zero hz
    subst hss
    gi_wp2_with (gi_at_call 92; refine (c2 none 0 W).mono ?_; rintro e w' ⟨rfl, rfl⟩)
    go_ret
    exact ⟨.slice none 0 0, rfl, by simpa using hrow, hb⟩
  · have hH : Holds encStr W gb 0 zs.toArray := holds_of_block hgb (by simpa using r4)
    have hgl : gb < W.heap.size := (Array.getElem?_eq_some_iff.1 hgb).1
    have hsz : zs.length < 4611686018427387904 := by omega
    have cS := c1 gb 0 cap zs W hH hgl hsz
    gi_wp2_with (gi_at_call 92; refine cS.mono ?_; rintro e w' ⟨rfl, nn, os, rfl⟩)
    go_ret
    exact ⟨_, rfl, ownsRow_sorted (by simp) hbase hgb r1 r2 r3, hb.grown (grownBy_sorted _) hb.size (fun j hj => by cases hj; exact hbase)⟩
open Go.Sp
set_option maxRecDepth 100000
def c3_b0 : C := (.seq (.reg [(rO 13 (.mv (.const (.int .i64 0))))])
 (.block 0 (.loop (.seq (.seq (.reg [(rO 70 (.mv (.tmp 13))),
 (rO 71 (.mv (.tmp 0))),
 (rO 72 (.len true (.tmp 71))),
 (rO 73 (.bin .lss (.tmp 70) (.tmp 72)))])
 (.cond (.tmp 73) .skip
 (.exit 0)))
 (.seq (.block 1 (.seq (.reg [(rO 77 (.mv (.tmp 7))),
 (rO 78 (.mv (.tmp 0))),
 (rO 79 (.mv (.tmp 13))),
 (rO 80 (.ia 1 (.tmp 78) (.tmp 79))),
 (rO 81 (.ld none (.tmp 80))),
 (rO 82 (.call 9 [(.tmp 77), (.tmp 81)])),
 (rO 76 (.mv (.tmp 82))),
 (rO 83 (.ext 0 (.tmp 76))),
 (rO 84 (.ext 1 (.tmp 76))),
 (rO 14 (.mv (.tmp 83))),
 (rO 15 (.mv (.tmp 84)))])
 (.seq (.seq (.reg [(rO 85 (.mv (.tmp 15))),
 (rO 86 (.bin .neq (.tmp 85) (.const (.int .i64 0))))])
 (.cond (.tmp 86) (.exit 1)
 .skip))
 (.seq (.reg [(rO 88 (.mv (.tmp 8))),
 (rO 89 (.mv (.tmp 0))),
 (rO 90 (.mv (.tmp 13))),
 (rO 91 (.ia 1 (.tmp 89) (.tmp 90))),
 (rO 92 (.ld none (.tmp 91))),
 (rO 93 (.call 11 [(.tmp 92)])),
 (rO 94 (.call 10 [(.tmp 88), (.tmp 93)])),
 (rO 87 (.mv (.tmp 94))),
 (rO 95 (.ext 0 (.tmp 87))),
 (rO 96 (.ext 1 (.tmp 87))),
 (rO 16 (.mv (.tmp 95))),
 (rO 17 (.mv (.tmp 96)))])
 (.seq (.reg [(rO 97 (.mv (.tmp 17))),
 (rO 98 (.bin .neq (.tmp 97) (.const (.int .i64 0)))),
 (rO 99 (.mv (.tmp 98))),
 ⟨(some 100), (.mv (.tmp 14)), (some (99, false))⟩,
 ⟨(some 101), (.mv (.tmp 16)), (some (99, false))⟩,
 ⟨(some 102), (.bin .neq (.tmp 100) (.tmp 101)), (some (99, false))⟩,
 (rO 103 (.pick (.tmp 99) (.const (.bool true)) (.tmp 102)))])
 (.cond (.tmp 103) (.seq (.reg [(rO 6 (.mv (.const (.bool false))))])
 .ret)
 .skip))))))
 (.reg [(rO 74 (.mv (.tmp 13))),
 (rO 75 (.bin .add (.tmp 74) (.const (.int .i64 1)))),
 (rO 13 (.mv (.tmp 75)))]))))))
def c3_t0 : C := (.seq (.reg [(rO 105 (.mv (.tmp 7))),
 (rO 106 (.mv (.tmp 1))),
 (rO 107 (.mv (.tmp 2))),
 (rO 108 (.conv .i64 (.tmp 107))),
 (rO 109 (.call 12 [(.tmp 105), (.tmp 106), (.tmp 108)])),
 (rO 104 (.mv (.tmp 109))),
 (rO 110 (.ext 0 (.tmp 104))),
 (rO 111 (.ext 1 (.tmp 104))),
 (rO 18 (.new 39 [.string ⟨#[]⟩, .bool false, .string ⟨#[]⟩, .int .i64 (0), .int .i64 (0)])),
 ⟨none, (.st 5 (.tmp 18) (.tmp 110)), none⟩,
 (rO 19 (.mv (.tmp 111)))])
 (.seq (.seq (.reg [(rO 112 (.mv (.tmp 19))),
 (rO 113 (.bin .neq (.tmp 112) (.const (.int .i64 0))))])
 (.cond (.tmp 113) (.seq (.reg [(rO 114 (.mv (.tmp 1))),
 (rO 115 (.len false (.tmp 114))),
 (rO 116 (.bin .lss (.tmp 115) (.const (.int .i64 1)))),
 (rO 117 (.mv (.tmp 116))),
 ⟨(some 118), (.mv (.tmp 1)), (some (117, false))⟩,
 ⟨(some 119), (.len false (.tmp 118)), (some (117, false))⟩,
 ⟨(some 120), (.bin .gtr (.tmp 119) (.const (.int .i64 32))), (some (117, false))⟩,
 (rO 121 (.pick (.tmp 117) (.const (.bool true)) (.tmp 120))),
 (rO 122 (.mv (.tmp 121))),
 ⟨(some 123), (.mv (.tmp 2)), (some (122, false))⟩,
 ⟨(some 124), (.conv .i64 (.tmp 123)), (some (122, false))⟩,
 ⟨(some 125), (.mv (.tmp 8)), (some (122, false))⟩,
 ⟨(some 126), (.call 13 [(.tmp 125)]), (some (122, false))⟩,
 ⟨(some 127), (.bin .gtr (.tmp 124) (.tmp 126)), (some (122, false))⟩,
 (rO 128 (.pick (.tmp 122) (.const (.bool true)) (.tmp 127))),
 (rO 6 (.mv (.tmp 128)))])
 .ret)
 .skip))
 (.seq (.reg [(rO 130 (.mv (.tmp 8))),
 (rO 131 (.mv (.tmp 1))),
 (rO 132 (.mv (.tmp 2))),
 (rO 133 (.conv .i64 (.tmp 132))),
 (rO 134 (.call 14 [(.tmp 130), (.tmp 131), (.tmp 133)])),
 (rO 129 (.mv (.tmp 134))),
 (rO 135 (.ext 0 (.tmp 129))),
 (rO 136 (.ext 1 (.tmp 129))),
 (rO 20 (.mv (.tmp 135))),
 (rO 21 (.mv (.tmp 136)))])
 (.seq (.seq (.reg [(rO 137 (.mv (.tmp 21))),
 (rO 138 (.fa 4 (.tmp 18))),
 (rO 139 (.ld none (.tmp 138))),
 (rO 140 (.bin .neq (.tmp 139) (.const (.int .i64 4611686018427387904)))),
 (rO 141 (.eqs true .bool (.tmp 137) (.tmp 140))),
 (rO 142 (.mv (.tmp 141))),
 ⟨(some 143), (.mv (.tmp 21)), (some (142, false))⟩,
 ⟨(some 144), (.mv (.tmp 143)), (some (142, false))⟩,
 ⟨(some 145), (.mv (.tmp 20)), (some (144, true))⟩,
 ⟨(some 146), (.fa 4 (.tmp 18)), (some (144, true))⟩,
 ⟨(some 147), (.ld none (.tmp 146)), (some (144, true))⟩,
 ⟨(some 148), (.bin .neq (.tmp 145) (.tmp 147)), (some (144, true))⟩,
 ⟨(some 149), (.pick (.tmp 144) (.tmp 148) (.const (.bool false))), (some (142, false))⟩,
 (rO 150 (.pick (.tmp 142) (.const (.bool true)) (.tmp 149)))])
 (.cond (.tmp 150) (.seq (.reg [(rO 6 (.mv (.const (.bool false))))])
 .ret)
 .skip))
 (.seq (.seq (.reg [(rO 151 (.fa 3 (.tmp 18))),
 (rO 152 (.ld none (.tmp 151))),
 (rO 153 (.bin .eql (.tmp 152) (.const (.int .i64 0))))])
 (.cond (.tmp 153) (.seq (.reg [(rO 155 (.mv (.tmp 8))),
 (rO 156 (.mv (.tmp 1))),
 (rO 157 (.call 14 [(.tmp 155), (.tmp 156), (.const (.int .i64 0))])),
 (rO 154 (.mv (.tmp 157))),
 (rO 158 (.ext 0 (.tmp 154))),
 (rO 159 (.ext 1 (.tmp 154))),
 (rO 22 (.mv (.tmp 158))),
 (rO 23 (.mv (.tmp 159)))])
 (.seq (.reg [(rO 160 (.mv (.tmp 23))),
 (rO 161 (.nt (.tmp 160))),
 (rO 162 (.mv (.tmp 161))),
 ⟨(some 163), (.mv (.tmp 22)), (some (162, false))⟩,
 ⟨(some 164), (.mv (.tmp 2)), (some (162, false))⟩,
 ⟨(some 165), (.conv .i64 (.tmp 164)), (some (162, false))⟩,
 ⟨(some 166), (.bin .gtr (.tmp 163) (.tmp 165)), (some (162, false))⟩,
 (rO 167 (.pick (.tmp 162) (.const (.bool true)) (.tmp 166))),
 (rO 6 (.mv (.tmp 167)))])
 .ret))
 .skip))
 (.seq (.reg [(rO 169 (.mv (.tmp 8))),
 (rO 170 (.mv (.tmp 1))),
 (rO 171 (.fa 3 (.tmp 18))),
 (rO 172 (.ld none (.tmp 171))),
 (rO 173 (.bin .sub (.tmp 172) (.const (.int .i64 1)))),
 (rO 174 (.call 14 [(.tmp 169), (.tmp 170), (.tmp 173)])),
 (rO 168 (.mv (.tmp 174))),
 (rO 175 (.ext 0 (.tmp 168))),
 (rO 176 (.ext 1 (.tmp 168))),
 (rO 24 (.mv (.tmp 175))),
 (rO 25 (.mv (.tmp 176)))])
 (.seq (.reg [(rO 177 (.mv (.tmp 25))),
 (rO 178 (.mv (.tmp 177))),
 ⟨(some 179), (.mv (.tmp 24)), (some (178, true))⟩,
 ⟨(some 180), (.fa 3 (.tmp 18)), (some (178, true))⟩,
 ⟨(some 181), (.ld none (.tmp 180)), (some (178, true))⟩,
 ⟨(some 182), (.bin .eql (.tmp 179) (.tmp 181)), (some (178, true))⟩,
 (rO 183 (.pick (.tmp 178) (.tmp 182) (.const (.bool false)))),
 (rO 6 (.mv (.tmp 183)))])
 .ret)))))))
def c3_s0 : C := .seq c3_b0 c3_t0
/-- vouch/vouchtop.WholeLogs -/
def c3 : C := (.seq (.reg [(rO 6 (.mv (.const (.bool false))))])
 (.seq (.reg [(rO 26 (.call 7 [(.const (.int .i64 64))])),
 (rO 27 (.call 8 [])),
 (rO 7 (.mv (.tmp 26))),
 (rO 8 (.mv (.tmp 27)))])
 (.seq (.seq (.reg [(rO 28 (.mv (.tmp 7))),
 (rO 29 (.eqs false .ptr (.tmp 28) (.const (.pointer none)))),
 (rO 30 (.mv (.tmp 29))),
 ⟨(some 31), (.mv (.tmp 8)), (some (30, false))⟩,
 ⟨(some 32), (.eqs false .ptr (.tmp 31) (.const (.pointer none))), (some (30, false))⟩,
 (rO 33 (.pick (.tmp 30) (.const (.bool true)) (.tmp 32))),
 (rO 34 (.mv (.tmp 33))),
 ⟨(some 35), (.mv (.tmp 0)), (some (34, false))⟩,
 ⟨(some 36), (.len true (.tmp 35)), (some (34, false))⟩,
 ⟨(some 37), (.bin .gtr (.tmp 36) (.const (.int .i64 60))), (some (34, false))⟩,
 (rO 38 (.pick (.tmp 34) (.const (.bool true)) (.tmp 37)))])
 (.cond (.tmp 38) (.seq (.reg [(rO 39 (.mv (.tmp 7))),
 (rO 40 (.eqs true .ptr (.tmp 39) (.const (.pointer none)))),
 (rO 41 (.mv (.tmp 40))),
 ⟨(some 42), (.mv (.tmp 8)), (some (41, true))⟩,
 ⟨(some 43), (.eqs true .ptr (.tmp 42) (.const (.pointer none))), (some (41, true))⟩,
 (rO 44 (.pick (.tmp 41) (.tmp 43) (.const (.bool false)))),
 (rO 6 (.mv (.tmp 44)))])
 .ret)
 .skip))
 (.seq (.seq (.reg [(rO 46 (.mv (.tmp 7))),
 (rO 47 (.bld [.string ⟨#[]⟩, .bool false, .string ⟨#[]⟩] [(0, 1, (.const (.string { data := #[107] })))])),
 (rO 48 (.lit 33 1 3 [.string ⟨#[]⟩, .bool false, .string ⟨#[]⟩] [(0, 3, (.tmp 47))])),
 (rO 49 (.call 9 [(.tmp 46), (.tmp 48)])),
 (rO 45 (.mv (.tmp 49))),
 (rO 50 (.ext 0 (.tmp 45))),
 (rO 51 (.ext 1 (.tmp 45))),
 (rO 9 (.mv (.tmp 50))),
 (rO 10 (.mv (.tmp 51)))])
 (.seq (.reg [(rO 52 (.mv (.tmp 9))),
 (rO 53 (.bin .neq (.tmp 52) (.const (.int .i64 1)))),
 (rO 54 (.mv (.tmp 53))),
 ⟨(some 55), (.mv (.tmp 10)), (some (54, false))⟩,
 ⟨(some 56), (.bin .neq (.tmp 55) (.const (.int .i64 0))), (some (54, false))⟩,
 (rO 57 (.pick (.tmp 54) (.const (.bool true)) (.tmp 56)))])
 (.cond (.tmp 57) (.seq (.reg [(rO 6 (.mv (.const (.bool false))))])
 .ret)
 .skip)))
 (.seq (.seq (.reg [(rO 59 (.mv (.tmp 8))),
 (rO 60 (.lit 9 1 1 [.string ⟨#[]⟩] [(0, 1, (.const (.string { data := #[107] })))])),
 (rO 61 (.call 10 [(.tmp 59), (.tmp 60)])),
 (rO 58 (.mv (.tmp 61))),
 (rO 62 (.ext 0 (.tmp 58))),
 (rO 63 (.ext 1 (.tmp 58))),
 (rO 11 (.mv (.tmp 62))),
 (rO 12 (.mv (.tmp 63)))])
 (.seq (.reg [(rO 64 (.mv (.tmp 11))),
 (rO 65 (.bin .neq (.tmp 64) (.const (.int .i64 1)))),
 (rO 66 (.mv (.tmp 65))),
 ⟨(some 67), (.mv (.tmp 12)), (some (66, false))⟩,
 ⟨(some 68), (.bin .neq (.tmp 67) (.const (.int .i64 0))), (some (66, false))⟩,
 (rO 69 (.pick (.tmp 66) (.const (.bool true)) (.tmp 68)))])
 (.cond (.tmp 69) (.seq (.reg [(rO 6 (.mv (.const (.bool false))))])
 .ret)
 .skip)))
 c3_s0)))))
def r3 : List RV := [.tmp 6]
/-- vouch/store.New -/
def c7 : C := (.seq (.reg [(rO 2 (.mv (.const (.pointer none))))])
 (.seq (.reg [(rO 3 (.mkmap false)),
 (rO 4 (.mv (.tmp 0))),
 (rO 5 (.mx true (.tmp 4) (.const (.int .i64 1)))),
 (rO 6 (.mx false (.tmp 5) (.const (.int .i64 64)))),
 (rO 7 (.bld [.map none, .int .i64 (0), .int .i64 (0)] [(0, 1, (.tmp 3)), (1, 1, (.tmp 6))])),
 (rO 8 (.box 100 (.tmp 7))),
 (rO 2 (.mv (.tmp 8)))])
 .ret))
def r7 : List RV := [.tmp 2]
theorem ok7 : FnOk Try.prog 7 9 c7 r7 := ⟨[], _, _, Try.func7, rfl, rfl, by kernel_rfl, by kernel_rfl, by kernel_rfl⟩
/-- vouch/stream.New -/
def c8 : C := (.seq (.reg [(rO 0 (.mv (.const (.pointer none))))])
 (.seq (.reg [(rO 1 (.bld [.slice none 0 0] [])),
 (rO 2 (.box 102 (.tmp 1))),
 (rO 0 (.mv (.tmp 2)))])
 .ret))
def r8 : List RV := [.tmp 0]
theorem ok8 : FnOk Try.prog 8 3 c8 r8 := ⟨[], _, _, Try.func8, rfl, rfl, by kernel_rfl, by kernel_rfl, by kernel_rfl⟩
/-- (*vouch/store.Store).Commit -/
def c9 : C := (.seq (.reg [(rO 4 (.mv (.const (.int .i64 0)))),
 (rO 5 (.mv (.const (.int .i64 0))))])
 (.seq (.seq (.reg [(rO 11 (.mv (.tmp 0))),
 (rO 12 (.eqs false .ptr (.tmp 11) (.const (.pointer none))))])
 (.cond (.tmp 12) (.seq (.reg [(rO 4 (.mv (.const (.int .i64 0)))),
 (rO 5 (.mv (.const (.int .i64 3))))])
 .ret)
 .skip))
 (.seq (.seq (.reg [(rO 13 (.mv (.tmp 1))),
 (rO 14 (.call 41 [(.tmp 13)])),
 (rO 6 (.mv (.tmp 14)))])
 (.seq (.reg [(rO 15 (.mv (.tmp 6))),
 (rO 16 (.bin .neq (.tmp 15) (.const (.int .i64 0))))])
 (.cond (.tmp 16) (.seq (.reg [(rO 17 (.mv (.tmp 6))),
 (rO 4 (.mv (.const (.int .i64 0)))),
 (rO 5 (.mv (.tmp 17)))])
 .ret)
 .skip)))
 (.seq (.seq (.reg [(rO 18 (.mv (.tmp 0))),
 (rO 19 (.nilc (.tmp 18))),
 (rO 20 (.fa 2 (.tmp 19))),
 (rO 21 (.ld none (.tmp 20))),
 (rO 22 (.bin .geq (.tmp 21) (.const (.int .i64 1099511627776))))])
 (.cond (.tmp 22) (.seq (.reg [(rO 4 (.mv (.const (.int .i64 0)))),
 (rO 5 (.mv (.const (.int .i64 2))))])
 .ret)
 .skip))
 (.seq (.reg [(rO 23 (.mv (.tmp 0))),
 (rO 24 (.nilc (.tmp 23))),
 (rO 25 (.fa 2 (.tmp 24))),
 (rO 26 (.ld none (.tmp 25))),
 (rO 27 (.bin .add (.tmp 26) (.const (.int .i64 1)))),
 (rO 28 (.nilc (.tmp 23))),
 (rO 29 (.fa 2 (.tmp 28))),
 ⟨none, (.st 1 (.tmp 29) (.tmp 27)), none⟩])
 (.seq (.seq (.reg [(rO 30 (.mv (.tmp 1))),
 (rO 31 (.len true (.tmp 30))),
 (rO 32 (.mv (.const (.int .i64 0))))])
 (.block 0 (.loop (.seq (.reg [(rO 33 (.bin .lss (.tmp 32) (.tmp 31)))])
 (.seq (.cond (.tmp 33) .skip
 (.exit 0))
 (.seq (.block 1 (.seq (.reg [(rO 34 (.ia 3 (.tmp 30) (.tmp 32))),
 (rO 35 (.ld (some 3) (.tmp 34))),
 (rO 8 (.new 33 [.string ⟨#[]⟩, .bool false, .string ⟨#[]⟩])),
 ⟨none, (.st 3 (.tmp 8) (.tmp 35)), none⟩])
 (.seq (.draw [⟨(rO 36 (.mv (.tmp 0))), .p⟩,
 ⟨(rO 37 (.nilc (.tmp 36))), .p⟩,
 ⟨(rO 38 (.fa 0 (.tmp 37))), .p⟩,
 ⟨(rO 39 (.ld none (.tmp 38))), .l⟩,
 ⟨(rO 40 (.fa 0 (.tmp 8))), .p⟩,
 ⟨(rO 41 (.ld none (.tmp 40))), .l⟩,
 ⟨(rO 42 (.look (.get false false) (.agg #[.slice none 0 0, .bool false]) (.tmp 39) (.tmp 41))), .l⟩,
 ⟨(rO 9 (.new 106 [.slice none 0 0, .bool false])), .f⟩,
 ⟨⟨none, (.st 2 (.tmp 9) (.tmp 42)), none⟩, .m⟩])
 (.seq (.draw [⟨(rO 43 (.fa 0 (.tmp 9))), .p⟩,
 ⟨(rO 44 (.ld none (.tmp 43))), .l⟩,
 ⟨(rO 45 (.call 42 [(.tmp 44)])), .g⟩,
 ⟨(rO 46 (.mv (.tmp 0))), .p⟩,
 ⟨(rO 47 (.nilc (.tmp 46))), .p⟩,
 ⟨(rO 48 (.fa 2 (.tmp 47))), .p⟩,
 ⟨(rO 49 (.ld none (.tmp 48))), .l⟩,
 ⟨(rO 50 (.fa 1 (.tmp 8))), .p⟩,
 ⟨(rO 51 (.ld (some 2) (.tmp 50))), .l⟩,
 ⟨(rO 52 (.bld [.int .i64 (0), .bool false, .string ⟨#[]⟩] [(0, 1, (.tmp 49)), (1, 2, (.tmp 51))])), .p⟩,
 ⟨(rO 53 (.lit 109 1 3 [.int .i64 (0), .bool false, .string ⟨#[]⟩] [(0, 3, (.tmp 52))])), .f⟩,
 ⟨(rO 54 (.app 109 3 32 (.tmp 45) (.tmp 53))), .m⟩,
 ⟨(rO 10 (.mv (.tmp 54))), .p⟩])
 (.seq (.seq (.reg [(rO 55 (.mv (.tmp 10))),
 (rO 56 (.len true (.tmp 55))),
 (rO 57 (.mv (.tmp 0))),
 (rO 58 (.nilc (.tmp 57))),
 (rO 59 (.fa 1 (.tmp 58))),
 (rO 60 (.ld none (.tmp 59))),
 (rO 61 (.bin .gtr (.tmp 56) (.tmp 60)))])
 (.cond (.tmp 61) (.reg [(rO 62 (.mv (.tmp 10))),
 (rO 63 (.mv (.tmp 10))),
 (rO 64 (.len true (.tmp 63))),
 (rO 65 (.mv (.tmp 0))),
 (rO 66 (.nilc (.tmp 65))),
 (rO 67 (.fa 1 (.tmp 66))),
 (rO 68 (.ld none (.tmp 67))),
 (rO 69 (.bin .sub (.tmp 64) (.tmp 68))),
 (rO 70 (.fnl (.sll 3) [(.tmp 62), (.tmp 69)])),
 (rO 10 (.mv (.tmp 70))),
 (rO 71 (.fa 1 (.tmp 9))),
 ⟨none, (.st 1 (.tmp 71) (.const (.bool true))), none⟩])
 .skip))
 (.draw [⟨(rO 72 (.mv (.tmp 0))), .p⟩,
 ⟨(rO 73 (.nilc (.tmp 72))), .p⟩,
 ⟨(rO 74 (.fa 0 (.tmp 73))), .p⟩,
 ⟨(rO 75 (.ld none (.tmp 74))), .l⟩,
 ⟨(rO 76 (.fa 0 (.tmp 8))), .p⟩,
 ⟨(rO 77 (.ld none (.tmp 76))), .l⟩,
 ⟨(rO 78 (.mv (.tmp 10))), .p⟩,
 ⟨(rO 79 (.fa 1 (.tmp 9))), .p⟩,
 ⟨(rO 80 (.ld none (.tmp 79))), .l⟩,
 ⟨(rO 81 (.bld [.slice none 0 0, .bool false] [(0, 1, (.tmp 78)), (1, 1, (.tmp 80))])), .p⟩,
 ⟨⟨none, (.mset (.put false) (.tmp 75) (.tmp 77) (.tmp 81)), none⟩, .m⟩]))))))
 (.reg [(rO 82 (.bin .add (.tmp 32) (.const (.int .i64 1)))),
 (rO 32 (.mv (.tmp 82)))])))))))
 (.seq (.reg [(rO 83 (.mv (.tmp 0))),
 (rO 84 (.nilc (.tmp 83))),
 (rO 85 (.fa 2 (.tmp 84))),
 (rO 86 (.ld none (.tmp 85))),
 (rO 4 (.mv (.tmp 86))),
 (rO 5 (.mv (.const (.int .i64 0))))])
 .ret)))))))
def r9 : List RV := [.tmp 4, .tmp 5]
theorem ok9 : FnOk Try.prog 9 87 c9 r9 := ⟨[], _, _, Try.func9, rfl, rfl, by kernel_rfl, by kernel_rfl, by kernel_rfl⟩
/-- (*vouch/stream.Log).Append -/
def c10 : C := (.seq (.reg [(rO 4 (.mv (.const (.int .i64 0)))),
 (rO 5 (.mv (.const (.int .i64 0))))])
 (.seq (.seq (.reg [(rO 7 (.mv (.tmp 0))),
 (rO 8 (.eqs false .ptr (.tmp 7) (.const (.pointer none))))])
 (.cond (.tmp 8) (.seq (.reg [(rO 4 (.mv (.const (.int .i64 0)))),
 (rO 5 (.mv (.const (.int .i64 3))))])
 .ret)
 .skip))
 (.seq (.seq (.reg [(rO 9 (.mv (.tmp 1))),
 (rO 10 (.call 43 [(.tmp 9)])),
 (rO 6 (.mv (.tmp 10)))])
 (.seq (.reg [(rO 11 (.mv (.tmp 6))),
 (rO 12 (.bin .neq (.tmp 11) (.const (.int .i64 0))))])
 (.cond (.tmp 12) (.seq (.reg [(rO 13 (.mv (.tmp 6))),
 (rO 4 (.mv (.const (.int .i64 0)))),
 (rO 5 (.mv (.tmp 13)))])
 .ret)
 .skip)))
 (.seq (.seq (.reg [(rO 14 (.mv (.tmp 0))),
 (rO 15 (.call 13 [(.tmp 14)])),
 (rO 16 (.bin .geq (.tmp 15) (.const (.int .i64 1099511627776))))])
 (.cond (.tmp 16) (.seq (.reg [(rO 4 (.mv (.const (.int .i64 0)))),
 (rO 5 (.mv (.const (.int .i64 2))))])
 .ret)
 .skip))
 (.seq (.draw [⟨(rO 17 (.mv (.tmp 0))), .p⟩,
 ⟨(rO 18 (.mv (.tmp 0))), .p⟩,
 ⟨(rO 19 (.nilc (.tmp 18))), .p⟩,
 ⟨(rO 20 (.fa 0 (.tmp 19))), .p⟩,
 ⟨(rO 21 (.ld none (.tmp 20))), .l⟩,
 ⟨(rO 22 (.mv (.tmp 1))), .p⟩,
 ⟨(rO 23 (.call 44 [(.tmp 22)])), .g⟩,
 ⟨(rO 24 (.lit 36 1 1 [.slice none 0 0] [(0, 1, (.tmp 23))])), .f⟩,
 ⟨(rO 25 (.app 36 1 24 (.tmp 21) (.tmp 24))), .m⟩,
 ⟨(rO 26 (.nilc (.tmp 17))), .p⟩,
 ⟨(rO 27 (.fa 0 (.tmp 26))), .p⟩,
 ⟨⟨none, (.st 1 (.tmp 27) (.tmp 25)), none⟩, .m⟩])
 (.seq (.reg [(rO 28 (.mv (.tmp 0))),
 (rO 29 (.call 13 [(.tmp 28)])),
 (rO 4 (.mv (.tmp 29))),
 (rO 5 (.mv (.const (.int .i64 0))))])
 .ret))))))
def r10 : List RV := [.tmp 4, .tmp 5]
theorem ok10 : FnOk Try.prog 10 30 c10 r10 := ⟨[], _, _, Try.func10, rfl, rfl, by kernel_rfl, by kernel_rfl, by kernel_rfl⟩
/-- (*vouch/store.Store).Read -/
def c12 : C := (.seq (.reg [(rO 5 (.box 2 (.tmp 2))),
 (rO 6 (.new 39 [.string ⟨#[]⟩, .bool false, .string ⟨#[]⟩, .int .i64 (0), .int .i64 (0)])),
 (rO 7 (.mv (.const (.int .i64 0))))])
 (.seq (.block 0 (.seq (.reg [(rO 12 (.mv (.tmp 0))),
 (rO 13 (.eqs false .ptr (.tmp 12) (.const (.pointer none)))),
 (rO 11 (.mv (.tmp 13)))])
 (.cond (.tmp 11) (.seq (.reg [(rO 14 (.bld [.string ⟨#[]⟩, .bool false, .string ⟨#[]⟩, .int .i64 (0), .int .i64 (0)] [])),
 ⟨none, (.st 5 (.tmp 6) (.tmp 14)), none⟩,
 (rO 7 (.mv (.const (.int .i64 3))))])
 .ret)
 (.seq (.reg [(rO 16 (.mv (.tmp 1))),
 (rO 17 (.call 45 [(.tmp 16)])),
 (rO 18 (.nt (.tmp 17))),
 (rO 19 (.mv (.tmp 18))),
 ⟨(some 20), (.ld none (.tmp 5)), (some (19, false))⟩,
 ⟨(some 21), (.bin .lss (.tmp 20) (.const (.int .i64 0))), (some (19, false))⟩,
 (rO 22 (.pick (.tmp 19) (.const (.bool true)) (.tmp 21))),
 (rO 15 (.mv (.tmp 22)))])
 (.cond (.tmp 15) (.seq (.reg [(rO 23 (.bld [.string ⟨#[]⟩, .bool false, .string ⟨#[]⟩, .int .i64 (0), .int .i64 (0)] [])),
 ⟨none, (.st 5 (.tmp 6) (.tmp 23)), none⟩,
 (rO 7 (.mv (.const (.int .i64 1))))])
 .ret)
 (.seq (.drawx [⟨(rO 25 (.ld none (.tmp 5))), .l⟩,
 ⟨(rO 26 (.mv (.tmp 0))), .p⟩,
 ⟨(rO 27 (.nilc (.tmp 26))), .p⟩,
 ⟨(rO 28 (.fa 2 (.tmp 27))), .p⟩,
 ⟨(rO 29 (.ld none (.tmp 28))), .l⟩,
 ⟨(rO 30 (.bin .gtr (.tmp 25) (.tmp 29))), .p⟩,
 ⟨(rO 24 (.mv (.tmp 30))), .p⟩])
 (.cond (.tmp 24) (.seq (.reg [(rO 31 (.bld [.string ⟨#[]⟩, .bool false, .string ⟨#[]⟩, .int .i64 (0), .int .i64 (0)] [])),
 ⟨none, (.st 5 (.tmp 6) (.tmp 31)), none⟩,
 (rO 7 (.mv (.const (.int .i64 21))))])
 .ret)
 (.seq (.drawx [⟨(rO 33 (.ld none (.tmp 5))), .l⟩,
 ⟨(rO 34 (.mv (.tmp 0))), .p⟩,
 ⟨(rO 35 (.mv (.tmp 1))), .p⟩,
 ⟨(rO 36 (.call 46 [(.tmp 34), (.tmp 35)])), .g⟩,
 ⟨(rO 37 (.bin .lss (.tmp 33) (.tmp 36))), .p⟩,
 ⟨(rO 32 (.mv (.tmp 37))), .p⟩])
 (.cond (.tmp 32) (.seq (.reg [(rO 38 (.bld [.string ⟨#[]⟩, .bool false, .string ⟨#[]⟩, .int .i64 (0), .int .i64 (0)] [])),
 ⟨none, (.st 5 (.tmp 6) (.tmp 38)), none⟩,
 (rO 7 (.mv (.const (.int .i64 20))))])
 .ret)
 .skip)))))))))
 (.seq (.reg [(rO 39 (.mv (.tmp 0))),
 (rO 40 (.nilc (.tmp 39))),
 (rO 41 (.fa 0 (.tmp 40))),
 (rO 42 (.ld none (.tmp 41))),
 (rO 43 (.mv (.tmp 1))),
 (rO 44 (.look (.get false false) (.agg #[.slice none 0 0, .bool false]) (.tmp 42) (.tmp 43))),
 (rO 45 (.fld none 0 (.tmp 44))),
 (rO 8 (.new 104 [.slice none 0 0])),
 ⟨none, (.st 1 (.tmp 8) (.tmp 45)), none⟩])
 (.seq (.reg [(rO 46 (.ld none (.tmp 8))),
 (rO 47 (.len true (.tmp 46))),
 (rO 48 (.fnl (.clo 48) [(.tmp 8), (.tmp 5)])),
 (rO 49 (.call 47 [(.tmp 47), (.tmp 48)])),
 (rO 9 (.mv (.tmp 49)))])
 (.seq (.reg [(rO 50 (.mv (.tmp 1))),
 (rO 51 (.bld [.string ⟨#[]⟩, .bool false, .string ⟨#[]⟩, .int .i64 (0), .int .i64 (0)] [(0, 1, (.tmp 50)), (4, 1, (.const (.int .i64 4611686018427387904)))])),
 (rO 10 (.new 39 [.string ⟨#[]⟩, .bool false, .string ⟨#[]⟩, .int .i64 (0), .int .i64 (0)])),
 ⟨none, (.st 5 (.tmp 10) (.tmp 51)), none⟩])
 (.seq (.seq (.reg [(rO 52 (.mv (.tmp 9))),
 (rO 53 (.ld none (.tmp 8))),
 (rO 54 (.len true (.tmp 53))),
 (rO 55 (.bin .lss (.tmp 52) (.tmp 54)))])
 (.cond (.tmp 55) (.reg [(rO 56 (.ld none (.tmp 8))),
 (rO 57 (.mv (.tmp 9))),
 (rO 58 (.ia 3 (.tmp 56) (.tmp 57))),
 (rO 59 (.fa 0 (.tmp 58))),
 (rO 60 (.ld none (.tmp 59))),
 (rO 61 (.fa 4 (.tmp 10))),
 ⟨none, (.st 1 (.tmp 61) (.tmp 60)), none⟩])
 .skip))
 (.seq (.seq (.reg [(rO 62 (.mv (.tmp 9))),
 (rO 63 (.bin .gtr (.tmp 62) (.const (.int .i64 0))))])
 (.cond (.tmp 63) (.drawx [⟨(rO 64 (.ld none (.tmp 8))), .l⟩,
 ⟨(rO 65 (.mv (.tmp 9))), .p⟩,
 ⟨(rO 66 (.bin .sub (.tmp 65) (.const (.int .i64 1)))), .p⟩,
 ⟨(rO 67 (.ia 3 (.tmp 64) (.tmp 66))), .p⟩,
 ⟨(rO 68 (.fa 0 (.tmp 67))), .p⟩,
 ⟨(rO 69 (.ld none (.tmp 68))), .l⟩,
 ⟨(rO 70 (.ld none (.tmp 8))), .l⟩,
 ⟨(rO 71 (.mv (.tmp 9))), .p⟩,
 ⟨(rO 72 (.bin .sub (.tmp 71) (.const (.int .i64 1)))), .p⟩,
 ⟨(rO 73 (.ia 3 (.tmp 70) (.tmp 72))), .p⟩,
 ⟨(rO 74 (.fa 1 (.tmp 73))), .p⟩,
 ⟨(rO 75 (.ld (some 2) (.tmp 74))), .l⟩,
 ⟨(rO 76 (.fa 3 (.tmp 10))), .p⟩,
 ⟨⟨none, (.st 1 (.tmp 76) (.tmp 69)), none⟩, .w⟩,
 ⟨(rO 77 (.fa 1 (.tmp 10))), .p⟩,
 ⟨⟨none, (.st 2 (.tmp 77) (.tmp 75)), none⟩, .m⟩])
 .skip))
 (.seq (.reg [(rO 78 (.ld (some 5) (.tmp 10))),
 ⟨none, (.st 5 (.tmp 6) (.tmp 78)), none⟩,
 (rO 7 (.mv (.const (.int .i64 0))))])
 .ret))))))))
def r12 : List RV := [.agg 6 5, .tmp 7]
theorem ok12 : FnOk Try.prog 12 79 c12 r12 := ⟨[999999], _, _, Try.func12, rfl, rfl, by kernel_rfl, by kernel_rfl, by kernel_rfl⟩
/-- (*vouch/stream.Log).Last -/
def c13 : C := (.seq (.reg [(rO 2 (.mv (.const (.int .i64 0))))])
 (.seq (.seq (.reg [(rO 3 (.mv (.tmp 0))),
 (rO 4 (.eqs false .ptr (.tmp 3) (.const (.pointer none))))])
 (.cond (.tmp 4) (.seq (.reg [(rO 2 (.mv (.const (.int .i64 0))))])
 .ret)
 .skip))
 (.seq (.reg [(rO 5 (.mv (.tmp 0))),
 (rO 6 (.nilc (.tmp 5))),
 (rO 7 (.fa 0 (.tmp 6))),
 (rO 8 (.ld none (.tmp 7))),
 (rO 9 (.len true (.tmp 8))),
 (rO 2 (.mv (.tmp 9)))])
 .ret)))
def r13 : List RV := [.tmp 2]
theorem ok13 : FnOk Try.prog 13 10 c13 r13 := ⟨[], _, _, Try.func13, rfl, rfl, by kernel_rfl, by kernel_rfl, by kernel_rfl⟩
/-- vouch/store.check -/
def c41 : C := (.seq (.reg [(rO 2 (.mv (.const (.int .i64 0))))])
 (.seq (.seq (.reg [(rO 9 (.mv (.tmp 0))),
 (rO 10 (.len true (.tmp 9))),
 (rO 11 (.bin .eql (.tmp 10) (.const (.int .i64 0)))),
 (rO 12 (.mv (.tmp 11))),
 ⟨(some 13), (.mv (.tmp 0)), (some (12, false))⟩,
 ⟨(some 14), (.len true (.tmp 13)), (some (12, false))⟩,
 ⟨(some 15), (.bin .gtr (.tmp 14) (.const (.int .i64 8))), (some (12, false))⟩,
 (rO 16 (.pick (.tmp 12) (.const (.bool true)) (.tmp 15)))])
 (.cond (.tmp 16) (.seq (.reg [(rO 2 (.mv (.const (.int .i64 1))))])
 .ret)
 .skip))
 (.seq (.reg [(rO 17 (.mkmap false)),
 (rO 3 (.mv (.tmp 17)))])
 (.seq (.reg [(rO 4 (.mv (.const (.bool false))))])
 (.seq (.seq (.reg [(rO 18 (.mv (.tmp 0))),
 (rO 19 (.len true (.tmp 18))),
 (rO 20 (.mv (.const (.int .i64 0))))])
 (.block 0 (.loop (.seq (.reg [(rO 21 (.bin .lss (.tmp 20) (.tmp 19)))])
 (.seq (.cond (.tmp 21) .skip
 (.exit 0))
 (.seq (.block 1 (.seq (.reg [(rO 22 (.mv (.tmp 20))),
 (rO 23 (.ia 3 (.tmp 18) (.tmp 20))),
 (rO 24 (.ld (some 3) (.tmp 23))),
 (rO 6 (.new 33 [.string ⟨#[]⟩, .bool false, .string ⟨#[]⟩])),
 (rO 5 (.mv (.tmp 22))),
 ⟨none, (.st 3 (.tmp 6) (.tmp 24)), none⟩])
 (.seq (.seq (.reg [(rO 25 (.ld (some 3) (.tmp 6))),
 (rO 26 (.call 74 [(.tmp 25)])),
 (rO 27 (.nt (.tmp 26)))])
 (.cond (.tmp 27) (.seq (.reg [(rO 2 (.mv (.const (.int .i64 1))))])
 .ret)
 .skip))
 (.seq (.reg [(rO 29 (.mv (.tmp 3))),
 (rO 30 (.fa 0 (.tmp 6))),
 (rO 31 (.ld none (.tmp 30))),
 (rO 32 (.look (.get false true) (.int .i64 (0)) (.tmp 29) (.tmp 31))),
 (rO 28 (.mv (.tmp 32))),
 (rO 33 (.ext 0 (.tmp 28))),
 (rO 34 (.ext 1 (.tmp 28))),
 (rO 7 (.mv (.tmp 33))),
 (rO 8 (.mv (.tmp 34)))])
 (.seq (.reg [(rO 35 (.mv (.tmp 4))),
 (rO 36 (.mv (.tmp 35))),
 ⟨(some 37), (.mv (.tmp 8)), (some (36, false))⟩,
 (rO 38 (.pick (.tmp 36) (.const (.bool true)) (.tmp 37))),
 (rO 4 (.mv (.tmp 38)))])
 (.reg [(rO 39 (.mv (.tmp 3))),
 (rO 40 (.fa 0 (.tmp 6))),
 (rO 41 (.ld none (.tmp 40))),
 (rO 42 (.mv (.tmp 5))),
 ⟨none, (.mset (.put false) (.tmp 39) (.tmp 41) (.tmp 42)), none⟩]))))))
 (.reg [(rO 43 (.bin .add (.tmp 20) (.const (.int .i64 1)))),
 (rO 20 (.mv (.tmp 43)))])))))))
 (.seq (.seq (.reg [(rO 44 (.mv (.tmp 4)))])
 (.cond (.tmp 44) (.seq (.reg [(rO 2 (.mv (.const (.int .i64 22))))])
 .ret)
 .skip))
 (.seq (.reg [(rO 2 (.mv (.const (.int .i64 0))))])
 .ret)))))))
def r41 : List RV := [.tmp 2]
theorem ok41 : FnOk Try.prog 41 45 c41 r41 := ⟨[], _, _, Try.func41, rfl, rfl, by kernel_rfl, by kernel_rfl, by kernel_rfl⟩
/-- slices.Clone[[]vouch/api.Version,vouch/api.Version] -/
def c42 : C := (.seq (.reg [(rO 2 (.mv (.const (.slice none 0 0))))])
 (.seq (.seq (.reg [(rO 3 (.mv (.tmp 0))),
 (rO 4 (.eqs false .slice (.tmp 3) (.const (.slice none 0 0))))])
 (.cond (.tmp 4) (.seq (.reg [(rO 2 (.mv (.const (.slice none 0 0))))])
 .ret)
 .skip))
 (.seq (.reg [(rO 5 (.lit 109 0 3 [] [])),
 (rO 6 (.mv (.tmp 0))),
 (rO 7 (.app 109 3 32 (.tmp 5) (.tmp 6))),
 (rO 2 (.mv (.tmp 7)))])
 .ret)))
def r42 : List RV := [.tmp 2]
theorem ok42 : FnOk Try.prog 42 8 c42 r42 := ⟨[], _, _, Try.func42, rfl, rfl, by kernel_rfl, by kernel_rfl, by kernel_rfl⟩
/-- vouch/stream.check -/
def c43 : C := (.seq (.reg [(rO 2 (.mv (.const (.int .i64 0))))])
 (.seq (.seq (.reg [(rO 6 (.mv (.tmp 0))),
 (rO 7 (.len true (.tmp 6))),
 (rO 8 (.bin .eql (.tmp 7) (.const (.int .i64 0)))),
 (rO 9 (.mv (.tmp 8))),
 ⟨(some 10), (.mv (.tmp 0)), (some (9, false))⟩,
 ⟨(some 11), (.len true (.tmp 10)), (some (9, false))⟩,
 ⟨(some 12), (.bin .gtr (.tmp 11) (.const (.int .i64 8))), (some (9, false))⟩,
 (rO 13 (.pick (.tmp 9) (.const (.bool true)) (.tmp 12)))])
 (.cond (.tmp 13) (.seq (.reg [(rO 2 (.mv (.const (.int .i64 1))))])
 .ret)
 .skip))
 (.seq (.seq (.reg [(rO 14 (.mv (.tmp 0))),
 (rO 15 (.len true (.tmp 14))),
 (rO 16 (.mv (.const (.int .i64 0))))])
 (.block 0 (.loop (.seq (.reg [(rO 17 (.bin .lss (.tmp 16) (.tmp 15)))])
 (.seq (.cond (.tmp 17) .skip
 (.exit 0))
 (.seq (.block 1 (.seq (.reg [(rO 18 (.ia 1 (.tmp 14) (.tmp 16))),
 (rO 19 (.ld none (.tmp 18))),
 (rO 4 (.mv (.tmp 19)))])
 (.seq (.reg [(rO 20 (.mv (.tmp 4))),
 (rO 21 (.bin .eql (.tmp 20) (.const (.string { data := #[] })))),
 (rO 22 (.mv (.tmp 21))),
 ⟨(some 23), (.mv (.tmp 4)), (some (22, false))⟩,
 ⟨(some 24), (.len false (.tmp 23)), (some (22, false))⟩,
 ⟨(some 25), (.bin .gtr (.tmp 24) (.const (.int .i64 32))), (some (22, false))⟩,
 (rO 26 (.pick (.tmp 22) (.const (.bool true)) (.tmp 25)))])
 (.cond (.tmp 26) (.seq (.reg [(rO 2 (.mv (.const (.int .i64 1))))])
 .ret)
 .skip))))
 (.reg [(rO 27 (.bin .add (.tmp 16) (.const (.int .i64 1)))),
 (rO 16 (.mv (.tmp 27)))])))))))
 (.seq (.reg [(rO 28 (.mv (.tmp 0))),
 (rO 29 (.call 75 [(.tmp 28)])),
 (rO 30 (.call 69 [(.tmp 29)])),
 (rO 5 (.mv (.tmp 30)))])
 (.seq (.seq (.reg [(rO 31 (.mv (.tmp 5))),
 (rO 32 (.call 76 [(.tmp 31)])),
 (rO 33 (.len true (.tmp 32))),
 (rO 34 (.mv (.tmp 0))),
 (rO 35 (.len true (.tmp 34))),
 (rO 36 (.bin .lss (.tmp 33) (.tmp 35)))])
 (.cond (.tmp 36) (.seq (.reg [(rO 2 (.mv (.const (.int .i64 22))))])
 .ret)
 .skip))
 (.seq (.reg [(rO 2 (.mv (.const (.int .i64 0))))])
 .ret))))))
def r43 : List RV := [.tmp 2]
theorem ok43 : FnOk Try.prog 43 37 c43 r43 := ⟨[], _, _, Try.func43, rfl, rfl, by kernel_rfl, by kernel_rfl, by kernel_rfl⟩
/-- slices.Clone[[]string,string] -/
def c44 : C := (.seq (.reg [(rO 2 (.mv (.const (.slice none 0 0))))])
 (.seq (.seq (.reg [(rO 3 (.mv (.tmp 0))),
 (rO 4 (.eqs false .slice (.tmp 3) (.const (.slice none 0 0))))])
 (.cond (.tmp 4) (.seq (.reg [(rO 2 (.mv (.const (.slice none 0 0))))])
 .ret)
 .skip))
 (.seq (.reg [(rO 5 (.lit 9 0 1 [] [])),
 (rO 6 (.mv (.tmp 0))),
 (rO 7 (.app 9 1 16 (.tmp 5) (.tmp 6))),
 (rO 2 (.mv (.tmp 7)))])
 .ret)))
def r44 : List RV := [.tmp 2]
theorem ok44 : FnOk Try.prog 44 8 c44 r44 := ⟨[], _, _, Try.func44, rfl, rfl, by kernel_rfl, by kernel_rfl, by kernel_rfl⟩
/-- vouch/store.goodKey -/
def c45 : C := (.seq (.reg [(rO 2 (.mv (.const (.bool false))))])
 (.seq (.reg [(rO 3 (.mv (.tmp 0))),
 (rO 4 (.len false (.tmp 3))),
 (rO 5 (.bin .geq (.tmp 4) (.const (.int .i64 1)))),
 (rO 6 (.mv (.tmp 5))),
 ⟨(some 7), (.mv (.tmp 0)), (some (6, true))⟩,
 ⟨(some 8), (.len false (.tmp 7)), (some (6, true))⟩,
 ⟨(some 9), (.bin .leq (.tmp 8) (.const (.int .i64 32))), (some (6, true))⟩,
 (rO 10 (.pick (.tmp 6) (.tmp 9) (.const (.bool false)))),
 (rO 2 (.mv (.tmp 10)))])
 .ret))
def r45 : List RV := [.tmp 2]
theorem ok45 : FnOk Try.prog 45 11 c45 r45 := ⟨[], _, _, Try.func45, rfl, rfl, by kernel_rfl, by kernel_rfl, by kernel_rfl⟩
/-- (*vouch/store.Store).Oldest -/
def c46 : C := (.seq (.reg [(rO 4 (.mv (.const (.int .i64 0))))])
 (.seq (.seq (.reg [(rO 5 (.mv (.tmp 0))),
 (rO 6 (.eqs false .ptr (.tmp 5) (.const (.pointer none)))),
 (rO 7 (.mv (.tmp 6))),
 ⟨(some 8), (.mv (.tmp 0)), (some (7, false))⟩,
 ⟨(some 9), (.nilc (.tmp 8)), (some (7, false))⟩,
 ⟨(some 10), (.fa 0 (.tmp 9)), (some (7, false))⟩,
 ⟨(some 11), (.ld none (.tmp 10)), (some (7, false))⟩,
 ⟨(some 12), (.mv (.tmp 1)), (some (7, false))⟩,
 ⟨(some 13), (.look (.get false false) (.agg #[.slice none 0 0, .bool false]) (.tmp 11) (.tmp 12)), (some (7, false))⟩,
 ⟨(some 14), (.fld none 1 (.tmp 13)), (some (7, false))⟩,
 ⟨(some 15), (.nt (.tmp 14)), (some (7, false))⟩,
 (rO 16 (.pick (.tmp 7) (.const (.bool true)) (.tmp 15)))])
 (.cond (.tmp 16) (.seq (.reg [(rO 4 (.mv (.const (.int .i64 0))))])
 .ret)
 .skip))
 (.seq (.reg [(rO 17 (.mv (.tmp 0))),
 (rO 18 (.nilc (.tmp 17))),
 (rO 19 (.fa 0 (.tmp 18))),
 (rO 20 (.ld none (.tmp 19))),
 (rO 21 (.mv (.tmp 1))),
 (rO 22 (.look (.get false false) (.agg #[.slice none 0 0, .bool false]) (.tmp 20) (.tmp 21))),
 (rO 23 (.fld none 0 (.tmp 22))),
 (rO 24 (.ia 3 (.tmp 23) (.const (.int .i64 0)))),
 (rO 25 (.fa 0 (.tmp 24))),
 (rO 26 (.ld none (.tmp 25))),
 (rO 4 (.mv (.tmp 26)))])
 .ret)))
def r46 : List RV := [.tmp 4]
theorem ok46 : FnOk Try.prog 46 27 c46 r46 := ⟨[], _, _, Try.func46, rfl, rfl, by kernel_rfl, by kernel_rfl, by kernel_rfl⟩
/-- sort.Search -/
def c47 : C := (.seq (.reg [(rO 4 (.mv (.const (.int .i64 0))))])
 (.seq (.reg [(rO 8 (.mv (.tmp 0))),
 (rO 5 (.mv (.const (.int .i64 0)))),
 (rO 6 (.mv (.tmp 8)))])
 (.seq (.block 0 (.loop (.seq (.seq (.reg [(rO 9 (.mv (.tmp 5))),
 (rO 10 (.mv (.tmp 6))),
 (rO 11 (.bin .lss (.tmp 9) (.tmp 10)))])
 (.cond (.tmp 11) .skip
 (.exit 0)))
 (.block 1 (.seq (.reg [(rO 12 (.mv (.tmp 5))),
 (rO 13 (.mv (.tmp 6))),
 (rO 14 (.bin .add (.tmp 12) (.tmp 13))),
 (rO 15 (.conv .u64 (.tmp 14))),
 (rO 16 (.bin .shr (.tmp 15) (.const (.int .u64 1)))),
 (rO 17 (.conv .i64 (.tmp 16))),
 (rO 7 (.mv (.tmp 17)))])
 (.seq (.reg [(rO 18 (.mv (.tmp 1))),
 (rO 19 (.mv (.tmp 7))),
 (rO 20 (.callv (.tmp 18) [(.tmp 19)])),
 (rO 21 (.nt (.tmp 20)))])
 (.cond (.tmp 21) (.reg [(rO 22 (.mv (.tmp 7))),
 (rO 23 (.bin .add (.tmp 22) (.const (.int .i64 1)))),
 (rO 5 (.mv (.tmp 23)))])
 (.reg [(rO 24 (.mv (.tmp 7))),
 (rO 6 (.mv (.tmp 24)))]))))))))
 (.seq (.reg [(rO 25 (.mv (.tmp 5))),
 (rO 4 (.mv (.tmp 25)))])
 .ret))))
def r47 : List RV := [.tmp 4]
theorem ok47 : FnOk Try.prog 47 26 c47 r47 := ⟨[], _, _, Try.func47, rfl, rfl, by kernel_rfl, by kernel_rfl, by kernel_rfl⟩
/-- (*vouch/store.Store).Read$1 -/
def c48 : C := (.seq (.reg [(rO 4 (.mv (.const (.bool false))))])
 (.seq (.draw [⟨(rO 5 (.ld none (.tmp 1))), .l⟩,
 ⟨(rO 6 (.mv (.tmp 0))), .p⟩,
 ⟨(rO 7 (.ia 3 (.tmp 5) (.tmp 6))), .p⟩,
 ⟨(rO 8 (.fa 0 (.tmp 7))), .p⟩,
 ⟨(rO 9 (.ld none (.tmp 8))), .l⟩,
 ⟨(rO 10 (.ld none (.tmp 2))), .l⟩,
 ⟨(rO 11 (.bin .gtr (.tmp 9) (.tmp 10))), .p⟩,
 ⟨(rO 4 (.mv (.tmp 11))), .p⟩])
 .ret))
def r48 : List RV := [.tmp 4]
theorem ok48 : FnOk Try.prog 48 12 c48 r48 := ⟨[], _, _, Try.func48, rfl, rfl, by kernel_rfl, by kernel_rfl, by kernel_rfl⟩
/-- vouch/store.goodWrite -/
def c74 : C := (.seq (.reg [(rO 1 (.box 33 (.tmp 0))),
 (rO 2 (.mv (.const (.bool false))))])
 (.seq (.reg [(rO 3 (.fa 0 (.tmp 1))),
 (rO 4 (.ld none (.tmp 3))),
 (rO 5 (.call 45 [(.tmp 4)])),
 (rO 6 (.mv (.tmp 5))),
 ⟨(some 7), (.fa 1 (.tmp 1)), (some (6, true))⟩,
 ⟨(some 8), (.fa 1 (.tmp 7)), (some (6, true))⟩,
 ⟨(some 9), (.ld none (.tmp 8)), (some (6, true))⟩,
 ⟨(some 10), (.len false (.tmp 9)), (some (6, true))⟩,
 ⟨(some 11), (.bin .leq (.tmp 10) (.const (.int .i64 256))), (some (6, true))⟩,
 (rO 12 (.pick (.tmp 6) (.tmp 11) (.const (.bool false)))),
 (rO 13 (.mv (.tmp 12))),
 ⟨(some 14), (.fa 1 (.tmp 1)), (some (13, true))⟩,
 ⟨(some 15), (.fa 0 (.tmp 14)), (some (13, true))⟩,
 ⟨(some 16), (.ld none (.tmp 15)), (some (13, true))⟩,
 ⟨(some 17), (.mv (.tmp 16)), (some (13, true))⟩,
 ⟨(some 18), (.fa 1 (.tmp 1)), (some (17, false))⟩,
 ⟨(some 19), (.fa 1 (.tmp 18)), (some (17, false))⟩,
 ⟨(some 20), (.ld none (.tmp 19)), (some (17, false))⟩,
 ⟨(some 21), (.bin .eql (.tmp 20) (.const (.string { data := #[] }))), (some (17, false))⟩,
 ⟨(some 22), (.pick (.tmp 17) (.const (.bool true)) (.tmp 21)), (some (13, true))⟩,
 (rO 23 (.pick (.tmp 13) (.tmp 22) (.const (.bool false)))),
 (rO 2 (.mv (.tmp 23)))])
 .ret))
def r74 : List RV := [.tmp 2]
theorem ok74 : FnOk Try.prog 74 24 c74 r74 := ⟨[], _, _, Try.func74, rfl, rfl, by kernel_rfl, by kernel_rfl, by kernel_rfl⟩
/-- slices.Values[[]string,string] -/
def c75 : C := (.seq (.reg [(rO 1 (.box 36 (.tmp 0))),
 (rO 2 (.mv (.const .nilFunc)))])
 (.seq (.reg [(rO 3 (.fnl (.clo 98) [(.tmp 1)])),
 (rO 2 (.mv (.tmp 3)))])
 .ret))
def r75 : List RV := [.tmp 2]
theorem ok75 : FnOk Try.prog 75 4 c75 r75 := ⟨[], _, _, Try.func75, rfl, rfl, by kernel_rfl, by kernel_rfl, by kernel_rfl⟩
theorem wi64 {x : Int} (h : -9223372036854775808 ≤ x ∧ x ≤ 9223372036854775807) : IntKind.i64.wrap x = x := IntWalk.i64_in x (by omega)
/-- A write. -/
structure Wr where
  key : ByteArray
  has : Bool
  data : ByteArray
def Wr.cells (w : Wr) : List Value := [.string w.key, .bool w.has, .string w.data]
theorem Wr.cells_len (w : Wr) : w.cells.length = 3 := rfl
def goodK (k : ByteArray) : Bool := decide (1 ≤ k.size) && decide (k.size ≤ 32)
def goodW (w : Wr) : Bool := goodK w.key && decide (w.data.size ≤ 256) && (w.has || decide (w.data = ⟨#[]⟩))
theorem goodKey45 (k : ByteArray) (σ : Hp) : ACalls Try.prog 45 #[.string k] σ fun u σ' => u = .bool (goodK k) ∧ σ' = σ := by
  (refine acalls_F ok45 (by simp) ?_; unfold c45 r45)
  (repeat' (first | (simp +contextual -dsimp only [*, ↓reduceIte, ↓evP, evQ, splice, Nat.reduceAdd, Nat.reduceEqDiff, Nat.reduceLeDiff, Nat.reduceMul, reduceCtorEq, Int.reduceLT, Int.reduceLE, Int.reduceGT, Int.reduceGE, Int.reduceEq, Int.reduceNeg]) | (refine condF_split (fun hc => ?_) (fun hc => ?_) <;> (try simp only [Bool.not_eq_true', Bool.not_eq_false', Bool.and_eq_true, Bool.or_eq_false_iff] at hc)) | (intro _; intros) | (refine And.intro ?_ ?_; focus (first | omega | ((repeat (first | exact Sub.refl _ | (refine Sub.drop ?_ ?_; focus (simp only [evN, *]; done)) | refine Sub.both ?_)); done) | (simp_all; done) | (simp_all; omega)))))
  all_goals (refine endF_det ?_ ?_; (focus ((try simp only [goodK, cond_true, cond_false, *]) <;> ((try simp only [decide_eq_true_eq, decide_eq_false_iff_not] at *) <;> first | rfl | (simp [goodK]; done) | (simp_all [goodK]; done) | (simp [goodK]; omega) | (simp [goodK]; (rw [Bool.eq_iff_iff]); simp; omega) | (simp_all [goodK] <;> omega) | ((try unfold goodK); (rw [Value.bool.injEq, Bool.eq_iff_iff]); simp <;> omega) | ((try unfold goodK); (repeat' split) <;> simp_all <;> omega) | (simp_all [goodK] <;> (repeat' split) <;> simp_all <;> omega)))); (focus ((try simp only [goodK, cond_true, cond_false, set_same, *]); exact (by (repeat (first | exact Sub.refl _ | (refine Sub.drop ?_ ?_; focus (simp only [evN, *]; done)) | refine Sub.both ?_)); done))))
theorem goodWrite74 (w : Wr) (σ : Hp) : ACalls Try.prog 74 #[.agg w.cells.toArray] σ fun u σ' => u = .bool (goodW w) ∧ σ' = σ := by
  obtain ⟨k, h, d⟩ := w
  cases h <;> cases hk : goodK k
  all_goals ((refine acalls_F ok74 (by simp) ?_; unfold c74 r74; simp +contextual -dsimp only [↓reduceIte, ↓evP, evQ, splice, Nat.reduceAdd, Nat.reduceEqDiff, Nat.reduceLeDiff, Nat.reduceMul, reduceCtorEq, Int.reduceLT, Int.reduceLE, Int.reduceGT, Int.reduceGE, Int.reduceEq, Int.reduceNeg]))
  all_goals (unfold Wr.cells; simp +contextual -dsimp only [*, ↓reduceIte, ↓evP, evQ, splice, Nat.reduceAdd, Nat.reduceEqDiff, Nat.reduceLeDiff, Nat.reduceMul, reduceCtorEq, Int.reduceLT, Int.reduceLE, Int.reduceGT, Int.reduceGE, Int.reduceEq, Int.reduceNeg])
  all_goals (repeat' (first | (simp +contextual -dsimp only [*, ↓reduceIte, ↓evP, evQ, splice, Nat.reduceAdd, Nat.reduceEqDiff, Nat.reduceLeDiff, Nat.reduceMul, reduceCtorEq, Int.reduceLT, Int.reduceLE, Int.reduceGT, Int.reduceGE, Int.reduceEq, Int.reduceNeg]) | (refine condF_split (fun hc => ?_) (fun hc => ?_) <;> (try simp only [Bool.not_eq_true', Bool.not_eq_false', Bool.and_eq_true, Bool.or_eq_false_iff] at hc)) | refine callF_v (goodKey45 _ _) ?_ | refine ccallF_of (goodKey45 _ _) ?_ | refine gcallF_of (goodKey45 _ _) ?_ | (intro _; intros) | (refine And.intro ?_ ?_; focus (first | omega | ((repeat (first | exact Sub.refl _ | (refine Sub.drop ?_ ?_; focus (simp only [evN, *]; done)) | refine Sub.both ?_)); done) | (simp_all; done) | (simp_all; omega)))))
  all_goals (refine endF_det ?_ ?_; (focus ((try simp only [goodW, cond_true, cond_false, *]) <;> ((try simp only [decide_eq_true_eq, decide_eq_false_iff_not] at *) <;> first | rfl | (simp [goodW]; done) | (simp_all [goodW]; done) | (simp [goodW]; omega) | (simp [goodW]; (rw [Bool.eq_iff_iff]); simp; omega) | (simp_all [goodW] <;> omega) | ((try unfold goodW); (rw [Value.bool.injEq, Bool.eq_iff_iff]); simp <;> omega) | ((try unfold goodW); (repeat' split) <;> simp_all <;> omega) | (simp_all [goodW] <;> (repeat' split) <;> simp_all <;> omega)))); (focus ((try simp only [goodW, cond_true, cond_false, set_same, *]); exact (by (repeat (first | exact Sub.refl _ | (refine Sub.drop ?_ ?_; focus (simp only [evN, *]; done)) | refine Sub.both ?_)); done))))
/-- The first place of a key in a list of keys. -/
def sC (k : ByteArray) : List Value := [.string k]
theorem sC_len (k : ByteArray) : (sC k).length = 1 := rfl
def pos (l : List ByteArray) (k : ByteArray) : Int := match l.findIdx? (fun x => decide (k = x)) with | some i => i | none => -1
theorem last13 {σ : Hp} {g n c : Nat} {a : Option Addr} (hg : rd σ g 0 = some (.slice a n c)) : ACalls Try.prog 13 #[.pointer (some ⟨g, 0, none⟩)] σ fun u σ' => u = .int .i64 n ∧ σ' = σ := by
  (refine acalls_F ok13 (by simp) ?_; unfold c13 r13)
  (repeat' (first | (simp +contextual -dsimp only [*, ↓reduceIte, ↓evP, evQ, splice, Nat.reduceAdd, Nat.reduceEqDiff, Nat.reduceLeDiff, Nat.reduceMul, reduceCtorEq, Int.reduceLT, Int.reduceLE, Int.reduceGT, Int.reduceGE, Int.reduceEq, Int.reduceNeg]) | (refine condF_split (fun hc => ?_) (fun hc => ?_) <;> (try simp only [Bool.not_eq_true', Bool.not_eq_false', Bool.and_eq_true, Bool.or_eq_false_iff] at hc)) | (intro _; intros) | (refine And.intro ?_ ?_; focus (first | omega | ((repeat (first | exact Sub.refl _ | (refine Sub.drop ?_ ?_; focus (simp only [evN, *]; done)) | refine Sub.both ?_)); done) | (simp_all; done) | (simp_all; omega)))))
  all_goals (refine endF_det ?_ ?_; (focus ((try simp only [cond_true, cond_false, *]) <;> ((try simp only [decide_eq_true_eq, decide_eq_false_iff_not] at *) <;> first | rfl | (simp []; done) | (simp_all []; done) | (simp []; omega) | (simp []; (rw [Bool.eq_iff_iff]); simp; omega) | (simp_all [] <;> omega) | ((try unfold id); (rw [Value.bool.injEq, Bool.eq_iff_iff]); simp <;> omega) | ((try unfold id); (repeat' split) <;> simp_all <;> omega) | (simp_all [] <;> (repeat' split) <;> simp_all <;> omega)))); (focus ((try simp only [cond_true, cond_false, set_same, *]); exact (by (repeat (first | exact Sub.refl _ | (refine Sub.drop ?_ ?_; focus (simp only [evN, *]; done)) | refine Sub.both ?_)); done))))
structure Ver where
  n : Nat
  has : Bool
  data : ByteArray
def Ver.cells (v : Ver) : List Value := [.int .i64 v.n, .bool v.has, .string v.data]
theorem Ver.cells_len (v : Ver) : v.cells.length = 3 := rfl
/-- A key's versions that are kept, and whether some were dropped. -/
structure Row where
  list : List Ver
  dropped : Bool
def cut (m : Nat) (l : List Ver) : Row := if m < l.length then ⟨l.drop (l.length - m), true⟩ else ⟨l, false⟩
def Row.push (m : Nat) (v : Ver) (r : Row) : Row := if m < r.list.length + 1 then ⟨(r.list ++ [v]).drop (r.list.length + 1 - m), true⟩ else ⟨r.list ++ [v], r.dropped⟩
theorem push_cut {m : Nat} (v : Ver) (l : List Ver) : (cut m l).push m v = cut m (l ++ [v]) := by
  by_cases h : m < l.length
  · have e1 : cut m l = ⟨l.drop (l.length - m), true⟩ := if_pos h
    have e2 : cut m (l ++ [v]) = ⟨(l ++ [v]).drop ((l ++ [v]).length - m), true⟩ := if_pos (by simp; omega)
    rw [e1, e2]
    unfold Row.push
    simp only [List.length_drop]
    rw [if_pos (by omega)]
    have e : l.drop (l.length - m) ++ [v] = (l ++ [v]).drop (l.length - m) := by rw [List.drop_append_of_le_length (by omega)]
    rw [e, List.drop_drop]
    congr 2
    simp; omega
  · have e1 : cut m l = ⟨l, false⟩ := if_neg h
    rw [e1]
    unfold Row.push cut
    simp only [List.length_append, List.length_cons, List.length_nil, Nat.zero_add]
theorem cut_len (m : Nat) (l : List Ver) : (cut m l).list.length ≤ m := by
  unfold cut
  by_cases h : m < l.length
  · rw [if_pos h]; simp; omega
  · rw [if_neg h]; simp; omega
def Wr.ver (w : Wr) (n : Nat) : Ver := ⟨n, w.has, w.data⟩
def wrote (k : ByteArray) (ws : List Wr) : Option Wr := ws.find? (fun w => decide (w.key = k))
def wroteV (k : ByteArray) (ws : List Wr) (n : Nat) : List Ver := match wrote k ws with | some w => [w.ver n] | none => []
def versF : Nat → List (List Wr) → ByteArray → List Ver
  | _, [], _ => []
  | n, ws :: r, k => wroteV k ws n ++ versF (n + 1) r k
theorem versF_append (k : ByteArray) (ws : List Wr) : ∀ (H : List (List Wr)) (n : Nat), versF n (H ++ [ws]) k = versF n H k ++ wroteV k ws (n + H.length)
  | [], n => by simp [versF]
  | x :: r, n => by
    show wroteV k x n ++ versF (n + 1) (r ++ [ws]) k = (wroteV k x n ++ versF (n + 1) r k) ++ _
    rw [versF_append k ws r (n + 1), List.append_assoc, show n + 1 + r.length = n + (x :: r).length by simp; omega]
theorem mem_wroteV {k : ByteArray} {ws : List Wr} {n : Nat} {v : Ver} : v ∈ wroteV k ws n ↔ ∃ w, wrote k ws = some w ∧ v = w.ver n := by
  unfold wroteV
  cases h : wrote k ws with
  | none => simp
  | some w => simp
theorem mem_versF {k : ByteArray} {v : Ver} : ∀ {H : List (List Wr)} {n : Nat}, v ∈ versF n H k ↔ ∃ (i : Nat) (ws : List Wr) (w : Wr), H[i]? = some ws ∧ wrote k ws = some w ∧ v = w.ver (n + i)
  | [], n => by simp [versF]
  | x :: r, n => by
    show v ∈ wroteV k x n ++ versF (n + 1) r k ↔ _
    rw [List.mem_append, mem_wroteV, mem_versF]
    constructor
    · rintro (⟨w, h, e⟩ | ⟨i, ws, w, h1, h2, e⟩)
      · exact ⟨0, x, w, rfl, h, e⟩
      · exact ⟨i + 1, ws, w, by simpa using h1, h2, by rw [e]; congr 1; omega⟩
    · rintro ⟨i, ws, w, h1, h2, e⟩
      cases i with
      | zero => simp at h1; subst h1; exact .inl ⟨w, h2, e⟩
      | succ i => exact .inr ⟨i, ws, w, by simpa using h1, h2, by rw [e]; congr 1; omega⟩
theorem versF_ge {k : ByteArray} {v : Ver} {H : List (List Wr)} {n : Nat} (h : v ∈ versF n H k) : n ≤ v.n ∧ v.n < n + H.length := by
  obtain ⟨i, ws, w, h1, _, rfl⟩ := mem_versF.1 h
  have := (List.getElem?_eq_some_iff.1 h1).1
  exact ⟨by show n ≤ n + i; omega, by show n + i < _; omega⟩
theorem versF_sorted (k : ByteArray) : ∀ (H : List (List Wr)) (n : Nat), (versF n H k).Pairwise (fun a b => a.n < b.n)
  | [], n => List.Pairwise.nil
  | x :: r, n => by
    show (wroteV k x n ++ versF (n + 1) r k).Pairwise _
    rw [List.pairwise_append]
    refine ⟨?_, versF_sorted k r (n + 1), fun a ha b hb => ?_⟩
    · unfold wroteV
      cases wrote k x with
      | none => exact List.Pairwise.nil
      | some w => exact List.pairwise_singleton _ _
    · obtain ⟨w, _, rfl⟩ := mem_wroteV.1 ha
      have := versF_ge hb
      show n < b.n; omega
def vers (H : List (List Wr)) (k : ByteArray) : List Ver := versF 1 H k
def keysOf (ws : List Wr) : List ByteArray := ws.map Wr.key
/-- A store: how many versions it keeps, its last commit, each key's row. -/
structure St where
  most : Nat
  last : Nat
  row : ByteArray → Row
def stepW (m n : Nat) (R : ByteArray → Row) (w : Wr) : ByteArray → Row := fun k => if k = w.key then (R k).push m (w.ver n) else R k
def St.commit (S : St) (ws : List Wr) : St := ⟨S.most, S.last + 1, ws.foldl (stepW S.most (S.last + 1)) S.row⟩
def St.new (m : Nat) : St := ⟨m, 0, fun _ => ⟨[], false⟩⟩
def St.run (m : Nat) (H : List (List Wr)) : St := ⟨m, H.length, fun k => cut m (vers H k)⟩
theorem fold_step (m n : Nat) (k : ByteArray) : ∀ (ws : List Wr) (R : ByteArray → Row), (keysOf ws).Nodup → (ws.foldl (stepW m n) R) k = match wrote k ws with | some w => (R k).push m (w.ver n) | none => R k
  | [], R, _ => rfl
  | w :: r, R, h => by
    have hn : w.key ∉ keysOf r ∧ (keysOf r).Nodup := List.nodup_cons.1 h
    rw [List.foldl_cons, fold_step m n k r _ hn.2]
    by_cases e : w.key = k
    · have h1 : wrote k (w :: r) = some w := by unfold wrote; rw [List.find?_cons_of_pos (by simp [e])]
      have h2 : wrote k r = none := by
        unfold wrote; rw [List.find?_eq_none]
        intro x hx; simp only [decide_eq_true_eq]; intro e'
        exact hn.1 (by rw [e, ← e']; exact List.mem_map_of_mem hx)
      rw [h1, h2]
      show stepW m n R w k = _
      unfold stepW; rw [if_pos e.symm]
    · have h1 : wrote k (w :: r) = wrote k r := by unfold wrote; rw [List.find?_cons_of_neg (by simp [e])]
      have h2 : stepW m n R w k = R k := by unfold stepW; rw [if_neg (fun x => e x.symm)]
      rw [h1, h2]
theorem run_commit (m : Nat) (H : List (List Wr)) (ws : List Wr) (h : (keysOf ws).Nodup) : (St.run m H).commit ws = St.run m (H ++ [ws]) := by
  unfold St.commit St.run
  simp only [List.length_append, List.length_cons, List.length_nil, Nat.zero_add]
  congr 1
  funext k
  rw [fold_step _ _ _ _ _ h]
  unfold vers
  rw [versF_append]
  unfold wroteV
  cases hw : wrote k ws with
  | none => simp
  | some w => simp only; rw [push_cut, Nat.add_comm 1]
open Go.RowKit (Below)
open Go.Sort (Holds putRow)
open Go.Proofs (encStr)
/-- A contract that hands back a new row and leaves all that was there as it was. -/
theorem _root_.Go.Sp.acalls_own {P : Program} {f : FuncId} {args : Array Value} {σ : Hp} {E sz n : Nat} {xs : List Value} (h : ∀ w, Sat σ w → Calls P f args w fun e w' => ∃ v, e = .returned v ∧ w'.ownsRow w.heap.size E sz v n xs ∧ Below w.heap.size w w') :
    ACalls P f args σ fun v σ' => (n = 0 ∧ v = .slice none 0 0 ∧ σ' = σ) ∨ ∃ b c, σ b = none ∧ n ≤ c ∧ v = .slice (some ⟨b, 0, none⟩) n c ∧ σ' = upd σ b (.row xs (c * sz) E) := fun w hs => (h w hs).mono fun e w' ⟨v, he, ho, hb⟩ => by
  have hbase : Sat σ w' := fun b o hbo => by rw [hb.block b (hs.lt (by rw [hbo]; simp))]; exact hs b o hbo
  rcases ho.2 with ⟨rfl, hn⟩ | ⟨g, cap, cur, rfl, hg, hcell, h1, h2, h3, h4⟩
  · exact ⟨_, σ, he, hbase, ⟨hb.os, hb.tape, hb.output, hb.size, fun k hk _ => hb.block k hk, fun _ _ hn => hn⟩, .inl ⟨hn, rfl, rfl⟩⟩
  · have hn : σ g = none := hs.none_of_le hg
    refine ⟨_, upd σ g (.row xs (cap * sz) E), he, fun b o hbo => ?_, ⟨hb.os, hb.tape, hb.output, hb.size, fun k hk _ => hb.block k hk, fun k hk hkn => by rw [upd_ne _ _ (by omega)]; exact hkn⟩, .inr ⟨g, cap, hn, h1, rfl, rfl⟩⟩
    by_cases e : b = g
    · subst e
      rw [upd_same] at hbo; cases hbo
      refine ⟨cur.toList.drop (n * sz), ?_, ?_⟩
      · rw [← h4, List.length_take, List.length_drop, Array.length_toList, h3]
        have := Nat.mul_le_mul_right sz h1
        omega
      · rw [hcell, ← h4, List.take_append_drop]
    · rw [upd_ne _ _ e] at hbo; exact hbase b o hbo
def bytesOf (k : ByteArray) : List UInt8 := k.data.toList
theorem enc_bytes (k : ByteArray) : encStr (bytesOf k) = .string k := by
  unfold encStr bytesOf; cases k; simp
def sortedK (ks : List ByteArray) : List (List UInt8) := (ks.map bytesOf).mergeSort (fun x y => decide (x ≤ y))
theorem sortedK_len (ks : List ByteArray) : (sortedK ks).length = ks.length := by unfold sortedK; rw [List.length_mergeSort, List.length_map]
theorem values75 (v : Value) (hv : Go.Sp.one v = true) (σ : Hp) : ACalls Try.prog 75 #[v] σ fun u σ' => ∃ b, σ b = none ∧ u = .func (.func 98) #[] #[.pointer (some ⟨b, 0, none⟩)] ∧ σ' = upd σ b (.cells (cl v) 36) := by
  (refine acalls_F ok75 (by simp) ?_; unfold c75 r75)
  (repeat' (first | (simp +contextual -dsimp only [*, ↓reduceIte, ↓evP, evQ, splice, Nat.reduceAdd, Nat.reduceEqDiff, Nat.reduceLeDiff, Nat.reduceMul, reduceCtorEq, Int.reduceLT, Int.reduceLE, Int.reduceGT, Int.reduceGE, Int.reduceEq, Int.reduceNeg]) | (refine condF_split (fun hc => ?_) (fun hc => ?_) <;> (try simp only [Bool.not_eq_true', Bool.not_eq_false', Bool.and_eq_true, Bool.or_eq_false_iff] at hc)) | (intro _; intros) | (refine And.intro ?_ ?_; focus (first | omega | ((repeat (first | exact Sub.refl _ | (refine Sub.drop ?_ ?_; focus (simp only [evN, *]; done)) | refine Sub.both ?_)); done) | (simp_all; done) | (simp_all; omega)))))
  rename_i b hb
  exact endF_at ⟨b, hb, rfl, rfl⟩
theorem sorted69a {σ : Hp} {Bs : Nat} {A : Option Addr} {c : Nat} {ks : List ByteArray} (hB : σ Bs = some (.cells [.slice A ks.length c] 36)) (hv : RoRows 1 sC σ (.slice A ks.length c) ks) (h0 : ks ≠ []) (hn : ks.length ≤ 1048576) :
    ACalls Try.prog 69 #[.func (.func 98) #[] #[.pointer (some ⟨Bs, 0, none⟩)]] σ fun u σ' => ∃ b c, σ b = none ∧ ks.length ≤ c ∧ u = .slice (some ⟨b, 0, none⟩) ks.length c ∧ σ' = upd σ b (.row ((sortedK ks).map encStr) (c * 1) 9) := by
  have key : ACalls Try.prog 69 #[.func (.func 98) #[] #[.pointer (some ⟨Bs, 0, none⟩)]] σ _ := acalls_own (E := 9) (sz := 1) (n := ks.length) (xs := (sortedK ks).map encStr) fun w hs => by
    obtain ⟨A', c', e, hrow⟩ := hv
    cases e
    obtain ⟨x0, hx0⟩ : ∃ x, ks[0]? = some x := ⟨_, List.getElem?_eq_getElem (by rcases ks with _ | ⟨a, l⟩; exact absurd rfl h0; simp)⟩
    obtain ⟨b, o, rfl, hr0⟩ := hrow 0 x0 hx0
    have hcell : w.cell? ⟨Bs, 0, none⟩ = some (.slice (some ⟨b, o, none⟩) (ks.map bytesOf).length c) := by
      rw [List.length_map]
      refine rd_cell hs ?_
      unfold Go.Sp.rd; rw [hB]; rfl
    have hq : SeqB 98 #[.pointer (some ⟨Bs, 0, none⟩)] (ks.map bytesOf) w := by
      refine seqB98 (by rw [List.length_map]; omega) (hs.lt (by rw [hB]; simp)) (hs.lt (rdn_known hr0)) hcell fun j x hx => ?_
      rw [List.getElem?_map] at hx
      obtain ⟨k, hk, rfl⟩ := Option.map_eq_some_iff.1 hx
      obtain ⟨b', o', e, hr⟩ := hrow j k hk
      cases e
      rw [enc_bytes]
      have := rd_cell hs (rd_of_rdn hr)
      rwa [Nat.mul_one] at this
    have := sorted69 98 #[.pointer (some ⟨Bs, 0, none⟩)] (enters_of Try.func98 (by kernel_rfl) rfl) (ks.map bytesOf) (by rw [List.length_map]; unfold maxLen; omega) (by rw [List.length_map]; omega) w hq
    rw [List.length_map] at this
    exact this
  refine key.mono fun v σ' h => ?_
  rcases h with ⟨hz, _, _⟩ | h
  · exact absurd (List.eq_nil_of_length_eq_zero hz) h0
  · exact h
/-- slices.Compact of a row of its own. -/
theorem compact76 {τ : Hp} {b c : Nat} {zs : List (List UInt8)} {n : Nat} (hn : zs.length = n) (hc : n ≤ c) (hsz : n ≤ 1048576) :
    ACalls Try.prog 76 #[.slice (some ⟨b, 0, none⟩) n c] (upd τ b (.row (zs.map encStr) (c * 1) 9)) fun u σ' => u = .slice (some ⟨b, 0, none⟩) (Lib.compact zs).length c ∧ σ' = upd τ b .dead := fun w hs => by
  subst hn
  obtain ⟨rest, hl, hcell⟩ := hs b _ (upd_same _ _ _)
  have hlt : b < w.heap.size := (Array.getElem?_eq_some_iff.1 hcell).1
  have hH : Holds encStr w b 0 zs.toArray := Go.holds_of_block hcell (by simp)
  refine (Go.Proofs.Any.slices_Compact_string Try.compL b 0 c zs w hH (by omega) hc).mono fun e w' ⟨he, q, hw⟩ => ?_
  refine ⟨_, upd τ b .dead, he, fun k o hk => ?_, ?_, rfl, rfl⟩
  · subst hw
    show o.at (w.heap.modify b _)[k]?
    rw [Array.getElem?_modify]
    by_cases e : b = k
    · subst e
      rw [upd_same] at hk; cases hk
      rw [if_pos rfl, hcell]; rfl
    · rw [if_neg e]
      rw [upd_ne _ _ (fun x => e x.symm)] at hk
      exact hs k o (by rw [upd_ne _ _ (fun x => e x.symm)]; exact hk)
  · subst hw
    refine ⟨rfl, rfl, rfl, ?_, fun k hk hkn => ?_, fun k hk hkn => ?_⟩
    · show w.heap.size ≤ (w.heap.modify b _).size
      rw [Array.size_modify]; exact Nat.le_refl _
    · have e : ¬ b = k := fun e => by subst e; rw [upd_same] at hkn; cases hkn
      show (w.heap.modify b _)[k]? = _
      rw [Array.getElem?_modify, if_neg e]
    · have e : k ≠ b := fun e => by subst e; rw [upd_same] at hkn; cases hkn
      rw [upd_ne _ _ e] at hkn ⊢; exact hkn
theorem compact_nodup {zs : List (List UInt8)} (h : zs.Nodup) : (Lib.compact zs).length = zs.length := by
  unfold Lib.compact
  rw [Lib.compactUpTo_all]
  · simp
  · intro j hj
    unfold Lib.keeps
    rw [decide_eq_true_eq]
    rcases Nat.eq_zero_or_pos j with rfl | hpos
    · exact .inl rfl
    · refine .inr fun e => ?_
      rw [getElem!_pos _ _ (by simpa using hj), getElem!_pos _ _ (by simp; omega)] at e
      simp only [List.getElem_toArray] at e
      exact List.pairwise_iff_getElem.1 h (j - 1) j (by omega) hj (by omega) e.symm
theorem sorted_nodup {ks : List ByteArray} (h : ks.Nodup) : (sortedK ks).Nodup := by
  unfold sortedK
  rw [(List.mergeSort_perm _ _).nodup_iff]
  refine List.pairwise_map.2 (List.Pairwise.imp (fun {a b} hab e => hab ?_) h)
  unfold bytesOf at e
  cases a; cases b
  exact congrArg _ (Array.toList_inj.1 e)
def goodS (k : ByteArray) : Bool := !decide (k = ⟨#[]⟩) && !decide ((k.size : Int) > 32)
/-- What is wrong with keys: if they are good, nothing; else something or nothing. -/
structure ChkS (ks : List ByteArray) (e : Int) : Prop where
  good : ks.length ≠ 0 → ks.length ≤ 8 → (∀ k ∈ ks, goodS k = true) → ks.Nodup → e = 0
  few : e = 0 → ks.length ≠ 0 ∧ ks.length ≤ 8 ∧ ∀ k ∈ ks, goodS k = true
set_option maxHeartbeats 1000000 in
theorem check43 {σ : Hp} {v : Value} {ks : List ByteArray} (hv : RoRows 1 sC σ v ks) (hn : ks.length ≤ 140737488355328) : ACalls Try.prog 43 #[v] σ fun u σ' => (∃ e, u = .int .i64 e ∧ ChkS ks e) ∧ σ' = σ := by
  have HV := Hid.mk hv
  obtain ⟨A, c, rfl, hrow⟩ := hv
  have H := Hid.mk hrow
  clear hrow
  (refine acalls_F ok43 (by simp) ?_; unfold c43 r43)
  (repeat' (first | (simp +contextual -dsimp only [*, ↓reduceIte, ↓evP, evQ, splice, Nat.reduceAdd, Nat.reduceEqDiff, Nat.reduceLeDiff, Nat.reduceMul, reduceCtorEq, Int.reduceLT, Int.reduceLE, Int.reduceGT, Int.reduceGE, Int.reduceEq, Int.reduceNeg]) | (refine condF_split (fun hc => ?_) (fun hc => ?_) <;> (try simp only [Bool.not_eq_true', Bool.not_eq_false', Bool.and_eq_true, Bool.or_eq_false_iff] at hc)) | refine vcallF_mk (by kernel_rfl) ?_ | refine vccallF_mk (by kernel_rfl) ?_ | (intro _; intros) | (refine And.intro ?_ ?_; focus (first | omega | ((repeat (first | exact Sub.refl _ | (refine Sub.drop ?_ ?_; focus (simp only [evN, *]; done)) | refine Sub.both ?_)); done) | (simp_all; done) | (simp_all; omega)))))
  · refine endF_at ⟨⟨1, rfl, ⟨fun h => ?_, fun h => absurd h (by decide)⟩⟩, rfl⟩
    have := of_decide_eq_true hc; omega
  · refine endF_at ⟨⟨1, rfl, ⟨fun _ h => ?_, fun h => absurd h (by decide)⟩⟩, rfl⟩
    have := of_decide_eq_true hc; omega
  have hlen : ks.length ≠ 0 ∧ ks.length ≤ 8 := by
    have h1 := of_decide_eq_false hc
    have h2 : ¬ ((ks.length : Int) = 0) := of_decide_eq_false (by assumption)
    omega
  clear hc
  refine loopF_of (fun k s σ' => ∃ i : Nat, i ≤ ks.length ∧ k = ks.length - i ∧ s 16 = .int .i64 i ∧ s 15 = .int .i64 ks.length ∧ s 14 = .slice A ks.length c ∧ s 0 = .slice A ks.length c ∧ σ' = σ ∧ ∀ j x, j < i → ks[j]? = some x → goodS x = true) ks.length (Sub.refl _)
    ⟨0, by omega, rfl, (by first | rfl | (simp only [↓putO_get, ↓putO_no, init_zero, init_succ, Nat.reduceEqDiff, ↓reduceIte, *]; done) | (simp only [↓putO_get, ↓putO_no, init_zero, init_succ, Nat.reduceEqDiff, ↓reduceIte, *]; rfl)), (by first | rfl | (simp only [↓putO_get, ↓putO_no, init_zero, init_succ, Nat.reduceEqDiff, ↓reduceIte, *]; done) | (simp only [↓putO_get, ↓putO_no, init_zero, init_succ, Nat.reduceEqDiff, ↓reduceIte, *]; rfl)), (by first | rfl | (simp only [↓putO_get, ↓putO_no, init_zero, init_succ, Nat.reduceEqDiff, ↓reduceIte, *]; done) | (simp only [↓putO_get, ↓putO_no, init_zero, init_succ, Nat.reduceEqDiff, ↓reduceIte, *]; rfl)), (by first | rfl | (simp only [↓putO_get, ↓putO_no, init_zero, init_succ, Nat.reduceEqDiff, ↓reduceIte, *]; done) | (simp only [↓putO_get, ↓putO_no, init_zero, init_succ, Nat.reduceEqDiff, ↓reduceIte, *]; rfl)), rfl, fun j x h => by omega⟩ ?_
  rintro k s τ ⟨i, hi, hk, h16, h15, h14, h0, hτ, hgood⟩
  subst hτ
  rcases Nat.lt_or_ge i ks.length with hlt | hge
  · obtain ⟨x, hx⟩ : ∃ x, ks[i]? = some x := ⟨_, List.getElem?_eq_getElem hlt⟩
    obtain ⟨b, off, rfl, hrd⟩ := H.out i x hx
    have hrd := rd_of_rdn hrd
    have hd : decide ((i : Int) < (ks.length : Int)) = true := by simp; omega
    have e1 : IntKind.i64.wrap ((i : Int) + 1) = ((i + 1 : Nat) : Int) := by rw [wi64 (by omega)]; rfl
    have HX := Hid.mk (And.intro hx hgood)
    have HL := Hid.mk hlen
    clear hx hgood hlen
    (repeat' (first | (simp +contextual -dsimp only [*, ↓reduceIte, ↓evP, evQ, splice, Nat.reduceAdd, Nat.reduceEqDiff, Nat.reduceLeDiff, Nat.reduceMul, reduceCtorEq, Int.reduceLT, Int.reduceLE, Int.reduceGT, Int.reduceGE, Int.reduceEq, Int.reduceNeg]) | (refine condF_split (fun hc => ?_) (fun hc => ?_) <;> (try simp only [Bool.not_eq_true', Bool.not_eq_false', Bool.and_eq_true, Bool.or_eq_false_iff] at hc)) | refine vcallF_mk (by kernel_rfl) ?_ | refine vccallF_mk (by kernel_rfl) ?_ | (intro _; intros) | (refine And.intro ?_ ?_; focus (first | omega | ((repeat (first | exact Sub.refl _ | (refine Sub.drop ?_ ?_; focus (simp only [evN, *]; done)) | refine Sub.both ?_)); done) | (simp_all; done) | (simp_all; omega)))))
    · refine endF_at ⟨⟨1, rfl, ⟨fun _ _ h => ?_, fun h => absurd h (by decide)⟩⟩, rfl⟩
      have := h x (List.mem_of_getElem? HX.out.1)
      unfold goodS at this; rw [hc] at this; cases this
    · refine endF_at ⟨⟨1, rfl, ⟨fun _ _ h => ?_, fun h => absurd h (by decide)⟩⟩, rfl⟩
      have := h x (List.mem_of_getElem? HX.out.1)
      unfold goodS at this; rw [hc, Bool.and_comm] at this; cases this
    · refine nextF_of (ks.length - (i + 1)) (by omega) (Sub.refl _) ⟨i + 1, by omega, rfl, (by first | rfl | (simp only [↓putO_get, ↓putO_no, init_zero, init_succ, Nat.reduceEqDiff, ↓reduceIte, *]; done) | (simp only [↓putO_get, ↓putO_no, init_zero, init_succ, Nat.reduceEqDiff, ↓reduceIte, *]; rfl)), (by first | rfl | (simp only [↓putO_get, ↓putO_no, init_zero, init_succ, Nat.reduceEqDiff, ↓reduceIte, *]; done) | (simp only [↓putO_get, ↓putO_no, init_zero, init_succ, Nat.reduceEqDiff, ↓reduceIte, *]; rfl)), (by first | rfl | (simp only [↓putO_get, ↓putO_no, init_zero, init_succ, Nat.reduceEqDiff, ↓reduceIte, *]; done) | (simp only [↓putO_get, ↓putO_no, init_zero, init_succ, Nat.reduceEqDiff, ↓reduceIte, *]; rfl)), (by first | rfl | (simp only [↓putO_get, ↓putO_no, init_zero, init_succ, Nat.reduceEqDiff, ↓reduceIte, *]; done) | (simp only [↓putO_get, ↓putO_no, init_zero, init_succ, Nat.reduceEqDiff, ↓reduceIte, *]; rfl)), rfl, fun j y hj hy => ?_⟩
      rcases Nat.lt_or_ge j i with h | h
      · exact HX.out.2 j y h hy
      · obtain rfl : j = i := by omega
        rw [HX.out.1] at hy; cases hy
        unfold goodS; rw [hc, (show decide (x = ⟨#[]⟩) = false by assumption)]; rfl
  · have hd : decide ((i : Int) < (ks.length : Int)) = false := by simp; omega
    have HX := Hid.mk hgood
    have HL := Hid.mk hlen
    clear hgood hlen
    simp +contextual -dsimp only [*, ↓reduceIte, ↓evP, evQ, splice, Nat.reduceAdd, Nat.reduceEqDiff, Nat.reduceLeDiff, Nat.reduceMul, reduceCtorEq, Int.reduceLT, Int.reduceLE, Int.reduceGT, Int.reduceGE, Int.reduceEq, Int.reduceNeg]
    refine callF_of (values75 _ rfl _) ?_
    rintro u σ' ⟨B, hB, rfl, rfl⟩
    simp +contextual -dsimp only [*, ↓reduceIte, ↓evP, evQ, splice, Nat.reduceAdd, Nat.reduceEqDiff, Nat.reduceLeDiff, Nat.reduceMul, reduceCtorEq, Int.reduceLT, Int.reduceLE, Int.reduceGT, Int.reduceGE, Int.reduceEq, Int.reduceNeg]
    have hB' : ∀ y, τ y = none → y ≠ B → upd τ B (.cells (cl (.slice A ks.length c)) 36) y = none := fun y hy e => by rw [upd_ne _ _ e]; exact hy
    have h1 := HL.out
    refine callF_of (sorted69a (upd_same _ _ _) (HV.out.sub (Sub.drop hB (Sub.refl _))) (fun e => h1.1 (by rw [e]; rfl)) (by omega)) ?_
    rintro u σ'' ⟨b2, c2, hb2, hc2, rfl, rfl⟩
    (repeat' (first | (simp +contextual -dsimp only [*, ↓reduceIte, ↓evP, evQ, splice, Nat.reduceAdd, Nat.reduceEqDiff, Nat.reduceLeDiff, Nat.reduceMul, reduceCtorEq, Int.reduceLT, Int.reduceLE, Int.reduceGT, Int.reduceGE, Int.reduceEq, Int.reduceNeg]) | (refine condF_split (fun hc => ?_) (fun hc => ?_) <;> (try simp only [Bool.not_eq_true', Bool.not_eq_false', Bool.and_eq_true, Bool.or_eq_false_iff] at hc)) | refine callF_v (compact76 (sortedK_len ks) hc2 (by omega)) ?_ | refine ccallF_of (compact76 (sortedK_len ks) hc2 (by omega)) ?_ | refine gcallF_of (compact76 (sortedK_len ks) hc2 (by omega)) ?_ | refine vcallF_mk (by kernel_rfl) ?_ | refine vccallF_mk (by kernel_rfl) ?_ | (intro _; intros) | (refine And.intro ?_ ?_; focus (first | omega | ((repeat (first | exact Sub.refl _ | (refine Sub.drop ?_ ?_; focus (simp only [evN, *]; done)) | refine Sub.both ?_)); done) | (simp_all; done) | (simp_all; omega)))))
    · refine endF_sub (Sub.drop ((none_upd _ _ _ _).1 hb2).2 (Sub.drop hB (Sub.refl _))) ⟨⟨22, rfl, ⟨fun _ _ _ hnd => ?_, fun h => absurd h (by decide)⟩⟩, rfl⟩
      have := of_decide_eq_true hc
      rw [compact_nodup (sorted_nodup hnd), sortedK_len] at this
      omega
    · refine endF_sub (Sub.drop ((none_upd _ _ _ _).1 hb2).2 (Sub.drop hB (Sub.refl _))) ⟨⟨0, rfl, ⟨fun _ _ _ _ => rfl, fun _ => ⟨h1.1, h1.2, fun k hk => ?_⟩⟩⟩, rfl⟩
      obtain ⟨j, hj⟩ := List.getElem?_of_mem hk
      exact HX.out j k (by have := (List.getElem?_eq_some_iff.1 hj).1; omega) hj
theorem _root_.Go.Sp.seg_add {cs xs ys : List Value} {o n m : Nat} (h1 : seg cs o n = some xs) (h2 : seg cs (o + n) m = some ys) : seg cs o (n + m) = some (xs ++ ys) := by
  unfold seg at *
  split at h1
  · split at h2
    · cases h1; cases h2
      rw [if_pos (by omega), List.take_add, List.drop_drop]
    · cases h2
  · cases h1
theorem _root_.Go.Sp.rdn_add {σ : Hp} {b o n m : Nat} {xs ys : List Value} (h1 : rdn σ b o n = some xs) (h2 : rdn σ b (o + n) m = some ys) : rdn σ b o (n + m) = some (xs ++ ys) := by
  unfold rdn at *
  generalize σ b = q at *
  split at h1
  · exact seg_add h1 h2
  · exact seg_add h1 h2
  · exact seg_add h1 h2
  · cases h1
theorem _root_.Go.Sp.ro_whole {α : Type} {sz : Nat} {f : α → List Value} {σ : Hp} {b : Nat} : ∀ (l : List α) (o : Nat), l ≠ [] → (∀ i x, l[i]? = some x → rdn σ b (o + i * sz) sz = some (f x)) → rdn σ b o (l.length * sz) = some (l.flatMap f)
  | [], _, h, _ => absurd rfl h
  | [x], o, _, h => by
    have := h 0 x rfl
    simpa using this
  | x :: y :: r, o, _, h => by
    have h0 := h 0 x rfl
    have ih := ro_whole (σ := σ) (b := b) (f := f) (sz := sz) (y :: r) (o + sz) (by simp) (fun i z hz => by
      have := h (i + 1) z (by simpa using hz)
      rw [show o + (i + 1) * sz = o + sz + i * sz by rw [Nat.add_mul]; omega] at this
      exact this)
    have h0 : rdn σ b o sz = some (f x) := by simpa using h0
    have := rdn_add h0 ih
    rw [show (x :: y :: r).length * sz = sz + (y :: r).length * sz by simp only [List.length_cons, Nat.add_mul]; omega]
    exact this
/-- Rows that are only read, read whole. -/
theorem _root_.Go.Sp.RoRows.whole {α : Type} {sz : Nat} {f : α → List Value} {σ : Hp} {v : Value} {l : List α} (h : RoRows sz f σ v l) (h0 : l ≠ []) : ∃ b o c, v = .slice (some ⟨b, o, none⟩) l.length c ∧ rdn σ b o (l.length * sz) = some (l.flatMap f) := by
  obtain ⟨A, c, rfl, hrow⟩ := h
  obtain ⟨b, off, rfl, _⟩ := hrow 0 (l[0]'(List.length_pos_iff.2 h0)) (List.getElem?_eq_getElem _)
  exact ⟨b, off, c, rfl, ro_whole l off h0 fun i x hx => by
    obtain ⟨b', o', e, h⟩ := hrow i x hx
    cases e; exact h⟩
theorem _root_.Go.Sp.flat_one {α : Type} {f : α → List Value} (hf : ∀ x, (f x).all Go.Sp.one = true) : ∀ (l : List α), (l.flatMap f).all Go.Sp.one = true
  | [] => rfl
  | w :: r => by rw [List.flatMap_cons, List.all_append, flat_one hf r, hf]; rfl
theorem _root_.Go.Sp.RowsAt.apart {α β : Type} {E E' sz sz' : Nat} {f : α → List Value} {f' : β → List Value} {σ : Hp} {v v' : Value} {l : List α} {l' : List β} (h : RowsAt E sz f σ v l) (h' : RowsAt E' sz' f' σ v' l') (hE : E ≠ E') {k : Nat} (hk : blk v = some k) : blk v' ≠ some k := fun e => by
  rcases h with ⟨rfl, _⟩ | ⟨b, c, rfl, _, hb⟩
  · cases hk
  · rcases h' with ⟨rfl, _⟩ | ⟨b', c', rfl, _, hb'⟩
    · cases e
    · cases hk; cases e
      rw [hb] at hb'
      exact hE (Blk.row.inj (Option.some.inj hb')).2.2
theorem clone44 {σ : Hp} {v : Value} {ks : List ByteArray} (hv : RoRows 1 sC σ v ks) (h0 : ks ≠ []) (hn : ks.length ≤ 1048576) :
    ACalls Try.prog 44 #[v] σ fun u σ' => ∃ b c, σ b = none ∧ ks.length ≤ c ∧ u = .slice (some ⟨b, 0, none⟩) ks.length c ∧ σ' = upd σ b (.row (ks.flatMap sC) (c * 1) 9) := by
  obtain ⟨b, off, c, rfl, hrd⟩ := hv.whole h0
  have hone : (ks.flatMap sC).all Go.Sp.one = true := flat_one (fun _ => rfl) _
  (refine acalls_F ok44 (by simp) ?_; unfold c44 r44)
  (repeat' (first | (simp +contextual -dsimp only [*, ↓reduceIte, ↓evP, evQ, splice, Nat.reduceAdd, Nat.reduceEqDiff, Nat.reduceLeDiff, Nat.reduceMul, reduceCtorEq, Int.reduceLT, Int.reduceLE, Int.reduceGT, Int.reduceGE, Int.reduceEq, Int.reduceNeg]) | (refine condF_split (fun hc => ?_) (fun hc => ?_) <;> (try simp only [Bool.not_eq_true', Bool.not_eq_false', Bool.and_eq_true, Bool.or_eq_false_iff] at hc)) | (intro _; intros) | (refine And.intro ?_ ?_; focus (first | omega | ((repeat (first | exact Sub.refl _ | (refine Sub.drop ?_ ?_; focus (simp only [evN, *]; done)) | refine Sub.both ?_)); done) | (simp_all; done) | (simp_all; omega)))))
  rename_i b2 hb2
  refine app_b (rdn_sub (Sub.drop hb2 (Sub.refl _)) hrd) hone (by first | (simp only [upd_at, *, ↓reduceIte]; done) | (simp only [upd_at, *, ↓reduceIte]; rfl)) rfl (by omega) (by omega) (by unfold maxLen; omega) ?_ ?_
  all_goals (repeat' (first | (simp +contextual -dsimp only [*, ↓reduceIte, ↓evP, evQ, splice, Nat.reduceAdd, Nat.reduceEqDiff, Nat.reduceLeDiff, Nat.reduceMul, reduceCtorEq, Int.reduceLT, Int.reduceLE, Int.reduceGT, Int.reduceGE, Int.reduceEq, Int.reduceNeg]) | (refine condF_split (fun hc => ?_) (fun hc => ?_) <;> (try simp only [Bool.not_eq_true', Bool.not_eq_false', Bool.and_eq_true, Bool.or_eq_false_iff] at hc)) | (intro _; intros) | (refine And.intro ?_ ?_; focus (first | omega | ((repeat (first | exact Sub.refl _ | (refine Sub.drop ?_ ?_; focus (simp only [evN, *]; done)) | refine Sub.both ?_)); done) | (simp_all; done) | (simp_all; omega)))))
  · exact endF_sub (by first | exact Sub.refl _ | (repeat (first | exact Sub.refl _ | (refine Sub.drop ?_ ?_; focus (simp only [evN, *]; done)) | refine Sub.both ?_)); done) ⟨b2, _, hb2, (by omega), rfl, rfl⟩
  · exact endF_sub (by (repeat (first | exact Sub.refl _ | (refine Sub.drop ?_ ?_; focus (simp only [evN, *]; done)) | refine Sub.both ?_)); done) ⟨_, _, (by first | assumption | (simp only [evN, *]; done)), (by omega), rfl, rfl⟩
end Go.Proofs.Ytpnghjmphbhkjaa
