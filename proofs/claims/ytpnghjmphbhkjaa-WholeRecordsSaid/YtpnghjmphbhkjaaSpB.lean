/- What one operation does to the known part of a heap. -/
import Derived.Test.YtpnghjmphbhkjaaSpA
import Derived.WalkSpells
import Derived.Deep.MidRow
import Derived.MapKept
import Derived.Laws.MakeOwn
import Derived.Laws.BytesArg
import Derived.Laws.Runes
namespace Go.Sp
open Go.RowKit
set_option linter.unusedSimpArgs false
set_option linter.unusedVariables false
/-- May it lie in one cell? -/
def one : Value → Bool
  | .agg _ => false
  | .tuple _ => false
  | _ => true
def rd (σ : Hp) (b off : Nat) : Option Value :=
  match σ b with
  | some (.cells cs _) => cs[off]?
  | some (.row cs _ _) => cs[off]?
  | some (.ro (.cells cs _ _)) => cs.toList[off]?
  | _ => none
def seg (cs : List Value) (off n : Nat) : Option (List Value) := if off + n ≤ cs.length then some ((cs.drop off).take n) else none
def rdn (σ : Hp) (b off n : Nat) : Option (List Value) :=
  match σ b with
  | some (.cells cs _) => seg cs off n
  | some (.row cs _ _) => seg cs off n
  | some (.ro (.cells cs _ _)) => seg cs.toList off n
  | _ => none
def splice (cs : List Value) (off : Nat) (vs : List Value) : List Value := cs.take off ++ vs ++ cs.drop (off + vs.length)
def wr (σ : Hp) (b off : Nat) (vs : List Value) : Option Hp :=
  match σ b with
  | some (.cells cs t) => if off + vs.length ≤ cs.length then some (upd σ b (.cells (splice cs off vs) t)) else none
  | some (.row cs room t) => if off + vs.length ≤ cs.length then some (upd σ b (.row (splice cs off vs) room t)) else none
  | _ => none
/-- The value, if it is an address; a truth; if there is one. -/
def onPtr (v : Value) (k : Nat → Nat → Prop) : Prop := match v with | .pointer (some ⟨b, o, none⟩) => k b o | _ => False
def onBool (v : Value) (k : Bool → Prop) : Prop := match v with | .bool b => k b | _ => False
def onSome {α : Type} (v : Option α) (k : α → Prop) : Prop := match v with | some a => k a | none => False
theorem onPtr_mk (b o : Nat) (k : Nat → Nat → Prop) : onPtr (.pointer (some ⟨b, o, none⟩)) k = k b o := rfl
theorem onBool_mk (b : Bool) (k : Bool → Prop) : onBool (.bool b) k = k b := rfl
theorem onSome_some {α : Type} (a : α) (k : α → Prop) : onSome (some a) k = k a := rfl
theorem onPtr_elim {v : Value} {k : Nat → Nat → Prop} (h : onPtr v k) : ∃ b o, v = .pointer (some ⟨b, o, none⟩) ∧ k b o := by
  unfold onPtr at h; split at h
  · exact ⟨_, _, rfl, h⟩
  · exact h.elim
theorem onBool_elim {v : Value} {k : Bool → Prop} (h : onBool v k) : ∃ b, v = .bool b ∧ k b := by
  unfold onBool at h; split at h
  · exact ⟨_, rfl, h⟩
  · exact h.elim
theorem onSome_elim {α : Type} {v : Option α} {k : α → Prop} (h : onSome v k) : ∃ a, v = some a ∧ k a := by
  unfold onSome at h; split at h
  · exact ⟨_, rfl, h⟩
  · exact h.elim
def cl (v : Value) : List Value := v.cells.toList
def fillO (s : Sl) (z : List Value) : List (Nat × Nat × Operand) → Option (List Value)
  | [] => some z
  | (off, sz, x) :: r => if (cl (ev s x)).length = sz ∧ off + sz ≤ z.length then fillO s (splice z off (cl (ev s x))) r else none
def lookv (ok : Bool) (z : Value) (r : Option Value) : Value := if ok = true then .tuple #[r.getD z, .bool r.isSome] else r.getD z
def ml (σ : Hp) (b : Nat) : Option (List (ByteArray × Value)) := match σ b with | some (.mp l) => some l | _ => none
def onMap (v : Value) (k : Nat → Prop) : Prop := match v with | .map (some b) => k b | _ => False
theorem onMap_mk (b : Nat) (k : Nat → Prop) : onMap (.map (some b)) k = k b := rfl
theorem onMap_elim {v : Value} {k : Nat → Prop} (h : onMap v k) : ∃ b, v = .map (some b) ∧ k b := by
  unfold onMap at h; split at h
  · exact ⟨_, rfl, h⟩
  · exact h.elim
/-- What is asked of a map: a key's value (and whether it is there), how many keys. -/
inductive LQ where
  | get (num ok : Bool)
  | size
/-- What is done to a map. -/
inductive LT where
  | put (num : Bool)
  | del (num : Bool)
  | clr
def bread (q : LQ) (z k : Value) : Blk → Option Value
  | .mp l => match q, k with
    | .get false ok, .string s => some (lookv ok z (mget l s))
    | .size, _ => some (.int .i64 l.length)
    | _, _ => none
  | .im l => match q, k with
    | .get true ok, .int .i64 n => some (lookv ok z (mget l n))
    | .size, _ => some (.int .i64 l.length)
    | _, _ => none
  | _ => none
def bturn (q : LT) (k v : Value) : Blk → Option Blk
  | .mp l => match q, k with
    | .put false, .string s => some (.mp (mput l s v))
    | .del false, .string s => some (.mp (mdel l s))
    | .clr, _ => some (.mp [])
    | _, _ => none
  | .im l => match q, k with
    | .put true, .int .i64 n => some (.im (mput l n v))
    | .del true, .int .i64 n => some (.im (mdel l n))
    | .clr, _ => some (.im [])
    | _, _ => none
  | _ => none
def mreadV (σ : Hp) (m : Value) (q : LQ) (z k : Value) : Option Value := match m with
  | .map none => match q, k with
    | .get false ok, .string _ => some (lookv ok z none)
    | .get true ok, .int .i64 _ => some (lookv ok z none)
    | .size, _ => some (.int .i64 0)
    | _, _ => none
  | .map (some b) => (σ b).bind (bread q z k)
  | _ => none
def mturnV (σ : Hp) (m : Value) (q : LT) (k v : Value) : Option Hp := match m with
  | .map (some b) => ((σ b).bind (bturn q k v)).map fun o => upd σ b o
  | _ => none
def turnv : LT → Value
  | .put _ => undef
  | _ => .tuple #[]
/-- What only computes. -/
inductive Lf where
  | sls
  | sll (size : Nat)
  | slh (size : Nat)
  | rune
  | ifn (neg : Bool)
  | aix (n size : Nat)
  | clo (f : FuncId)
def slsv (u v x : Value) : Option Value := match u, v, x with
  | .string b, .int _ i, .int _ j => if 0 ≤ i ∧ i ≤ j ∧ j ≤ b.size then some (.string (b.extract i.toNat j.toNat)) else none
  | _, _, _ => none
def sllv (sz : Nat) (u v : Value) : Option Value := match u, v with
  | .slice a n c, .int _ i => if 0 ≤ i ∧ i ≤ n then some (sliced a i.toNat n c sz) else none
  | _, _ => none
def slhv (sz : Nat) (u v : Value) : Option Value := match u, v with
  | .slice a _ c, .int _ j => if 0 ≤ j ∧ j ≤ c then some (sliced a 0 j.toNat c sz) else none
  | _, _ => none
def runev (u : Value) : Option Value := match u with
  | .int _ i => some (.string (Utf8.encode i))
  | _ => none
def ifnv (neg : Bool) (u : Value) : Option Value := match u with
  | .nilIface => some (.bool (true != neg))
  | .iface _ _ => some (.bool (false != neg))
  | _ => none
def aixv (n sz : Nat) (u v : Value) : Option Value := match u, v with
  | .pointer (some ⟨b, o, none⟩), .int .i64 j => if 0 ≤ j ∧ j < n then some (.pointer (some ⟨b, o + j.toNat * sz, none⟩)) else none
  | _, _ => none
def lf : Lf → List Value → Option Value
  | .aix n sz, [u, v] => aixv n sz u v
  | .sls, [u, v, x] => slsv u v x
  | .sll sz, [u, v] => sllv sz u v
  | .slh sz, [u, v] => slhv sz u v
  | .rune, [u] => runev u
  | .ifn neg, [u] => ifnv neg u
  | .clo f, us => some (.func (.func f) #[] us.toArray)
  | _, _ => none
def u8s : List Value → Option (List Int)
  | [] => some []
  | .int .u8 x :: r => (u8s r).map (x :: ·)
  | _ => none
inductive EqK where
  | bool
  | ptr
  | slice
/-- A binary operation on numbers and texts; of truths, addresses and slices: whether they are equal (of the last two: with nil). -/
def binv (op : BinOp) (x y : Value) : Option Value :=
  match op, x, y with
  | .add, .int k a, .int k' b => if k = k' then some (.int k (k.wrap (a + b))) else none
  | .sub, .int k a, .int k' b => if k = k' then some (.int k (k.wrap (a - b))) else none
  | .mul, .int k a, .int k' b => if k = k' then some (.int k (k.wrap (a * b))) else none
  | .eql, .int k a, .int k' b => if k = k' then some (.bool (a == b)) else none
  | .neq, .int k a, .int k' b => if k = k' then some (.bool (a != b)) else none
  | .lss, .int k a, .int k' b => if k = k' then some (.bool (a < b)) else none
  | .leq, .int k a, .int k' b => if k = k' then some (.bool (a ≤ b)) else none
  | .gtr, .int k a, .int k' b => if k = k' then some (.bool (a > b)) else none
  | .geq, .int k a, .int k' b => if k = k' then some (.bool (a ≥ b)) else none
  | .eql, .string a, .string b => some (.bool (a.toList == b.toList))
  | .neq, .string a, .string b => some (.bool (!(a.toList == b.toList)))
  | .quo, .int k a, .int k' b => if k = k' then (if b = 0 then none else some (.int k (k.wrap (a.tdiv b)))) else none
  | .rem, .int k a, .int k' b => if k = k' then (if b = 0 then none else some (.int k (a.tmod b))) else none
  | .and, .int k a, .int k' b => if k = k' then some (.int k (k.wrap (BitVec.ofInt k.bits a &&& BitVec.ofInt k.bits b).toNat)) else none
  | .or, .int k a, .int k' b => if k = k' then some (.int k (k.wrap (BitVec.ofInt k.bits a ||| BitVec.ofInt k.bits b).toNat)) else none
  | .xor, .int k a, .int k' b => if k = k' then some (.int k (k.wrap (BitVec.ofInt k.bits a ^^^ BitVec.ofInt k.bits b).toNat)) else none
  | .shl, .int k a, .int _ b => if b < 0 then none else some (.int k (k.wrap (a * 2 ^ (min b.toNat k.bits))))
  | .shr, .int k a, .int _ b => if b < 0 then none else some (.int k (a.fdiv (2 ^ (min b.toNat k.bits))))
  | .add, .string a, .string b => if a.size + b.size ≤ 9223372036854775807 then some (.string (a ++ b)) else none
  | _, _, _ => none
/-- What stands in a cell: a number, a truth, a text. -/
inductive Lk where
  | num
  | truth
  | text
/-- Equal, cell by cell. -/
def eq1 : Lk → Value → Value → Option Bool
  | .num, .int k a, .int k' b => if k = k' then some (a == b) else none
  | .truth, .bool a, .bool b => some (a == b)
  | .text, .string a, .string b => some (a.toList == b.toList)
  | _, _, _ => none
def eqL : List Lk → List Value → List Value → Option Bool
  | [], [], [] => some true
  | k :: ks, a :: as, b :: bs => (eq1 k a b).bind fun x => (eqL ks as bs).map fun y => x && y
  | _, _, _ => none
def eqa (ks : List Lk) : Value → Value → Option Bool
  | .agg a, .agg b => eqL ks a.toList b.toList
  | _, _ => none
def fldv (sz : Option Nat) (off : Nat) : Value → Option Value
  | .agg cs => match sz with
    | none => cs.toList[off]?
    | some n => (seg cs.toList off n).map fun vs => .agg vs.toArray
  | _ => none
def eqv (k : EqK) (x y : Value) : Option Bool :=
  match k, x, y with
  | .bool, .bool a, .bool b => some (a == b)
  | .ptr, .pointer none, .pointer b => some b.isNone
  | .ptr, .pointer (some _), .pointer none => some false
  | .slice, .slice none _ _, .slice b _ _ => some b.isNone
  | .slice, .slice (some _) _ _, .slice none _ _ => some false
  | _, _, _ => none
def lenv : Bool → Value → Option Nat
  | true, .slice _ n _ => some n
  | false, .string s => some s.size
  | _, _ => none
def mkO (op : Op) (ty : TypeId) : Oper := { dst := none, op := op, type := ty, pos := "", after := #[], guard := none }
inductive M where
  | raw (op : Op) (ty : TypeId)
  | mv (x : Operand)
  | pick (c a b : Operand)
  | nilc (x : Operand)
  | fa (off : Nat) (x : Operand)
  | ia (size : Nat) (x i : Operand)
  | bin (op : BinOp) (x y : Operand)
  | eqs (neg : Bool) (k : EqK) (x y : Operand)
  | nt (x : Operand)
  | ext (i : Nat) (x : Operand)
  | len (t : Bool) (x : Operand)
  | bld (z : List Value) (ps : List (Nat × Nat × Operand))
  | conv (k : IntKind) (x : Operand)
  | ixs (x i : Operand)
  | mx (up : Bool) (x y : Operand)
  | eqa (neg : Bool) (ks : List Lk) (x y : Operand)
  | fld (sz : Option Nat) (off : Nat) (x : Operand)
  | new (T : TypeId) (z : List Value)
  | box (T : TypeId) (x : Operand)
  | lit (E : TypeId) (n size : Nat) (z : List Value) (ps : List (Nat × Nat × Operand))
  | ld (sz : Option Nat) (x : Operand)
  | st (sz : Nat) (a x : Operand)
  | call (f : FuncId) (args : List Operand)
  | app (E size bytes : Nat) (x y : Operand)
  | mkmap (num : Bool)
  | look (q : LQ) (z : Value) (x i : Operand)
  | mset (q : LT) (x i v : Operand)
  | mks (E size bytes : Nat) (z : List Value) (n : Operand)
  | fnl (g : Lf) (xs : List Operand)
  | bys (x : Operand)
  | callv (x : Operand) (args : List Operand)
def appK (E size bytes : Nat) (vx vy : Value) (K : Value → Hp → Prop) (σ : Hp) : Prop :=
    (∃ A m c, vy = .slice A m c ∧ m = 0 ∧ ((vx = .slice none 0 0 ∧ K (.slice none 0 0) σ) ∨ ∃ b n cap, vx = .slice (some ⟨b, 0, none⟩) n cap ∧ n ≤ cap ∧ K (.slice (some ⟨b, 0, none⟩) n cap) σ)) ∨
    (∃ b off m c ys, vy = .slice (some ⟨b, off, none⟩) m c ∧ rdn σ b off (m * size) = some ys ∧ ys.all one = true ∧
      ((m = 0 ∧ vx = .slice none 0 0 ∧ K (.slice none 0 0) σ) ∨
       (0 < m ∧ vx = .slice none 0 0 ∧ m * bytes ≤ 140737488355328 ∧ m ≤ maxLen ∧ ∀ b' c', σ b' = none → m ≤ c' → K (.slice (some ⟨b', 0, none⟩) m c') (upd σ b' (.row ys (c' * size) E))) ∨
       ∃ g n cap xs, vx = .slice (some ⟨g, 0, none⟩) n cap ∧ σ g = some (.row xs (cap * size) E) ∧ xs.length = n * size ∧ n ≤ cap ∧ (n + m) * bytes ≤ 140737488355328 ∧ n + m ≤ maxLen ∧
         ∀ b' c', (b' = g ∨ σ b' = none) → n + m ≤ c' → K (.slice (some ⟨b', 0, none⟩) (n + m) c') (upd (upd σ g .dead) b' (.row (xs ++ ys) (c' * size) E))))
def onSlice (v : Value) (k : Nat → Nat → Nat → Prop) : Prop := match v with | .slice (some ⟨b, o, none⟩) n _ => k b o n | _ => False
theorem onSlice_mk (b o n c : Nat) (k : Nat → Nat → Nat → Prop) : onSlice (.slice (some ⟨b, o, none⟩) n c) k = k b o n := rfl
def onI64 (v : Value) (k : Int → Prop) : Prop := match v with | .int .i64 n => k n | _ => False
theorem onI64_mk (n : Int) (k : Int → Prop) : onI64 (.int .i64 n) k = k n := rfl
def onTuple (v : Value) (k : Array Value → Prop) : Prop := match v with | .tuple vs => k vs | _ => False
theorem onTuple_mk (vs : Array Value) (k : Array Value → Prop) : onTuple (.tuple vs) k = k vs := rfl
def onInt (v : Value) (k : IntKind → Int → Prop) : Prop := match v with | .int q n => k q n | _ => False
theorem onInt_mk (q : IntKind) (n : Int) (k : IntKind → Int → Prop) : onInt (.int q n) k = k q n := rfl
def onStr (v : Value) (k : ByteArray → Prop) : Prop := match v with | .string b => k b | _ => False
theorem onStr_mk (b : ByteArray) (k : ByteArray → Prop) : onStr (.string b) k = k b := rfl
theorem onSlice_elim {v : Value} {k : Nat → Nat → Nat → Prop} (h : onSlice v k) : ∃ b o n c, v = .slice (some ⟨b, o, none⟩) n c ∧ k b o n := by
  unfold onSlice at h; split at h
  · exact ⟨_, _, _, _, rfl, h⟩
  · exact h.elim
theorem onInt_elim {v : Value} {k : IntKind → Int → Prop} (h : onInt v k) : ∃ q n, v = .int q n ∧ k q n := by
  unfold onInt at h; split at h
  · exact ⟨_, _, rfl, h⟩
  · exact h.elim
theorem onStr_elim {v : Value} {k : ByteArray → Prop} (h : onStr v k) : ∃ b, v = .string b ∧ k b := by
  unfold onStr at h; split at h
  · exact ⟨_, rfl, h⟩
  · exact h.elim
/-- A function that has a text of its own. -/
def okF (P : Program) (f : FuncId) : Bool := (P.inits.idxOf? f).isNone && match P.funcs[f]? with | some fn => !(fn.name == "runtime.NumGoroutine" || fn.body.isNone) | none => false
/-- What an operation does to what is known. -/
def mop (P : Program) (m : M) (K : Value → Hp → Prop) (s : Sl) (σ : Hp) : Prop :=
  match m with
  | .raw op ty => ∃ v, (∀ w, (execOp (ev s) (mkO op ty)).run P w = .ok (.value v) w) ∧ K v σ
  | .mv x => K (ev s x) σ
  | .pick c a b => onBool (ev s c) fun t => K (if t = true then ev s a else ev s b) σ
  | .nilc x => onPtr (ev s x) fun b o => K (.pointer (some ⟨b, o, none⟩)) σ
  | .fa off x => onPtr (ev s x) fun b o => K (.pointer (some ⟨b, o + off, none⟩)) σ
  | .ia size x i => onSlice (ev s x) fun b o n => onI64 (ev s i) fun j => (0 ≤ j ∧ j < n) ∧ K (.pointer (some ⟨b, o + j.toNat * size, none⟩)) σ
  | .bin op x y => onSome (binv op (ev s x) (ev s y)) fun v => K v σ
  | .eqs neg k x y => onSome (eqv k (ev s x) (ev s y)) fun b => K (.bool (b != neg)) σ
  | .nt x => onBool (ev s x) fun b => K (.bool (!b)) σ
  | .ext i x => onTuple (ev s x) fun vs => onSome vs[i]? fun v => K v σ
  | .len t x => onSome (lenv t (ev s x)) fun n => K (.int .i64 n) σ
  | .bld z ps => onSome (fillO s z ps) fun cs => K (.agg cs.toArray) σ
  | .conv k x => onInt (ev s x) fun _ n => K (.int k (k.wrap n)) σ
  | .ixs x i => onStr (ev s x) fun b => onI64 (ev s i) fun j => (0 ≤ j ∧ j < b.size) ∧ K (.int .u8 (b.data.toList.getD j.toNat 0).toNat) σ
  | .mx up x y => onInt (ev s x) fun k a => onInt (ev s y) fun _ b => K (.int k (if up = true then (if b > a then b else a) else (if b < a then b else a))) σ
  | .eqa neg ks x y => onSome (Sp.eqa ks (ev s x) (ev s y)) fun b => K (.bool (b != neg)) σ
  | .fld sz off x => onSome (fldv sz off (ev s x)) fun v => K v σ
  | .new T z => ∀ b, σ b = none → K (.pointer (some ⟨b, 0, none⟩)) (upd σ b (.cells z T))
  | .box T x => ∀ b, σ b = none → K (.pointer (some ⟨b, 0, none⟩)) (upd σ b (.cells (cl (ev s x)) T))
  | .lit E n size z ps => onSome (fillO s z ps) fun cs => ∀ b, σ b = none → K (.slice (some ⟨b, 0, none⟩) n n) (upd σ b (.row cs cs.length E))
  | .ld none x => onPtr (ev s x) fun b off => onSome (rd σ b off) fun v => K v σ
  | .ld (some sz) x => onPtr (ev s x) fun b off => onSome (rdn σ b off sz) fun vs => K (.agg vs.toArray) σ
  | .st sz a x => onPtr (ev s a) fun b off => (cl (ev s x)).length = sz ∧ (cl (ev s x)).all one = true ∧ onSome (wr σ b off (cl (ev s x))) fun σ' => K undef σ'
  | .call f args => ∃ R, ACalls P f (args.map (ev s)).toArray σ R ∧ ∀ v σ', R v σ' → (∃ w, Sat σ' w) → K v σ'
  | .callv x args => ∃ f cs, ev s x = .func (.func f) #[] cs ∧ okF P f = true ∧ ∃ R, ACalls P f (args.map (ev s) ++ cs.toList).toArray σ R ∧ ∀ v σ', R v σ' → (∃ w, Sat σ' w) → K v σ'
  | .app E size bytes x y => appK E size bytes (ev s x) (ev s y) K σ
  | .mkmap num => ∀ b, σ b = none → K (.map (some b)) (upd σ b (if num = true then .im [] else .mp []))
  | .look q z x i => onSome (mreadV σ (ev s x) q z (ev s i)) fun v => K v σ
  | .mks E size bytes z n => onI64 (ev s n) fun j => (0 ≤ j ∧ j * bytes ≤ 140737488355328 ∧ j ≤ 140737488355328 ∧ z.length = size) ∧ ∀ b, σ b = none → K (.slice (some ⟨b, 0, none⟩) j.toNat j.toNat) (upd σ b (.row (List.replicate j.toNat z).flatten (j.toNat * size) E))
  | .fnl g xs => onSome (lf g (xs.map (ev s))) fun v => K v σ
  | .bys x => onSlice (ev s x) fun b o n => onSome (rdn σ b o n) fun vs => onSome (u8s vs) fun ys => K (.string (strOfNums ys)) σ
  | .mset q x i v => onSome (mturnV σ (ev s x) q (ev s i) (ev s v)) fun σ' => K (turnv q) σ'
/-- The cells of a type all of whose cells are numbers, truths and texts. -/
def lkF (P : Program) (g : TypeId → Option (List Lk)) : List Field → Nat → Option (List Lk)
  | [], _ => some []
  | f :: fs, o =>
    if f.offset = o ∧ f.name ≠ "_" then
      match g f.type with
      | some k => if (P.info? f.type).map (·.size) = some k.length ∧ 0 < k.length then (lkF P g fs (o + k.length)).map (k ++ ·) else none
      | none => none
    else none
def lk (P : Program) : Nat → TypeId → Option (List Lk)
  | 0, _ => none
  | d + 1, t =>
    match P.underlying t with
    | some (.int _) => some [.num]
    | some .bool => some [.truth]
    | some .string => some [.text]
    | some (.struct fs) => if P.stoodInHeld t = false then lkF P (lk P d) fs.toList 0 else none
    | _ => none
def places (P : Program) (fs : List Field) : Option (List (Nat × Nat)) := fs.mapM fun f => (P.info? f.type).map fun i => (f.offset, i.size)
/-- Is it a map whose keys are texts, or numbers? -/
def mapKey (P : Program) (t : TypeId) : Option (Bool × TypeId) := match P.underlying t with
  | some (.map kt e) => match P.underlying kt with
    | some .string => some (false, e)
    | some (.int .i64) => some (true, e)
    | _ => none
  | _ => none
def partsAt (pl : List (Nat × Nat)) (ps : List (Nat × Operand)) : Option (List (Nat × Nat × Operand)) := ps.mapM fun p => (pl[p.1]?).map fun q => (q.1, q.2, p.2)
def sameOp : Operand → Operand → Bool
  | .tmp a, .tmp b => decide (a = b)
  | _, _ => false
theorem sameOp_eq {x y : Operand} (h : sameOp x y = true) : x = y := by
  unfold sameOp at h; split at h
  · rw [of_decide_eq_true h]
  · cases h
/-- The operation told as above; what the types say is looked up once. -/
def comp (P : Program) (o : Oper) : Option M :=
  match o.op with
  | .select _ _ => none
  | .move x => some (.mv x)
  | .assign x => some (.mv x)
  | .pick c a b => some (.pick c a b)
  | .nilCheck x => some (.nilc x)
  | .fieldAddr t x f =>
    match P.underlying t with
    | some (.struct fs) =>
      match fs[f]? with
      | some fd =>
        match P.info? fd.type with
        | some i => if i.size = 0 then none else some (.fa fd.offset x)
        | none => none
      | none => none
    | _ => none
  | .field t x f =>
    match P.underlying t with
    | some (.struct fs) =>
      match fs[f]? with
      | some fd =>
        match P.underlying fd.type, P.info? fd.type with
        | some (.struct _), some i => some (.fld (some i.size) fd.offset x)
        | some (.array _ _), _ => none
        | some _, _ => some (.fld none fd.offset x)
        | none, _ => none
      | none => none
    | _ => none
  | .indexAddr t x ix =>
    match P.underlying t with
    | some (.slice e) => (P.info? e).map fun i => .ia i.size x ix
    | some (.array n e) => (P.info? e).map fun i => .fnl (.aix n i.size) [x, ix]
    | _ => none
  | .binOp op t x y yt =>
    match P.underlying t with
    | some (.int _) => some (.bin op x y)
    | some .string => match op with
      | .eql | .neq | .add => some (.bin op x y)
      | _ => some (.raw (.binOp op t x y yt) o.type)
    | some (.struct _) => if P.eqGuardType P.depth t = false then (lk P 20 t).bind fun ks => match op with
      | .eql => some (.eqa false ks x y)
      | .neq => some (.eqa true ks x y)
      | _ => none
      else none
    | some .bool => match op with
      | .eql => some (.eqs false .bool x y)
      | .neq => some (.eqs true .bool x y)
      | _ => none
    | some (.pointer _) => match op with
      | .eql => some (.eqs false .ptr x y)
      | .neq => some (.eqs true .ptr x y)
      | _ => none
    | some (.slice _) => match op with
      | .eql => some (.eqs false .slice x y)
      | .neq => some (.eqs true .slice x y)
      | _ => none
    | some (.interface _) => match op, y with
      | .eql, .const .nilIface => some (.fnl (.ifn false) [x])
      | .neq, .const .nilIface => some (.fnl (.ifn true) [x])
      | _, _ => some (.raw (.binOp op t x y yt) o.type)
    | _ => some (.raw (.binOp op t x y yt) o.type)
  | .unOp .not _ x => some (.nt x)
  | .extract x i => some (.ext i x)
  | .alloc t => (P.info? t).bind fun i => i.zero.map fun z => .new t (cl z)
  | .box t x => some (.box t x)
  | .build t ps =>
    match P.info? t, P.underlying t with
    | some i, some (.struct fs) => (i.zero).bind fun z => (places P fs.toList).bind fun pl => (partsAt pl ps.toList).map fun q => .bld (cl z) q
    | some i, some (.array _ e) => if ps.toList = [] ∧ (P.info? e).isSome = true then (i.zero).map fun z => .bld (cl z) [] else none
    | _, _ => none
  | .buildSlice t l ps =>
    match P.underlying t with
    | some (.slice e) =>
      match P.info? e with
      | some i => match i.zero with
        | some z => if l * i.size ≤ 1000 ∧ (cl z).length = i.size ∧ 0 < i.size then some (.lit e l i.size ((List.range (l * i.size)).map fun j => (cl z)[j % i.size]?.getD default) (ps.toList.map fun p => (p.1 * i.size, i.size, p.2))) else none
        | none => none
      | none => none
    | _ => none
  | .load t x =>
    match P.underlying t, P.info? t with
    | some (.struct _), some i => some (.ld (some i.size) x)
    | some (.array _ _), _ => none
    | some _, _ => some (.ld none x)
    | none, _ => none
  | .store t a x => (P.info? t).map fun i => .st i.size a x
  | .call { callee := .value (.func f), args, .. } =>
    match P.funcs[f]? with
    | some fn => if fn.name == "runtime.NumGoroutine" || fn.body.isNone then none else some (.call f args.toList)
    | none => none
  | .call { callee := .value (.tmp t), args, .. } => some (.callv (.tmp t) args.toList)
  | .call { callee := .builtin .len, args, argTypes } =>
    match args.toList, argTypes.toList with
    | [x], [t] => match P.underlying t with
      | some .string => some (.len false x)
      | some (.slice _) => some (.len true x)
      | some (.map _ _) => match mapKey P t with
        | some _ => some (.look .size undef x (.const undef))
        | none => none
      | _ => none
    | _, _ => none
  | .convert src dst x =>
    match P.underlying src, P.underlying dst with
    | some (.int _), some (.int k) => some (.conv k x)
    | some (.int _), some .string => some (.fnl .rune [x])
    | some (.slice e), some .string => match P.underlying e with
      | some (.int .u8) => some (.bys x)
      | _ => some (.raw (.convert src dst x) o.type)
    | _, _ => some (.raw (.convert src dst x) o.type)
  | .slice t x lo hi mx =>
    match P.underlying t, lo, hi, mx with
    | some .string, some i, some j, none => some (.fnl .sls [x, i, j])
    | some (.slice e), some i, none, none => (P.info? e).map fun inf => .fnl (.sll inf.size) [x, i]
    | some (.slice e), none, some j, none => (P.info? e).map fun inf => .fnl (.slh inf.size) [x, j]
    | _, _, _, _ => some (.raw (.slice t x lo hi mx) o.type)
  | .index t x i =>
    match P.underlying t with
    | some .string => some (.ixs x i)
    | _ => some (.raw (.index t x i) o.type)
  | .call { callee := .builtin .max, args, argTypes } =>
    match args.toList with
    | [x, y] => some (.mx true x y)
    | _ => some (.raw (.call { callee := .builtin .max, args := args, argTypes := argTypes }) o.type)
  | .call { callee := .builtin .min, args, argTypes } =>
    match args.toList with
    | [x, y] => some (.mx false x y)
    | _ => some (.raw (.call { callee := .builtin .min, args := args, argTypes := argTypes }) o.type)
  | .call { callee := .builtin .append, args, argTypes } =>
    match args.toList, argTypes.toList with
    | [x, y], [t, u] =>
      if t = u then
        match P.underlying t with
        | some (.slice e) =>
          match P.info? e with
          | some i =>
            match i.zero with
            | some z => if z.cells.size = i.size ∧ 0 < i.size then some (.app e i.size i.bytes x y) else none
            | none => none
          | none => none
        | _ => none
      else none
    | _, _ => none
  | .makeMap t none =>
    match mapKey P t with
    | some (num, _) => some (.mkmap num)
    | none => some (.raw (.makeMap t none) o.type)
  | .makeSlice t l c =>
    match P.underlying t, sameOp l c with
    | some (.slice e), true =>
      match P.info? e with
      | some i => match i.zero with
        | some z => if z.cells.size = i.size ∧ 0 < i.size then some (.mks e i.size i.bytes (cl z) l) else some (.raw (.makeSlice t l c) o.type)
        | none => some (.raw (.makeSlice t l c) o.type)
      | none => some (.raw (.makeSlice t l c) o.type)
    | _, _ => some (.raw (.makeSlice t l c) o.type)
  | .lookup t x i ok =>
    match mapKey P t with
    | some (num, e) => (P.info? e).bind fun inf => inf.zero.map fun z => .look (.get num ok) z x i
    | none => some (.raw (.lookup t x i ok) o.type)
  | .mapUpdate t x i v =>
    match mapKey P t with
    | some (num, _) => some (.mset (.put num) x i v)
    | none => some (.raw (.mapUpdate t x i v) o.type)
  | .call { callee := .builtin .delete, args, argTypes } =>
    match args.toList, argTypes.toList with
    | [x, i], [t, _] => match mapKey P t with
      | some (num, _) => some (.mset (.del num) x i (.const undef))
      | none => some (.raw (.call { callee := .builtin .delete, args := args, argTypes := argTypes }) o.type)
    | _, _ => some (.raw (.call { callee := .builtin .delete, args := args, argTypes := argTypes }) o.type)
  | .call { callee := .builtin .clear, args, argTypes } =>
    match args.toList, argTypes.toList with
    | [x], [t] => match mapKey P t with
      | some _ => some (.mset .clr x (.const undef) (.const undef))
      | none => some (.raw (.call { callee := .builtin .clear, args := args, argTypes := argTypes }) o.type)
    | _, _ => some (.raw (.call { callee := .builtin .clear, args := args, argTypes := argTypes }) o.type)
  | .makeFunc (.func f) first captured => if first = #[] then some (.fnl (.clo f) captured.toList) else some (.raw (.makeFunc (.func f) first captured) o.type)
  | op => some (.raw op o.type)
variable {P : Program}
theorem lf_sls {u v x r : Value} (h : lf .sls [u, v, x] = some r) : ∃ b k i k' j, u = .string b ∧ v = .int k i ∧ x = .int k' j ∧ (0 ≤ i ∧ i ≤ j ∧ j ≤ b.size) ∧ r = .string (b.extract i.toNat j.toNat) := by
  have h : slsv u v x = some r := h
  unfold slsv at h
  split at h
  · rename_i b k i k' j
    split at h
    · rename_i hc; cases h; exact ⟨_, _, _, _, _, rfl, rfl, rfl, hc, rfl⟩
    · cases h
  · cases h
theorem lf_sll {sz : Nat} {u v r : Value} (h : lf (.sll sz) [u, v] = some r) : ∃ a n c k i, u = .slice a n c ∧ v = .int k i ∧ (0 ≤ i ∧ i ≤ n) ∧ r = sliced a i.toNat n c sz := by
  have h : sllv sz u v = some r := h
  unfold sllv at h
  split at h
  · rename_i a n c k i
    split at h
    · rename_i hc; cases h; exact ⟨_, _, _, _, _, rfl, rfl, hc, rfl⟩
    · cases h
  · cases h
theorem lf_slh {sz : Nat} {u v r : Value} (h : lf (.slh sz) [u, v] = some r) : ∃ a n c k j, u = .slice a n c ∧ v = .int k j ∧ (0 ≤ j ∧ j ≤ c) ∧ r = sliced a 0 j.toNat c sz := by
  have h : slhv sz u v = some r := h
  unfold slhv at h
  split at h
  · rename_i a n c k i
    split at h
    · rename_i hc; cases h; exact ⟨_, _, _, _, _, rfl, rfl, hc, rfl⟩
    · cases h
  · cases h
theorem lf_rune {u r : Value} (h : lf .rune [u] = some r) : ∃ k i, u = .int k i ∧ r = .string (Utf8.encode i) := by
  have h : runev u = some r := h
  unfold runev at h
  split at h
  · cases h; exact ⟨_, _, rfl, rfl⟩
  · cases h
theorem u8s_map : ∀ {vs : List Value} {ys : List Int}, u8s vs = some ys → vs = ys.map (Value.int .u8)
  | [], ys, h => by simp only [u8s, Option.some.injEq] at h; subst h; rfl
  | v :: r, ys, h => by
    unfold u8s at h
    split at h
    · rename_i e; cases e
    · rename_i x r' e
      cases e
      simp only [Option.map_eq_some_iff] at h
      obtain ⟨zs, hz, rfl⟩ := h
      rw [List.map_cons, ← u8s_map hz]
    · cases h
theorem same_ne {k x : ByteArray} (h : k ≠ x) : (k == x) = false := by
  cases h2 : (k == x)
  · rfl
  · exact absurd ((MapKept.bytes_beq _ _).1 h2) h
/-- Keys of one kind. -/
structure KeyKind {κ : Type} [DecidableEq κ] (enc : κ → Value) (d : TypeDesc) : Prop where
  same : ∀ a b, Instr.sameNow d (enc a) (enc b) = some (decide (a = b))
  isKey : ∀ a, MapKept.IsKey d (enc a)
theorem key_str : KeyKind Value.string .string := ⟨fun a b => by
  by_cases e : a = b
  · subst e; simp [Instr.sameNow, (MapKept.bytes_beq a a).2 rfl]
  · simp [Instr.sameNow, same_ne e, e], fun _ => trivial⟩
theorem key_int : KeyKind (Value.int .i64) (.int .i64) := ⟨fun a b => by
  by_cases e : a = b
  · simp [Instr.sameNow, e]
  · simp [Instr.sameNow, e], fun _ => rfl⟩
theorem find_kv {κ : Type} [DecidableEq κ] {enc : κ → Value} {d : TypeDesc} (hk : KeyKind enc d) (k : κ) (v' : Value) : ∀ (es : List MapEntry) (l : List (κ × Value)) (i : Nat), es.map (fun e => (e.key, e.val)) = l.map (fun p => (enc p.1, p.2)) →
    (mget l k = none ∧ Instr.findNow d (enc k) es i = some none ∧ mput l k v' = l ++ [(k, v')] ∧ mdel l k = l) ∨
    ∃ j v, mget l k = some v ∧ Instr.findNow d (enc k) es i = some (some (i + j, v)) ∧ (es[j]?).map (·.key) = some (enc k) ∧
      (es.modify j (fun e => { e with key := enc k, val := v' })).map (fun e => (e.key, e.val)) = (mput l k v').map (fun p => (enc p.1, p.2)) ∧
      (es.eraseIdx j).map (fun e => (e.key, e.val)) = (mdel l k).map (fun p => (enc p.1, p.2))
  | [], [], i, _ => .inl ⟨rfl, rfl, rfl, rfl⟩
  | [], p :: r, i, h => by simp at h
  | e :: es, [], i, h => by simp at h
  | e :: es, p :: r, i, h => by
    simp only [List.map_cons, List.cons.injEq, Prod.mk.injEq] at h
    obtain ⟨⟨h1, h2⟩, h3⟩ := h
    by_cases hkp : k = p.1
    · right
      refine ⟨0, p.2, by simp [mget, hkp], ?_, by simp [h1, hkp], ?_, ?_⟩
      · simp only [Instr.findNow, h1, hk.same, hkp, decide_true, h2, Nat.add_zero]
      · simp [mput, hkp, h3]
      · simp [mdel, hkp, h3]
    · rcases find_kv hk k v' es r (i + 1) h3 with ⟨a1, a2, a3, a4⟩ | ⟨j, v, a1, a2, a3, a4, a5⟩
      · refine .inl ⟨by simp [mget, hkp, a1], ?_, by simp [mput, hkp, a3], by simp [mdel, hkp, a4]⟩
        simp only [Instr.findNow, h1, hk.same, decide_eq_false hkp, a2]
      · refine .inr ⟨j + 1, v, by simp [mget, hkp, a1], ?_, by simpa using a3, ?_, ?_⟩
        · simp only [Instr.findNow, h1, hk.same, decide_eq_false hkp, a2]
          rw [show i + 1 + j = i + (j + 1) by omega]
        · simp only [List.modify_succ_cons, List.map_cons, a4, mput, if_neg hkp, h1, h2]
        · simp only [List.eraseIdx_cons_succ, List.map_cons, a5, mdel, if_neg hkp, h1, h2]
theorem born_modify {es : List MapEntry} {j : Nat} {k v : Value} (h : es.Pairwise (fun a b => a.born < b.born)) : (es.modify j (fun e => { e with key := k, val := v })).Pairwise (fun a b => a.born < b.born) := by
  induction es generalizing j with
  | nil => cases j <;> exact List.Pairwise.nil
  | cons x r ih =>
    obtain ⟨h1, h2⟩ := List.pairwise_cons.1 h
    cases j with
    | zero => exact List.pairwise_cons.2 ⟨fun a ha => h1 a ha, h2⟩
    | succ j =>
      rw [List.modify_succ_cons]
      refine List.pairwise_cons.2 ⟨fun a ha => ?_, ih h2⟩
      obtain ⟨i, hi⟩ := List.getElem?_of_mem ha
      rw [List.getElem?_modify] at hi
      cases hr : r[i]? with
      | none => rw [hr] at hi; cases hi
      | some y =>
        rw [hr] at hi
        have hy := h1 y (List.mem_of_getElem? hr)
        simp only [Option.map_eq_map, Option.map_some, Option.some.injEq] at hi
        subst hi
        split <;> exact hy
theorem clock_modify {es : List MapEntry} {j c : Nat} {k v : Value} (h : ∀ e ∈ es, e.born < c) : ∀ e ∈ es.modify j (fun e => { e with key := k, val := v }), e.born < c := by
  intro a ha
  obtain ⟨i, hi⟩ := List.getElem?_of_mem ha
  rw [List.getElem?_modify] at hi
  cases hr : es[i]? with
  | none => rw [hr] at hi; cases hi
  | some y =>
    rw [hr] at hi
    have hy := h y (List.mem_of_getElem? hr)
    simp only [Option.map_eq_map, Option.map_some, Option.some.injEq] at hi
    subst hi
    split <;> exact hy
section
variable {κ : Type} [DecidableEq κ] {enc : κ → Value} {d : TypeDesc}
theorem look_run (hK : KeyKind enc d) {w : World} {t kt e : TypeId} {z : Value} {b : Nat} {l : List (κ × Value)} {es : Array MapEntry} {c : Nat} (ht : P.underlying t = some (.map kt e)) (hk : P.underlying kt = some d) (hz : ∀ w, (zeroValue e).run P w = .ok z w) (hb : w.heap[b]? = some (.map es c)) (hE : Ents enc l es c) (k : κ) (ok : Bool) :
    (Instr.lookup t (.map (some b)) (enc k) ok).run P w = .ok (lookv ok z (mget l k)) w := by
  have hc : ∀ em, (Instr.checkKey em 10000 kt (enc k)).run P w = .ok () w := fun em => MapKept.run_checkKey hk (hK.isKey k) em 9999
  unfold Instr.lookup
  simp only [Sem.run_bind, run_underlying ht, Result.andThen_ok, MapKept.run_getObj_map hb, Sem.run_pure, hc]
  rcases find_kv hK k .nilIface es.toList l 0 hE.kv with ⟨h1, h2, _⟩ | ⟨j, v, h1, h2, _⟩
  · rw [MapKept.run_findKey hk h2, h1]
    cases ok <;> simp [Sem.run_bind, hz, lookv]
  · rw [MapKept.run_findKey hk h2, h1]
    cases ok <;> simp [Sem.run_bind, lookv]
theorem mset_run (hK : KeyKind enc d) {w : World} {t kt e : TypeId} {b : Nat} {l : List (κ × Value)} {es : Array MapEntry} {c : Nat} (ht : P.underlying t = some (.map kt e)) (hk : P.underlying kt = some d) (hb : w.heap[b]? = some (.map es c)) (hE : Ents enc l es c) (k : κ) (v : Value) :
    ∃ es' c', (Instr.mapUpdate t (.map (some b)) (enc k) v).run P w = .ok () { w with heap := w.heap.setIfInBounds b (.map es' c') } ∧ Ents enc (mput l k v) es' c' := by
  have hc : ∀ em, (Instr.checkKey em 10000 kt (enc k)).run P w = .ok () w := fun em => MapKept.run_checkKey hk (hK.isKey k) em 9999
  unfold Instr.mapUpdate
  simp only [Sem.run_bind, run_underlying ht, Result.andThen_ok, MapKept.run_getObj_map hb, Sem.run_pure, hc]
  rcases find_kv hK k v es.toList l 0 hE.kv with ⟨h1, h2, h3, _⟩ | ⟨j, v0, h1, h2, h3, h4, _⟩
  · rw [MapKept.run_findKey hk h2]
    simp only [Result.andThen_ok, MapKept.run_setObj_map _ hb]
    refine ⟨_, _, rfl, ?_, ?_, ?_⟩
    · rw [h3]; simp [hE.kv]
    · rw [Array.toList_push, List.pairwise_append]
      exact ⟨hE.born, List.pairwise_singleton _ _, fun a ha x hx => by rw [List.mem_singleton] at hx; subst hx; exact hE.clock a ha⟩
    · intro x hx
      rw [Array.toList_push] at hx
      rcases List.mem_append.1 hx with hx | hx
      · have := hE.clock x hx; omega
      · rw [List.mem_singleton] at hx; subst hx; exact Nat.lt_succ_self _
  · rw [MapKept.run_findKey hk h2]
    have hkey : (((es[0 + j]?).map (·.key)).getD (enc k)) = enc k := by
      rw [Nat.zero_add, ← Array.getElem?_toList, h3]; rfl
    have hst : (Instr.keyThatStays (enc k) (enc k)).run P w = .ok (enc k) w := MapKept.run_keyThatStays (d := d) (hK.isKey k)
    simp only [Result.andThen_ok, hkey, Sem.run_bind, hst, MapKept.run_setObj_map _ hb]
    refine ⟨_, _, rfl, ?_, ?_, ?_⟩
    · rw [Array.toList_modify, Nat.zero_add]; exact h4
    · rw [Array.toList_modify]
      exact born_modify hE.born
    · rw [Array.toList_modify]
      exact clock_modify hE.clock
theorem mdel_run (hK : KeyKind enc d) {w : World} {t kt e : TypeId} {b : Nat} {l : List (κ × Value)} {es : Array MapEntry} {c : Nat} {ts : Array TypeId} {ty : TypeId} (hts : ts[0]? = some t) (ht : P.underlying t = some (.map kt e)) (hk : P.underlying kt = some d) (hb : w.heap[b]? = some (.map es c)) (hE : Ents enc l es c) (k : κ) :
    ∃ es' c', (Builtin.delete_ ts ty #[.map (some b), enc k]).run P w = .ok (.tuple #[]) { w with heap := w.heap.setIfInBounds b (.map es' c') } ∧ Ents enc (mdel l k) es' c' := by
  have hc : ∀ em, (Instr.checkKey em 10000 kt (enc k)).run P w = .ok () w := fun em => MapKept.run_checkKey hk (hK.isKey k) em 9999
  unfold Builtin.delete_
  simp only [hts, List.getElem?_toArray, List.getElem?_cons_zero, List.getElem?_cons_succ, Sem.run_bind, run_underlying ht, Result.andThen_ok, MapKept.run_getObj_map hb, Sem.run_pure, hc]
  rcases find_kv hK k .nilIface es.toList l 0 hE.kv with ⟨h1, h2, _, h3⟩ | ⟨j, v0, h1, h2, h3, _, h4⟩
  · rw [MapKept.run_findKey hk h2]
    simp only [Result.andThen_ok, Sem.run_bind, MapKept.run_setObj_map _ hb, Sem.run_pure]
    exact ⟨_, _, rfl, by rw [h3]; exact hE⟩
  · rw [MapKept.run_findKey hk h2]
    simp only [Result.andThen_ok, Sem.run_bind, MapKept.run_setObj_map _ hb, Sem.run_pure]
    have e : (es.eraseIdxIfInBounds (0 + j)).toList = es.toList.eraseIdx j := by
      rw [Nat.zero_add, Array.toList_eraseIdxIfInBounds]
    refine ⟨_, _, rfl, by rw [e]; exact h4, by rw [e]; exact hE.born.sublist (List.eraseIdx_sublist _ _), fun x hx => ?_⟩
    rw [e] at hx
    exact hE.clock x ((List.eraseIdx_sublist _ _).subset hx)
end
theorem ml_elim {σ : Hp} {b : Nat} {l : List (ByteArray × Value)} (h : ml σ b = some l) : σ b = some (.mp l) := by
  unfold ml at h
  split at h
  · rename_i hb; cases h; exact hb
  · cases h
theorem one_eq (v : Value) : one v = v.oneCell' := by cases v <;> rfl
theorem addr_add (b off j : Nat) : (⟨b, off, none⟩ : Addr).add j = ⟨b, off + j, none⟩ := by
  unfold Addr.add; split
  · rename_i h; subst h; rfl
  · rfl
theorem cell_of_cells {w : World} {b : Nat} {cs : List Value} {t : TypeId} (h : w.heap[b]? = some (.cells cs.toArray t (0, 0))) (j : Nat) : w.cell? ⟨b, j, none⟩ = cs[j]? := by
  simp [World.cell?, h]
theorem rd_cell {σ : Hp} {w : World} (hs : Sat σ w) {b off : Nat} {v : Value} (h : rd σ b off = some v) : w.cell? ⟨b, off, none⟩ = some v := by
  unfold rd at h
  cases hb : σ b with
  | none => rw [hb] at h; cases h
  | some o =>
    rw [hb] at h
    have ha := hs b o hb
    cases o with
    | cells cs t => rw [cell_of_cells ha]; exact h
    | row cs room t =>
      obtain ⟨rest, hl, ha⟩ := ha
      rw [cell_of_cells ha]
      have h : cs[off]? = some v := h
      have hlt := (List.getElem?_eq_some_iff.mp h).1
      rw [List.getElem?_append_left hlt]; exact h
    | dead => cases h
    | ro x =>
      have ha : w.heap[b]? = some x := ha
      cases x with
      | cells cs t fr =>
        have h : cs.toList[off]? = some v := h
        simpa [World.cell?, ha] using h
      | _ => cases h
    | mp l => cases h
    | im l => cases h
theorem seg_get {cs vs : List Value} {off n : Nat} (h : seg cs off n = some vs) : vs.length = n ∧ ∀ j v, vs[j]? = some v → cs[off + j]? = some v := by
  unfold seg at h
  split at h
  · rename_i hle
    cases h
    refine ⟨by simp; omega, fun j v hv => ?_⟩
    have hlt := (List.getElem?_eq_some_iff.mp hv).1
    simp at hlt
    rw [List.getElem?_take_of_lt (by omega), List.getElem?_drop] at hv
    exact hv
  · cases h
theorem rdn_cells {σ : Hp} {w : World} (hs : Sat σ w) {b off n : Nat} {vs : List Value} (h : rdn σ b off n = some vs) : vs.length = n ∧ ∀ j v, vs[j]? = some v → w.cell? ((⟨b, off, none⟩ : Addr).add j) = some v := by
  unfold rdn at h
  cases hb : σ b with
  | none => rw [hb] at h; cases h
  | some o =>
    rw [hb] at h
    have ha := hs b o hb
    cases o with
    | cells cs t =>
      obtain ⟨hl, hg⟩ := seg_get (cs := cs) h
      refine ⟨hl, fun j v hv => ?_⟩
      rw [addr_add, cell_of_cells ha]; exact hg j v hv
    | row cs room t =>
      obtain ⟨hl, hg⟩ := seg_get (cs := cs) h
      obtain ⟨rest, _, ha⟩ := ha
      refine ⟨hl, fun j v hv => ?_⟩
      have := hg j v hv
      rw [addr_add, cell_of_cells ha, List.getElem?_append_left (List.getElem?_eq_some_iff.mp this).1]; exact this
    | dead => cases h
    | ro x =>
      have ha : w.heap[b]? = some x := ha
      cases x with
      | cells cs t fr =>
        obtain ⟨hl, hg⟩ := seg_get (cs := cs.toList) h
        refine ⟨hl, fun j v hv => ?_⟩
        have := hg j v hv
        rw [addr_add]
        simpa [World.cell?, ha] using this
      | _ => cases h
    | mp l => cases h
    | im l => cases h
theorem wp_of_run {o : Oper} {a : Act} {w w' : World} {v : Value} {next : Act → World → Prop} {Q : Exit → Act → World → Prop} (h : (execOp a.eval o).run P w = .ok (.value v) w') (hn : next (a.put o.dst v) w') : o.wp P a w next Q := by
  unfold Oper.wp; rw [h]; exact hn
theorem wp_of_skip {o : Oper} {a : Act} {w w' : World} {next : Act → World → Prop} {Q : Exit → Act → World → Prop} (h : (execOp a.eval o).run P w = .ok .skip w') (hn : next (a.put o.dst undef) w') : o.wp P a w next Q := by
  unfold Oper.wp; rw [h]; exact hn
theorem exec_ev {n : Nat} {a : Act} {s : Sl} (hr : Rel n a s) {o : Oper} (hs : ∀ cs b, o.op ≠ .select cs b) (hin : ∀ x ∈ o.op.operands, inR n x = true) : execOp a.eval o = execOp (ev s) o :=
  execOp_congr o hs fun x hx => hr.ev (hin x hx)
theorem setRow_put {w : World} {g : Nat} {old cs : Array Value} {t : TypeId} (h : w.heap[g]? = some (.cells old t (0, 0))) : w.setRow g cs = World.put w g (.cells cs t (0, 0)) := by
  have hlt : g < w.heap.size := (Array.getElem?_eq_some_iff.1 h).1
  unfold World.setRow World.put
  congr 1
  apply Array.ext_getElem?
  intro i
  rw [Array.getElem?_modify, Array.getElem?_setIfInBounds]
  by_cases e : g = i
  · subst e; rw [if_pos rfl, if_pos rfl, if_pos hlt, h]; rfl
  · rw [if_neg e, if_neg e]
theorem alloc_push (w : World) (o : Obj) : w.alloc o = World.push w o := rfl
theorem splice_arr {cs vs : List Value} {off : Nat} : (cs.toArray.toList.take (off + 0) ++ vs ++ cs.toArray.toList.drop (off + 0 + vs.length)).toArray = (splice cs off vs).toArray := by simp [splice]
theorem splice_len {cs vs : List Value} {off : Nat} (h : off + vs.length ≤ cs.length) : (splice cs off vs).length = cs.length := by
  simp [splice]; omega
theorem splice_app {cs vs rest : List Value} {off : Nat} (h : off + vs.length ≤ cs.length) : splice (cs ++ rest) off vs = splice cs off vs ++ rest := by
  unfold splice
  rw [List.take_append_of_le_length (by omega), List.drop_append_of_le_length (by omega)]
  simp
/-- A store. -/
theorem wr_run {σ σ' : Hp} {w : World} (hs : Sat σ w) {b off : Nat} {vs : List Value} (h1 : vs.all one = true) (h : wr σ b off vs = some σ') :
    ∃ w', (storeCells ⟨b, off, none⟩ vs).run P w = .ok () w' ∧ Sat σ' w' ∧ ∀ w0 σ0, Fr w0 w σ0 σ → Fr w0 w' σ0 σ' := by
  have h1' : ∀ v ∈ vs, v.oneCell' = true := fun v hv => by rw [← one_eq]; exact List.all_eq_true.1 h1 v hv
  unfold wr at h
  cases hb : σ b with
  | none => rw [hb] at h; cases h
  | some o =>
    rw [hb] at h
    have ha := hs b o hb
    cases o with
    | cells cs t =>
      have h : (if off + vs.length ≤ cs.length then some (upd σ b (.cells (splice cs off vs) t)) else none) = some σ' := h
      split at h
      · rename_i hle
        cases h
        have hr := run_storeCells_at P b off t vs 0 cs.toArray w ha (by simpa using hle) h1'
        rw [splice_arr, setRow_put ha] at hr
        exact ⟨_, hr, hs.put (hs.lt (by rw [hb]; simp)) _ _ rfl, fun w0 σ0 hf => hf.put (by rw [hb]; simp) _ _⟩
      · cases h
    | row cs room t =>
      have h : (if off + vs.length ≤ cs.length then some (upd σ b (.row (splice cs off vs) room t)) else none) = some σ' := h
      split at h
      · rename_i hle
        cases h
        obtain ⟨rest, hl, ha⟩ := ha
        have hr := run_storeCells_at P b off t vs 0 (cs ++ rest).toArray w ha (by simp; omega) h1'
        rw [splice_arr, splice_app hle, setRow_put ha] at hr
        exact ⟨_, hr, hs.put (hs.lt (by rw [hb]; simp)) _ _ ⟨rest, by rw [splice_len hle]; exact hl, rfl⟩, fun w0 σ0 hf => hf.put (by rw [hb]; simp) _ _⟩
      · cases h
    | dead => cases h
    | ro x => cases h
    | mp l => cases h
    | im l => cases h
theorem loadVar_one {t : TypeId} {d : TypeDesc} (hu : P.underlying t = some d) (hd : ∀ fs, d ≠ .struct fs) (hd' : ∀ n e, d ≠ .array n e) {a : Addr} {w : World} {v : Value} (hc : w.cell? a = some v) :
    (loadVar t a).run P w = .ok v w := by
  have : (isAgg t).run P w = .ok false w := by
    unfold isAgg
    rw [Sem.run_bind, run_underlying hu]
    cases d with
    | struct fs => exact absurd rfl (hd fs)
    | array n e => exact absurd rfl (hd' n e)
    | _ => rfl
  simp [loadVar, this, run_load, hc]
theorem loadVar_agg {t : TypeId} {fs : Array Field} {i : TypeInfo} (hu : P.underlying t = some (.struct fs)) (hi : P.info? t = some i) {a : Addr} {w : World} {vs : List Value} (hl : vs.length = i.size)
    (hc : ∀ j v, vs[j]? = some v → w.cell? (a.add j) = some v) : (loadVar t a).run P w = .ok (.agg vs.toArray) w := by
  have : (isAgg t).run P w = .ok true w := by
    unfold isAgg
    rw [Sem.run_bind, run_underlying hu]
    rfl
  have hr := run_loadCells_list (P := P) w a vs hc
  rw [hl] at hr
  simp [loadVar, this, sizeOf, typeInfo, hi, hr]
theorem zc_len (z : Array Value) (n : Nat) : (Builtin.zeroCells z n).toList.length = n * z.size := by
  have := size_zeroCells z n
  rw [← Array.length_toList] at this; exact this
def mIn (n : Nat) (o : Oper) : Bool := o.op.operands.all (inR n)
theorem mIn_in {n : Nat} {o : Oper} (h : mIn n o = true) : ∀ x ∈ o.op.operands, inR n x = true := fun x hx => by
  have := (Array.all_eq_true'.1 h) x hx; exact this
theorem app_sound {n : Nat} {o : Oper} {E t : TypeId} {i : TypeInfo} {z : Value} {x y : Operand} (ho : o.op = .call { callee := .builtin .append, args := #[x, y], argTypes := #[t, t] })
    (ht : P.underlying t = some (.slice E)) (hi : P.info? E = some i) (hz : i.zero = some z) (hzs : z.cells.size = i.size) (_hsz : 0 < i.size)
    (hin : mIn n o = true) {a : Act} {s : Sl} {σ : Hp} {w : World} (hr : Rel n a s) (hs : Sat σ w) {K : Value → Hp → Prop} (h : mop P (.app E i.size i.bytes x y) K s σ) {next : Act → World → Prop} {Q : Exit → Act → World → Prop}
    (hk : ∀ v σ' w', K v σ' → Sat σ' w' → (∀ w0 σ0, Fr w0 w σ0 σ → Fr w0 w' σ0 σ') → next (a.put o.dst v) w') : o.wp P a w next Q := by
  have he : a.eval x = ev s x := hr.ev (mIn_in hin x (by rw [ho]; simp [Op.operands, Call.operands]))
  have hf : a.eval y = ev s y := hr.ev (mIn_in hin y (by rw [ho]; simp [Op.operands, Call.operands]))
  have hexec : ∀ r, (Builtin.append_ #[t, t] o.type #[ev s x, ev s y]).run P w = r → (execOp a.eval o).run P w = r.andThen fun v w => .ok (.value v) w := by
    intro r hr
    unfold execOp
    simp only [ho, resolve, invoke, builtin, Sem.run_bind, Sem.run_pure, Result.andThen_ok, List.map_toArray, List.map_cons, List.map_nil, he, hf, hr]
  rcases h with ⟨A0, m, c, hy, rfl, h⟩ | ⟨b, off, m, c, ys, hy, hrd, h1, h⟩
  · rcases h with ⟨hx, hK⟩ | ⟨g, n', cap, hx, hle, hK⟩
    · refine wp_of_run (v := .slice none 0 0) (w' := w) ?_ (hk _ _ _ hK hs (fun _ _ h => h))
      rw [hexec (.ok (.slice none 0 0) w)]
      · rfl
      · rw [hx, hy]; cases A0 <;> simp [Builtin.append_, run_underlying ht, sizeOf, typeInfo, hi, Builtin.lenOf, Builtin.firstCells, loadCells, loadCellsFrom]
    · refine wp_of_run (v := .slice (some ⟨g, 0, none⟩) n' cap) (w' := w) ?_ (hk _ _ _ hK hs (fun _ _ h => h))
      rw [hexec (.ok (.slice (some ⟨g, 0, none⟩) n' cap) w)]
      · rfl
      · rw [hx, hy]; cases A0 <;> simp [Builtin.append_, run_underlying ht, sizeOf, typeInfo, hi, Builtin.lenOf, Builtin.firstCells, hle, storeCells, loadCells, loadCellsFrom]
  · obtain ⟨hl, hnews⟩ := rdn_cells hs hrd
    have h1' : ∀ v ∈ ys, v.oneCell' = true := fun v hv => by rw [← one_eq]; exact List.all_eq_true.1 h1 v hv
    rcases h with ⟨rfl, hx, hK⟩ | ⟨hm, hx, hb, h63, hK⟩ | ⟨g, n', cap, xs, hx, hg, hxl, hle, hb, h63, hK⟩
    · refine wp_of_run (v := .slice none 0 0) (w' := w) ?_ (hk _ _ _ hK hs (fun _ _ h => h))
      rw [hexec (.ok (.slice none 0 0) w)]
      · rfl
      · rw [hx, hy]; simp [Builtin.append_, run_underlying ht, sizeOf, typeInfo, hi, Builtin.lenOf, Builtin.firstCells, loadCells, loadCellsFrom]
    · unfold maxLen at h63
      have hrun := run_append_nil (P := P) w t o.type E i z ht hi hz ⟨b, off, none⟩ m c ys hl hnews hm (by omega) (by omega)
      rw [← hx, ← hy] at hrun
      refine wp_of_run (v := .slice (some ⟨w.heap.size, 0, none⟩) m (grownCap w m 0 E)) (w' := w.drew.alloc (.cells (ys.toArray ++ Builtin.zeroCells z.cells (grownCap w m 0 E - m)) E)) ?_ ?_
      · rw [hexec _ hrun]; rfl
      · have hge := grownCap_ge w m 0 E
        have hsat : Sat (upd σ w.heap.size (.row ys (grownCap w m 0 E * i.size) E)) (World.push w.drew (.cells (ys.toArray ++ Builtin.zeroCells z.cells (grownCap w m 0 E - m)) E)) := by
          refine Sat.push (w := w.drew) (hs.drew _) _ _ ⟨(Builtin.zeroCells z.cells (grownCap w m 0 E - m)).toList, ?_, ?_⟩
          · rw [zc_len, hzs, hl, ← Nat.add_mul]; congr 1; omega
          · congr 2; apply Array.ext'; simp
        exact hk _ _ _ (hK _ _ (hs.none_of_le (Nat.le_refl _)) hge) hsat (fun w0 σ0 hf => (hf.drew _).push _ _)
    · have ha := hs g _ hg
      obtain ⟨rest, hrl, ha⟩ := ha
      unfold maxLen at h63
      by_cases hroom : n' + m ≤ cap
      · have hfit : n' * i.size + ys.length ≤ (xs ++ rest).toArray.size := by
          rw [hl, ← Nat.add_mul]; simp only [List.size_toArray, List.length_append, hrl]; exact Nat.mul_le_mul_right _ hroom
        have hrun := run_append_room (P := P) w t o.type E i ht hi g n' cap (xs ++ rest).toArray ha ⟨b, off, none⟩ m c ys hl hnews h1' hroom hfit
        rw [← hx, ← hy, setRow_put ha] at hrun
        have hcells : ((xs ++ rest).toArray.toList.take (n' * i.size) ++ ys ++ (xs ++ rest).toArray.toList.drop (n' * i.size + ys.length)) = (xs ++ ys) ++ rest.drop ys.length := by
          rw [← hxl]; simp [List.drop_append]
        rw [hcells] at hrun
        refine wp_of_run (v := .slice (some ⟨g, 0, none⟩) (n' + m) cap) (w' := World.put w g (.cells ((xs ++ ys) ++ rest.drop ys.length).toArray E)) ?_ ?_
        · rw [hexec _ hrun]; rfl
        · have hlt := hs.lt (b := g) (by rw [hg]; simp)
          have hsat : Sat (upd (upd σ g .dead) g (.row (xs ++ ys) (cap * i.size) E)) (World.put w g (.cells ((xs ++ ys) ++ rest.drop ys.length).toArray E)) := by
            rw [upd_upd]
            refine hs.put hlt _ _ ⟨rest.drop ys.length, ?_, rfl⟩
            simp only [List.size_toArray, List.length_append] at hfit
            simp only [List.length_append, List.length_drop]; omega
          exact hk _ _ _ (hK _ _ (.inl rfl) hroom) hsat (fun w0 σ0 hf => by rw [upd_upd]; exact hf.put (by rw [hg]; simp) _ _)
      · have holds : ∀ j v, xs[j]? = some v → w.cell? ((⟨g, 0, none⟩ : Addr).add j) = some v := fun j v hv => by
          rw [addr_add, Nat.zero_add, cell_of_cells ha, List.getElem?_append_left (List.getElem?_eq_some_iff.mp hv).1]; exact hv
        have hrun := run_append_grow (P := P) w t o.type E i z ht hi hz ⟨g, 0, none⟩ n' cap xs hxl holds ⟨b, off, none⟩ m c ys hl hnews (by omega) (by omega) (growslice_fits (by omega) hb)
        rw [← hx, ← hy] at hrun
        have hge := grownCap_ge w (n' + m) cap E
        refine wp_of_run (v := .slice (some ⟨w.heap.size, 0, none⟩) (n' + m) (grownCap w (n' + m) cap E)) (w' := w.drew.alloc (.cells (xs.toArray ++ ys.toArray ++ Builtin.zeroCells z.cells (grownCap w (n' + m) cap E - (n' + m))) E)) ?_ ?_
        · rw [hexec _ hrun]; rfl
        · have hd : Sat (upd σ g .dead) w.drew := fun k o' hk => by
            by_cases e : k = g
            · subst e; rw [upd_same] at hk; cases hk; show (w.heap[k]?).isSome = true; rw [ha]; rfl
            · rw [upd_ne _ _ e] at hk; exact hs k o' hk
          have hsat : Sat (upd (upd σ g .dead) w.heap.size (.row (xs ++ ys) (grownCap w (n' + m) cap E * i.size) E)) (World.push w.drew (.cells (xs.toArray ++ ys.toArray ++ Builtin.zeroCells z.cells (grownCap w (n' + m) cap E - (n' + m))) E)) := by
            refine Sat.push (w := w.drew) hd _ _ ⟨(Builtin.zeroCells z.cells (grownCap w (n' + m) cap E - (n' + m))).toList, ?_, ?_⟩
            · rw [zc_len, hzs, List.length_append, hxl, hl, ← Nat.add_mul, ← Nat.add_mul]; congr 1; omega
            · congr 2; apply Array.ext'; simp
          refine hk _ _ _ (hK _ _ (.inr (hs.none_of_le (Nat.le_refl _))) hge) hsat (fun w0 σ0 hf => ?_)
          have hf' : Fr w0 w.drew σ0 (upd σ g .dead) := ⟨hf.os, hf.tape, hf.output, hf.size, hf.block, fun k hk hn => by
            have := hf.know k hk hn
            rw [upd_ne _ _ (fun e => by rw [e, hg] at this; cases this)]; exact this⟩
          exact hf'.push _ _
theorem exec_mk (ρ : Operand → Value) (o : Oper) : execOp ρ (mkO o.op o.type) = execOp ρ o := by
  obtain ⟨dst, op, type, pos, after, guard⟩ := o
  cases op <;> rfl
theorem set_splice : ∀ (l : List Value) (k off : Nat) (cs : List Value), off + k + l.length ≤ cs.length →
    ((l.zipIdx k).foldl (fun (a : Array Value) (p : Value × Nat) => a.setIfInBounds (off + p.2) p.1) cs.toArray) = (splice cs (off + k) l).toArray
  | [], k, off, cs, h => by simp [splice]
  | v :: l, k, off, cs, h => by
    simp only [List.length_cons] at h
    have ih := set_splice l (k + 1) off (cs.set (off + k) v) (by simp only [List.length_set]; omega)
    simp only [List.zipIdx_cons, List.foldl_cons, List.setIfInBounds_toArray]
    rw [ih]
    congr 1
    unfold splice
    have h1 : off + k < cs.length := by omega
    rw [show off + (k + 1) = off + k + 1 by omega, List.take_succ_eq_append_getElem (by simpa using h1), List.drop_set_of_lt (by omega)]
    simp [List.take_set_of_le, show off + k + 1 + l.length = off + k + (l.length + 1) by omega]
theorem fill_run {s : Sl} {place : Nat → Option (Nat × Nat)} : ∀ (ps : List (Nat × Operand)) (qs : List (Nat × Nat × Operand)),
    (ps.mapM fun p => (place p.1).map fun q => (q.1, q.2, p.2)) = some qs → ∀ (z cs : List Value), fillO s z qs = some cs → Instr.fill place z.toArray (ps.map fun p => (p.1, ev s p.2)) = some cs.toArray
  | [], qs, h, z, cs, hc => by
    simp only [List.mapM_nil, Option.pure_def, Option.some.injEq] at h
    subst h
    simp only [fillO, Option.some.injEq] at hc
    subst hc
    rfl
  | (i, x) :: ps, qs, h, z, cs, hc => by
    simp only [List.mapM_cons, Option.bind_eq_bind, Option.bind_eq_some_iff, Option.map_eq_some_iff, Option.pure_def, Option.some.injEq] at h
    obtain ⟨q, ⟨⟨off, sz⟩, hp, rfl⟩, qs', hq, rfl⟩ := h
    simp only [fillO] at hc
    split at hc
    · rename_i hcond
      obtain ⟨h1, h2⟩ := hcond
      have ih := fill_run (s := s) (place := place) ps qs' hq _ cs hc
      have hsz : (ev s x).cells.size = sz := by rw [← h1]; simp [cl]
      have hset := set_splice (cl (ev s x)) 0 off z (by simp only [Nat.add_zero]; rw [h1]; exact h2)
      simp only [Nat.add_zero] at hset
      have hfold : ((ev s x).cells.zipIdx.foldl (fun (cs : Array Value) (p : Value × Nat) => cs.setIfInBounds (off + p.2) p.1) z.toArray) = (splice z off (cl (ev s x))).toArray := by
        rw [← hset]
        unfold cl
        rw [← Array.foldl_toList, Array.toList_zipIdx]
      have hb : (decide ((ev s x).cells.size ≠ sz) || decide (off + (ev s x).cells.size > z.toArray.size)) = false := by
        rw [hsz]; simp; exact h2
      simp only [List.map_cons, Instr.fill, hp]
      have hgo : (if (ev s x).cells.size ≠ sz ∨ off + (ev s x).cells.size > z.toArray.size then none else some ()) = some () := by
        rw [if_neg]; rw [hsz]; simp; exact h2
      simp only [hb, Bool.false_eq_true, if_false]
      rw [show (fun (cs : Array Value) (x : Value × Nat) => match x with | (c, j) => cs.setIfInBounds (off + j) c) = (fun (cs : Array Value) (p : Value × Nat) => cs.setIfInBounds (off + p.2) p.1) from rfl, hfold]
      exact ih
    · cases hc
theorem fillO_len (s : Sl) : ∀ (ps : List (Nat × Nat × Operand)) (z cs : List Value), fillO s z ps = some cs → cs.length = z.length
  | [], z, cs, h => by simp only [fillO, Option.some.injEq] at h; rw [h]
  | (off, sz, x) :: r, z, cs, h => by
    simp only [fillO] at h
    split at h
    · rename_i hc
      rw [fillO_len s r _ cs h, splice_len (by rw [hc.1]; exact hc.2)]
    · cases h
theorem binv_run {t yt : TypeId} {op : BinOp} {x y : Operand} {u v r : Value} {w : World} (h : binv op u v = some r) : (do eqGuard op t x y u v; binOp op t u v : Sem Value).run P w = .ok r w := by
  unfold binv at h
  split at h
  all_goals (try (split at h))
  all_goals (try (split at h))
  all_goals first
    | (cases h; done)
    | (cases h; subst_vars; simp_all [eqGuard, binOp, Op.intArith, Op.intCmp, Op.intDiv, Op.intBits, Op.shift, Op.stringOp, IntKind.max, IntKind.signed, IntKind.bits] <;> (first | omega | (intro hh; omega)))
def EqK.ok (P : Program) (t : TypeId) : EqK → Prop
  | .bool => P.underlying t = some .bool
  | .ptr => ∃ e, P.underlying t = some (.pointer e)
  | .slice => ∃ e, P.underlying t = some (.slice e)
theorem eqL_len : ∀ {ks : List Lk} {as bs : List Value} {r : Bool}, eqL ks as bs = some r → as.length = ks.length ∧ bs.length = ks.length
  | [], [], [], _, _ => ⟨rfl, rfl⟩
  | k :: ks, a :: as, b :: bs, r, h => by
    simp only [eqL, Option.bind_eq_some_iff, Option.map_eq_some_iff] at h
    obtain ⟨x, _, y, hy, _⟩ := h
    have := eqL_len hy
    simp only [List.length_cons]; omega
  | [], _ :: _, _, _, h => by cases h
  | [], [], _ :: _, _, h => by cases h
  | _ :: _, [], _, _, h => by cases h
  | _ :: _, _ :: _, [], _, h => by cases h
theorem eqL_append : ∀ {k1 k2 : List Lk} {as bs : List Value} {r : Bool}, eqL (k1 ++ k2) as bs = some r → ∃ x y, eqL k1 (as.take k1.length) (bs.take k1.length) = some x ∧ eqL k2 (as.drop k1.length) (bs.drop k1.length) = some y ∧ r = (x && y)
  | [], k2, as, bs, r, h => ⟨true, r, rfl, h, by simp⟩
  | k :: k1, k2, [], bs, r, h => by cases h
  | k :: k1, k2, a :: as, [], r, h => by cases h
  | k :: k1, k2, a :: as, b :: bs, r, h => by
    simp only [List.cons_append, eqL, Option.bind_eq_some_iff, Option.map_eq_some_iff] at h
    obtain ⟨x, hx, y, hy, rfl⟩ := h
    obtain ⟨z, u, hz, hu, rfl⟩ := eqL_append hy
    exact ⟨x && z, u, by simp only [List.length_cons, List.take_succ_cons, eqL, hx, hz, Option.bind_some, Option.map_some], hu, by rw [Bool.and_assoc]⟩
/-- A value of a flat type out of its cells. -/
def ofC (P : Program) (t : TypeId) (cs : List Value) : Value :=
  match P.underlying t with
  | some (.struct _) => .agg cs.toArray
  | _ => cs.headD undef
theorem lk_one {d : Nat} {t : TypeId} {ks : List Lk} (h : lk P d t = some ks) : ∃ D, P.underlying t = some D ∧ (∀ n e, D ≠ .array n e) ∧ ((∀ fs, D ≠ .struct fs) → ks.length = 1) := by
  cases d with
  | zero => cases h
  | succ d =>
    unfold lk at h
    split at h
    · rename_i k hu; cases h; exact ⟨_, hu, (fun _ _ h => by cases h), (fun _ => rfl)⟩
    · rename_i hu; cases h; exact ⟨_, hu, (fun _ _ h => by cases h), (fun _ => rfl)⟩
    · rename_i hu; cases h; exact ⟨_, hu, (fun _ _ h => by cases h), (fun _ => rfl)⟩
    · rename_i fs hu; exact ⟨_, hu, (fun _ _ h => by cases h), (fun hh => absurd rfl (hh fs))⟩
    · cases h
theorem part_run {t : TypeId} {D : TypeDesc} {i : TypeInfo} (hu : P.underlying t = some D) (hi : P.info? t = some i) (hd : ∀ n e, D ≠ .array n e) (hne : (∀ fs, D ≠ .struct fs) → i.size = 1) {cs : List Value} {off : Nat} (hle : off + i.size ≤ cs.length) (hpos : 0 < i.size) {w : World} :
    (part t cs.toArray off).run P w = .ok (ofC P t ((cs.drop off).take i.size)) w := by
  unfold part
  cases D with
  | struct fs =>
    have ha : (isAgg t).run P w = .ok true w := by unfold isAgg; rw [Sem.run_bind, run_underlying hu]; rfl
    simp only [Sem.run_bind, ha, Result.andThen_ok, if_true, sizeOf, typeInfo, run_program, hi, Sem.run_pure, ofC, hu]
    congr 2
    apply Array.ext'
    simp [List.extract_eq_take_drop]
  | array n e => exact absurd rfl (hd n e)
  | _ =>
    have ha : (isAgg t).run P w = .ok false w := by unfold isAgg; rw [Sem.run_bind, run_underlying hu]; rfl
    have h1 : i.size = 1 := hne (fun fs h => by cases h)
    have hlt : off < cs.length := by omega
    simp only [Sem.run_bind, ha, Result.andThen_ok, Bool.false_eq_true, if_false, List.getElem?_toArray, List.getElem?_eq_getElem hlt, Sem.run_pure, ofC, hu, h1]
    congr 1
    rw [List.drop_eq_getElem_cons hlt]; rfl
theorem flat_fields {d D : Nat} (IH : ∀ (t : TypeId) (ks : List Lk), lk P d t = some ks → ∀ (cs ds : List Value) (r : Bool), eqL ks cs ds = some r → ∀ (w : World), (Op.equalIn D t (ofC P t cs) (ofC P t ds)).run P w = .ok r w) (cs ds : List Value) (w : World) :
    ∀ (fs : List Field) (o : Nat) (ks : List Lk), lkF P (lk P d) fs o = some ks → ∀ r, eqL ks (cs.drop o) (ds.drop o) = some r → (Op.eqFields D cs.toArray ds.toArray fs).run P w = .ok r w
  | [], o, ks, h, r, hr => by
    simp only [lkF, Option.some.injEq] at h
    subst h
    have : r = true := by
      cases h1 : cs.drop o <;> cases h2 : ds.drop o <;> rw [h1, h2] at hr <;> simp_all [eqL]
    subst this
    simp [Op.eqFields]
  | f :: fs, o, ks, h, r, hr => by
    simp only [lkF] at h
    split at h
    · rename_i hc
      obtain ⟨rfl, hn⟩ := hc
      split at h
      · rename_i k hk
        split at h
        · rename_i hs
          obtain ⟨hs, hpos⟩ := hs
          simp only [Option.map_eq_some_iff] at h
          obtain ⟨ks', hks', rfl⟩ := h
          obtain ⟨i, hi, hsz⟩ := Option.map_eq_some_iff.1 hs
          obtain ⟨x, y, hx, hy, rfl⟩ := eqL_append hr
          have hl := eqL_len hx
          simp only [List.length_take, List.length_drop] at hl
          obtain ⟨DD, hu, hna, h1⟩ := lk_one hk
          have hsz' : i.size = k.length := hsz
          have hpc := part_run (P := P) (cs := cs) (off := f.offset) hu hi hna (fun hh => by rw [hsz']; exact h1 hh) (by omega) (by omega) (w := w)
          have hpd := part_run (P := P) (cs := ds) (off := f.offset) hu hi hna (fun hh => by rw [hsz']; exact h1 hh) (by omega) (by omega) (w := w)
          have he := IH f.type k hk _ _ x hx w
          rw [hsz'] at hpc hpd
          simp only [Op.eqFields, if_pos hn, Sem.run_bind, hpc, hpd, Result.andThen_ok, he]
          rw [List.drop_drop, List.drop_drop] at hy
          have hrec := flat_fields IH cs ds w fs (f.offset + k.length) ks' hks' y hy
          cases x with
          | true => simp [hrec]
          | false => simp
        · cases h
      · cases h
    · cases h
theorem flat_eq : ∀ (d : Nat) (t : TypeId) (ks : List Lk), lk P d t = some ks → ∀ (D : Nat), d ≤ D + 1 → ∀ (cs ds : List Value) (r : Bool), eqL ks cs ds = some r → ∀ (w : World), (Op.equalIn (D + 1) t (ofC P t cs) (ofC P t ds)).run P w = .ok r w
  | 0, t, ks, h, _, _, _, _, _, _, _ => by cases h
  | d + 1, t, ks, h, D, hD, cs, ds, r, hr, w => by
    unfold lk at h
    have one : ∀ k, ks = [k] → ∃ a b, cs = [a] ∧ ds = [b] ∧ eq1 k a b = some r := fun k hk => by
      subst hk
      have hl := eqL_len hr
      obtain ⟨a, rfl⟩ := List.length_eq_one_iff.1 hl.1
      obtain ⟨b, rfl⟩ := List.length_eq_one_iff.1 hl.2
      simp only [eqL, Option.map_some, Bool.and_true, Option.bind_eq_some_iff, Option.some.injEq] at hr
      obtain ⟨x, hx, rfl⟩ := hr
      exact ⟨a, b, rfl, rfl, hx⟩
    split at h
    · rename_i k hu
      cases h
      obtain ⟨a, b, rfl, rfl, h1⟩ := one _ rfl
      simp only [ofC, hu, List.headD_cons]
      unfold eq1 at h1
      split at h1 <;> try cases h1
      · rename_i e1 _ _; split at h1
        · rename_i e; subst e; cases h1; simp [Op.equalIn, run_underlying hu]
        · cases h1
      all_goals simp_all
    · rename_i hu
      cases h
      obtain ⟨a, b, rfl, rfl, h1⟩ := one _ rfl
      simp only [ofC, hu, List.headD_cons]
      unfold eq1 at h1
      split at h1 <;> try cases h1
      all_goals first | (simp [Op.equalIn, run_underlying hu]; done) | simp_all
    · rename_i hu
      cases h
      obtain ⟨a, b, rfl, rfl, h1⟩ := one _ rfl
      simp only [ofC, hu, List.headD_cons]
      unfold eq1 at h1
      split at h1 <;> try cases h1
      all_goals first | (simp [Op.equalIn, run_underlying hu, beq_toListBytes]; done) | simp_all
    · rename_i fs hu
      split at h
      · rename_i hp
        have hfo : P.fieldsOf t = fs := by simp [Program.fieldsOf, hu]
        simp only [ofC, hu]
        rw [run_equalIn_struct w D t _ _ (by rw [hfo]; exact hu) hp, hfo]
        cases D with
        | zero =>
          cases hfs : fs.toList with
          | nil =>
            rw [hfs] at h
            have hd0 : d = 0 := by omega
            subst hd0
            exact flat_fields (d := 0) (fun t ks hh => nomatch hh) cs ds w [] 0 ks h r (by simpa using hr)
          | cons f l =>
            have : d = 0 := by omega
            subst this
            rw [hfs] at h
            simp [lkF, lk] at h
        | succ D =>
          exact flat_fields (d := d) (D := D + 1) (fun t ks hh cs ds r hr w => flat_eq d t ks hh D (by omega) cs ds r hr w) cs ds w fs.toList 0 ks h r (by simpa using hr)
      · cases h
    · cases h
theorem eqv_run1 {t : TypeId} {k : EqK} {u v : Value} {r : Bool} {w : World} (d : Nat) (h : eqv k u v = some r) (hk : k.ok P t) : (Op.equalIn (d + 1) t u v).run P w = .ok r w := by
  unfold eqv at h
  split at h <;> cases h
  · have hk : P.underlying t = some .bool := hk
    simp [Op.equalIn, run_underlying hk]
  · obtain ⟨e, hk⟩ := hk; simp [Op.equalIn, run_underlying hk]
  · obtain ⟨e, hk⟩ := hk; simp [Op.equalIn, run_underlying hk]
  · obtain ⟨e, hk⟩ := hk; simp [Op.equalIn, run_underlying hk]
  · obtain ⟨e, hk⟩ := hk; simp [Op.equalIn, run_underlying hk]
theorem eqv_run {t : TypeId} {k : EqK} {u v : Value} {r : Bool} {w : World} (h : eqv k u v = some r) (hk : k.ok P t) : (Op.equal t u v).run P w = .ok r w := eqv_run1 9999 h hk
theorem eqs_run {t : TypeId} {x y : Operand} {k : EqK} {u v : Value} {r neg : Bool} {w : World} (h : eqv k u v = some r) (hk : k.ok P t) :
    (do eqGuard (if neg = true then .neq else .eql) t x y u v; binOp (if neg = true then .neq else .eql) t u v : Sem Value).run P w = .ok (.bool (r != neg)) w := by
  have he := eqv_run (P := P) (w := w) h hk
  unfold eqv at h
  split at h <;> cases neg <;> cases h <;> simp [eqGuard, binOp, he]
theorem ifn_eq {t : TypeId} {ms : Array (String × TypeId)} (d : Nat) {w : World} (hu : P.underlying t = some (.interface ms)) : (Op.equalIn (d + 1) t .nilIface .nilIface).run P w = .ok true w ∧ ∀ T v, (Op.equalIn (d + 1) t (.iface T v) .nilIface).run P w = .ok false w := by
  constructor
  · simp [Op.equalIn, run_underlying hu]
  · intro T v; simp [Op.equalIn, run_underlying hu]
theorem ifn_run {t : TypeId} {ms : Array (String × TypeId)} {u : Value} {neg : Bool} {r : Value} {x : Operand} {w : World} (hu : P.underlying t = some (.interface ms)) (h : lf (.ifn neg) [u] = some r) :
    (do eqGuard (if neg = true then .neq else .eql) t x (.const .nilIface) u .nilIface; binOp (if neg = true then .neq else .eql) t u .nilIface : Sem Value).run P w = .ok r w := by
  have h : ifnv neg u = some r := h
  have h1 : (Op.equal t .nilIface .nilIface).run P w = .ok true w := (ifn_eq 9999 hu).1
  have h2 : ∀ T v, (Op.equal t (.iface T v) .nilIface).run P w = .ok false w := (ifn_eq 9999 hu).2
  unfold ifnv at h
  split at h <;> first | (cases h; done) | skip
  all_goals cases neg <;> cases h <;> simp [eqGuard, binOp, h1, h2]
theorem places_run {w : World} : ∀ (fs : List Field) (pl : List (Nat × Nat)), places P fs = some pl → (fs.mapM fun f => (sizeOf f.type >>= fun a => pure (f.offset, a) : Sem (Nat × Nat))).run P w = .ok pl w
  | [], pl, h => by
    simp only [places, List.mapM_nil, Option.pure_def, Option.some.injEq] at h
    subst h; rfl
  | f :: fs, pl, h => by
    simp only [places, List.mapM_cons, Option.bind_eq_bind, Option.bind_eq_some_iff, Option.map_eq_some_iff, Option.pure_def, Option.some.injEq] at h
    obtain ⟨q, ⟨i, hi, rfl⟩, pl', hp, rfl⟩ := h
    have ih := places_run (w := w) fs pl' hp
    have hsz : (sizeOf f.type).run P w = .ok i.size w := by simp [sizeOf, typeInfo, hi]
    simp only [List.mapM_cons, Sem.run_bind, hsz, Result.andThen_ok, Sem.run_pure, ih]
theorem lenv_str {v : Value} {n : Nat} (h : lenv false v = some n) : ∃ s, v = .string s ∧ n = s.size := by
  cases v <;> simp [lenv] at h
  exact ⟨_, rfl, h.symm⟩
theorem lenv_sl {v : Value} {n : Nat} (h : lenv true v = some n) : ∃ a c, v = .slice a n c := by
  cases v <;> simp [lenv] at h
  exact ⟨_, _, by rw [h]⟩
theorem zero_run {t : TypeId} {i : TypeInfo} {z : Value} {w : World} (hi : P.info? t = some i) (hz : i.zero = some z) : (zeroValue t).run P w = .ok z w := by
  simp [zeroValue, typeInfo, hi, hz]
theorem onI64_el {v : Value} {k : Int → Prop} (h : onI64 v k) : ∃ n, v = .int .i64 n ∧ k n := by
  unfold onI64 at h; split at h
  · exact ⟨_, rfl, h⟩
  · exact h.elim
theorem made_rows {z : Array Value} {k n : Nat} (hz : z.size = k) (hk : 0 < k) : madeCells z (n * k) = ((List.replicate n z.toList).flatten).toArray := by
  subst hz
  apply Array.ext'
  simp only [madeCells, Array.toList_map, Array.toList_range]
  induction n with
  | zero => simp
  | succ n ih =>
    rw [List.replicate_succ', List.flatten_append, List.flatten_singleton, ← ih, Nat.add_mul, Nat.one_mul, List.range_add, List.map_append]
    congr 1
    apply List.ext_getElem
    · simp
    · intro i h1 h2
      have hi : i < z.size := by simpa using h2
      have e : (n * z.size + i) % z.size = i := by rw [Nat.mul_comm, Nat.mul_add_mod]; exact Nat.mod_eq_of_lt hi
      simp [e, getElem!_pos z i hi]
theorem mapKey_elim {t : TypeId} {num : Bool} {e : TypeId} (h : mapKey P t = some (num, e)) : ∃ kt, P.underlying t = some (.map kt e) ∧ P.underlying kt = some (if num = true then .int .i64 else .string) := by
  unfold mapKey at h
  split at h
  · rename_i kt e' ht
    split at h
    · rename_i hk; cases h; exact ⟨kt, ht, by rw [hk]; rfl⟩
    · rename_i hk; cases h; exact ⟨kt, ht, by rw [hk]; rfl⟩
    · cases h
  · cases h
theorem mread_runs {σ : Hp} {w : World} (hs : Sat σ w) {t e : TypeId} {num ok : Bool} {m z k v : Value} (hq : mapKey P t = some (num, e)) (hz : ∀ w, (zeroValue e).run P w = .ok z w) (h : mreadV σ m (.get num ok) z k = some v) : (Instr.lookup t m k ok).run P w = .ok v w := by
  obtain ⟨kt, ht, hkt⟩ := mapKey_elim hq
  have nil : ∀ d, P.underlying kt = some d → MapKept.IsKey d k → (Instr.lookup t (.map none) k ok).run P w = .ok (lookv ok z none) w := fun d hd hk => by
    have hc : ∀ em, (Instr.checkKey em 10000 kt k).run P w = .ok () w := fun em => MapKept.run_checkKey hd hk em 9999
    unfold Instr.lookup
    simp only [Sem.run_bind, run_underlying ht, Result.andThen_ok, Sem.run_pure, hc]
    rw [MapKept.run_findKey (a := none) hd (by rfl)]
    cases ok <;> simp [Sem.run_bind, hz, lookv]
  unfold mreadV at h
  split at h
  · split at h
    · rename_i e1; cases h; cases e1; exact nil _ hkt trivial
    · rename_i e1; cases h; cases e1; exact nil _ hkt rfl
    · rename_i e1; cases e1
    · cases h
  · obtain ⟨o, ho, hv⟩ := Option.bind_eq_some_iff.1 h
    have ha := hs _ o ho
    cases o with
    | mp l =>
      obtain ⟨es, c, ha, hE⟩ := ha
      simp only [bread] at hv
      split at hv
      · rename_i e1; cases hv; cases e1; exact look_run key_str ht hkt hz ha hE _ _
      · rename_i e1; cases e1
      · cases hv
    | im l =>
      obtain ⟨es, c, ha, hE⟩ := ha
      simp only [bread] at hv
      split at hv
      · rename_i e1; cases hv; cases e1; exact look_run key_int ht hkt hz ha hE _ _
      · rename_i e1; cases e1
      · cases hv
    | _ => cases hv
  · cases h
theorem mturn_elim {σ σ' : Hp} {m k v : Value} {q : LT} (h : mturnV σ m q k v = some σ') : ∃ b o o', m = .map (some b) ∧ σ b = some o ∧ bturn q k v o = some o' ∧ σ' = upd σ b o' := by
  unfold mturnV at h
  split at h
  · rename_i b
    obtain ⟨o', ho, rfl⟩ := Option.map_eq_some_iff.1 h
    obtain ⟨o, h1, h2⟩ := Option.bind_eq_some_iff.1 ho
    exact ⟨b, o, o', rfl, h1, h2, rfl⟩
  · cases h
theorem turned {σ : Hp} {w : World} (hs : Sat σ w) {b : Nat} {o o' : Blk} {x : Obj} (hb : σ b = some o) (hx : o'.at (some x)) : Sat (upd σ b o') (World.put w b x) ∧ ∀ w0 σ0, Fr w0 w σ0 σ → Fr w0 (World.put w b x) σ0 (upd σ b o') :=
  ⟨hs.put (hs.lt (by rw [hb]; simp)) _ _ hx, fun w0 σ0 hf => hf.put (by rw [hb]; simp) _ _⟩
theorem mput_runs {σ σ' : Hp} {w : World} (hs : Sat σ w) {t : TypeId} {num : Bool} {e : TypeId} {m k v : Value} (hq : mapKey P t = some (num, e)) (h : mturnV σ m (.put num) k v = some σ') :
    ∃ b x, m = .map (some b) ∧ Sat σ' (World.put w b x) ∧ (∀ w0 σ0, Fr w0 w σ0 σ → Fr w0 (World.put w b x) σ0 σ') ∧ (Instr.mapUpdate t m k v).run P w = .ok () (World.put w b x) := by
  obtain ⟨kt, ht, hkt⟩ := mapKey_elim hq
  obtain ⟨b, o, o', rfl, hb, ho, rfl⟩ := mturn_elim h
  have ha := hs _ o hb
  cases o with
  | mp l =>
    obtain ⟨es, c, ha, hE⟩ := ha
    simp only [bturn] at ho
    split at ho
    · rename_i e1; cases ho; cases e1
      obtain ⟨es', c', hr, hE'⟩ := mset_run key_str ht hkt ha hE _ v
      obtain ⟨h1, h2⟩ := turned hs hb (show (Blk.mp _).at (some (.map es' c')) from ⟨es', c', rfl, hE'⟩)
      exact ⟨b, _, rfl, h1, h2, hr⟩
    · rename_i e1; cases e1
    · rename_i e1; cases e1
    · cases ho
  | im l =>
    obtain ⟨es, c, ha, hE⟩ := ha
    simp only [bturn] at ho
    split at ho
    · rename_i e1; cases ho; cases e1
      obtain ⟨es', c', hr, hE'⟩ := mset_run key_int ht hkt ha hE _ v
      obtain ⟨h1, h2⟩ := turned hs hb (show (Blk.im _).at (some (.map es' c')) from ⟨es', c', rfl, hE'⟩)
      exact ⟨b, _, rfl, h1, h2, hr⟩
    · rename_i e1; cases e1
    · rename_i e1; cases e1
    · cases ho
  | _ => cases ho
theorem mdel_runs {σ σ' : Hp} {w : World} (hs : Sat σ w) {ts : Array TypeId} {ty t : TypeId} {num : Bool} {e : TypeId} {m k v : Value} (hts : ts[0]? = some t) (hq : mapKey P t = some (num, e)) (h : mturnV σ m (.del num) k v = some σ') :
    ∃ b x, m = .map (some b) ∧ Sat σ' (World.put w b x) ∧ (∀ w0 σ0, Fr w0 w σ0 σ → Fr w0 (World.put w b x) σ0 σ') ∧ (Builtin.delete_ ts ty #[m, k]).run P w = .ok (.tuple #[]) (World.put w b x) := by
  obtain ⟨kt, ht, hkt⟩ := mapKey_elim hq
  obtain ⟨b, o, o', rfl, hb, ho, rfl⟩ := mturn_elim h
  have ha := hs _ o hb
  cases o with
  | mp l =>
    obtain ⟨es, c, ha, hE⟩ := ha
    simp only [bturn] at ho
    split at ho
    · rename_i e1; cases e1
    · rename_i e1; cases ho; cases e1
      obtain ⟨es', c', hr, hE'⟩ := mdel_run (ty := ty) key_str hts ht hkt ha hE _
      obtain ⟨h1, h2⟩ := turned hs hb (show (Blk.mp _).at (some (.map es' c')) from ⟨es', c', rfl, hE'⟩)
      exact ⟨b, _, rfl, h1, h2, hr⟩
    · rename_i e1; cases e1
    · cases ho
  | im l =>
    obtain ⟨es, c, ha, hE⟩ := ha
    simp only [bturn] at ho
    split at ho
    · rename_i e1; cases e1
    · rename_i e1; cases ho; cases e1
      obtain ⟨es', c', hr, hE'⟩ := mdel_run (ty := ty) key_int hts ht hkt ha hE _
      obtain ⟨h1, h2⟩ := turned hs hb (show (Blk.im _).at (some (.map es' c')) from ⟨es', c', rfl, hE'⟩)
      exact ⟨b, _, rfl, h1, h2, hr⟩
    · rename_i e1; cases e1
    · cases ho
  | _ => cases ho
theorem clear_none {κ : Type} {enc : κ → Value} {c : Nat} : Ents enc ([] : List (κ × Value)) #[] c := ⟨rfl, List.Pairwise.nil, fun e h => by cases h⟩
theorem mclr_runs {σ σ' : Hp} {w : World} (hs : Sat σ w) {ts : Array TypeId} {ty t : TypeId} {q : Bool × TypeId} {m k v : Value} (hts : ts[0]? = some t) (hq : mapKey P t = some q) (h : mturnV σ m .clr k v = some σ') :
    ∃ b x, m = .map (some b) ∧ Sat σ' (World.put w b x) ∧ (∀ w0 σ0, Fr w0 w σ0 σ → Fr w0 (World.put w b x) σ0 σ') ∧ (Builtin.clear_ ts ty #[m]).run P w = .ok (.tuple #[]) (World.put w b x) := by
  obtain ⟨kt, ht, hkt⟩ := mapKey_elim (show mapKey P t = some (q.1, q.2) from hq)
  obtain ⟨b, o, o', rfl, hb, ho, rfl⟩ := mturn_elim h
  have ha := hs _ o hb
  have run : ∀ es c, w.heap[b]? = some (.map es c) → (Builtin.clear_ ts ty #[.map (some b)]).run P w = .ok (.tuple #[]) (World.put w b (.map #[] c)) := fun es c ha => by
    unfold Builtin.clear_
    simp only [hts, List.getElem?_toArray, List.getElem?_cons_zero, Sem.run_bind, run_underlying ht, Result.andThen_ok, MapKept.run_getObj_map ha, MapKept.run_setObj_map _ ha, Sem.run_pure]
    rfl
  cases o with
  | mp l =>
    obtain ⟨es, c, ha, hE⟩ := ha
    cases ho
    obtain ⟨h1, h2⟩ := turned hs hb (show (Blk.mp []).at (some (.map #[] c)) from ⟨_, c, rfl, clear_none⟩)
    exact ⟨b, _, rfl, h1, h2, run _ _ ha⟩
  | im l =>
    obtain ⟨es, c, ha, hE⟩ := ha
    cases ho
    obtain ⟨h1, h2⟩ := turned hs hb (show (Blk.im []).at (some (.map #[] c)) from ⟨_, c, rfl, clear_none⟩)
    exact ⟨b, _, rfl, h1, h2, run _ _ ha⟩
  | _ => cases ho
theorem mop_sound {n : Nat} {o : Oper} {m : M} (hc : comp P o = some m) (hin : mIn n o = true) {a : Act} {s : Sl} {σ : Hp} {w : World} (hr : Rel n a s) (hs : Sat σ w)
    {K : Value → Hp → Prop} (h : mop P m K s σ) {next : Act → World → Prop} {Q : Exit → Act → World → Prop}
    (hk : ∀ v σ' w', K v σ' → Sat σ' w' → (∀ w0 σ0, Fr w0 w σ0 σ → Fr w0 w' σ0 σ') → next (a.put o.dst v) w') : o.wp P a w next Q := by
  have raw : ∀ (_ : m = .raw o.op o.type) (_ : ∀ cs b, o.op ≠ .select cs b), o.wp P a w next Q := fun hm hsel => by
    subst hm
    obtain ⟨v, hv, hK⟩ := h
    exact wp_of_run (w' := w) (v := v) (by rw [exec_ev hr hsel (mIn_in hin), ← exec_mk]; exact hv w) (hk _ _ _ hK hs (fun _ _ h => h))
  have val : ∀ (v : Value), (execOp a.eval o).run P w = .ok (.value v) w → K v σ → o.wp P a w next Q := fun v hv hK => wp_of_run hv (hk _ _ _ hK hs (fun _ _ h => h))
  have opd : ∀ x, x ∈ o.op.operands → a.eval x = ev s x := fun x hx => hr.ev (mIn_in hin x hx)
  obtain ⟨dst, op, type, pos, after, guard⟩ := o
  cases op with
  | select cs b => simp [comp] at hc
  | move x => simp only [comp, Option.some.injEq] at hc; subst hc; exact val _ (by simp only [execOp, opd x (by simp [Op.operands])]; rfl) h
  | assign x => simp only [comp, Option.some.injEq] at hc; subst hc; exact val _ (by simp only [execOp, opd x (by simp [Op.operands])]; rfl) h
  | pick c x y =>
    simp only [comp, Option.some.injEq] at hc; subst hc
    obtain ⟨t, ht, hK⟩ := onBool_elim h
    exact val _ (by simp only [execOp, opd c (by simp [Op.operands]), opd x (by simp [Op.operands]), opd y (by simp [Op.operands]), ht, asBool, Sem.run_bind, Sem.run_pure, Result.andThen_ok]) hK
  | nilCheck x =>
    simp only [comp, Option.some.injEq] at hc; subst hc
    obtain ⟨b, off, hp, hK⟩ := onPtr_elim h
    exact val _ (by simp only [execOp, opd x (by simp [Op.operands]), hp, Sem.run_pure]) hK
  | fieldAddr t x f =>
    simp only [comp] at hc
    split at hc
    · rename_i fs hu
      split at hc
      · rename_i fd hfd
        split at hc
        · rename_i i hi
          split at hc
          · cases hc
          · rename_i hsz
            cases hc
            obtain ⟨b, off, hp, hK⟩ := onPtr_elim h
            refine val _ ?_ hK
            simp only [execOp, opd x (by simp [Op.operands]), hp, Instr.fieldAt, Instr.sureAddr, fieldPlace, Sem.run_bind, run_underlying hu, Result.andThen_ok, hfd, Sem.run_pure, sizeOf, typeInfo, run_program, hi, hsz, if_false, addr_add]
        · cases hc
      · cases hc
    · cases hc
  | field t x f =>
    have hx := opd x (by simp [Op.operands])
    simp only [comp] at hc
    split at hc
    · rename_i fs hu
      split at hc
      · rename_i fd hfd
        split at hc
        · rename_i fs' i hu' hi
          cases hc
          obtain ⟨v, hv, hK⟩ := onSome_elim h
          refine val _ ?_ hK
          unfold fldv at hv
          split at hv
          · rename_i cs hxs
            obtain ⟨vs, hvs, rfl⟩ := Option.map_eq_some_iff.1 hv
            have ha : (isAgg fd.type).run P w = .ok true w := by unfold isAgg; rw [Sem.run_bind, run_underlying hu']; rfl
            have hex : cs.extract fd.offset (fd.offset + i.size) = vs.toArray := by
              unfold seg at hvs
              split at hvs
              · cases hvs
                apply Array.ext'
                simp [Array.toList_extract, List.extract_eq_take_drop]
              · cases hvs
            simp only [execOp, hx, hxs, Instr.field, asAgg, part, Sem.run_bind, run_underlying hu, Result.andThen_ok, hfd, Sem.run_pure, ha, if_true, sizeOf, typeInfo, run_program, hi, hex]
          · cases hv
        · cases hc
        · rename_i d hn2 hu' hn1
          cases hc
          obtain ⟨v, hv, hK⟩ := onSome_elim h
          refine val _ ?_ hK
          unfold fldv at hv
          split at hv
          · rename_i cs hxs
            have hv : cs.toList[fd.offset]? = some v := hv
            rw [Array.getElem?_toList] at hv
            have ha : (isAgg fd.type).run P w = .ok false w := by
              unfold isAgg
              rw [Sem.run_bind, run_underlying hu']
              cases d with
              | struct gs => cases hh : P.info? fd.type with
                | none => rw [Program.underlying, hh] at hu'; cases hu'
                | some i => exact absurd rfl (hn1 gs i hh)
              | array n e => exact absurd rfl (hn2 n e)
              | _ => rfl
            simp only [execOp, hx, hxs, Instr.field, asAgg, part, Sem.run_bind, run_underlying hu, Result.andThen_ok, hfd, Sem.run_pure, ha, Bool.false_eq_true, if_false, hv]
          · cases hv
        · cases hc
      · cases hc
    · cases hc
  | indexAddr t x ix =>
    simp only [comp] at hc
    split at hc
    · rename_i e hu
      simp only [Option.map_eq_some_iff] at hc
      obtain ⟨i, hi, rfl⟩ := hc
      have hx := opd x (by simp [Op.operands])
      have hix := opd ix (by simp [Op.operands])
      simp only [mop] at h
      unfold onSlice at h
      split at h
      · rename_i b off len cap hxs
        unfold onI64 at h
        split at h
        · rename_i j hj
          obtain ⟨hj2, hK⟩ := h
          refine val _ ?_ hK
          simp only [execOp, hx, hix, hxs, hj, Instr.indexAt, asIntOf, Sem.run_bind, Sem.run_pure, Result.andThen_ok, run_underlying hu]
          simp [hj2, sizeOf, typeInfo, hi, addr_add]
        · exact h.elim
      · exact h.elim
    · rename_i n e hu
      simp only [Option.map_eq_some_iff] at hc
      obtain ⟨i, hi, rfl⟩ := hc
      have hx := opd x (by simp [Op.operands])
      have hix := opd ix (by simp [Op.operands])
      obtain ⟨r, hb, hK⟩ := onSome_elim h
      refine val r ?_ hK
      simp only [List.map_cons, List.map_nil, lf] at hb
      unfold aixv at hb
      split at hb
      · rename_i b off j hxs hj
        split at hb
        · rename_i hj2
          cases hb
          simp only [execOp, hx, hix, hxs, hj, Instr.indexAt, asIntOf, Instr.sureAddr, Sem.run_bind, Sem.run_pure, Result.andThen_ok, run_underlying hu]
          simp [hj2, sizeOf, typeInfo, hi, addr_add]
        · cases hb
      · cases hb
    · cases hc
  | binOp op t x y yt =>
    have hx := opd x (by simp [Op.operands])
    have hy := opd y (by simp [Op.operands])
    have go : ∀ (_ : m = .bin op x y), Oper.wp P ⟨dst, .binOp op t x y yt, type, pos, after, guard⟩ a w next Q := fun e => by
      subst e
      obtain ⟨r, hb, hK⟩ := onSome_elim h
      refine val r ?_ hK
      have hrun := binv_run (P := P) (t := t) (yt := yt) (x := x) (y := y) (w := w) hb
      simp only [execOp, hx, hy]
      simp only [Sem.run_bind] at hrun ⊢
      rw [hrun]; rfl
    have ge : ∀ (neg : Bool) (k : EqK) (_ : op = if neg = true then .neq else .eql) (_ : m = .eqs neg k x y) (hk : k.ok P t), Oper.wp P ⟨dst, .binOp op t x y yt, type, pos, after, guard⟩ a w next Q := fun neg k eo e hkk => by
      subst e; subst eo
      obtain ⟨r, hb, hK⟩ := onSome_elim h
      refine val _ ?_ hK
      have hrun := eqs_run (P := P) (t := t) (x := x) (y := y) (w := w) (neg := neg) hb hkk
      simp only [execOp, hx, hy]
      simp only [Sem.run_bind] at hrun ⊢
      rw [hrun]; rfl
    simp only [comp] at hc
    split at hc
    · cases hc; exact go rfl
    · split at hc <;> first
        | (cases hc; exact go rfl)
        | (cases hc; exact raw rfl (fun _ _ h => by cases h))
    · rename_i hu
      split at hc
      · rename_i hgt
        simp only [Option.bind_eq_some_iff] at hc
        obtain ⟨ks, hks, hc⟩ := hc
        have gs : ∀ (neg : Bool) (_ : op = if neg = true then .neq else .eql) (_ : m = .eqa neg ks x y), Oper.wp P ⟨dst, .binOp op t x y yt, type, pos, after, guard⟩ a w next Q := fun neg eo e => by
          subst e; subst eo
          obtain ⟨r, hb, hK⟩ := onSome_elim h
          refine val _ ?_ hK
          unfold eqa at hb
          split at hb
          · rename_i ca cb hxa hxb
            have hrun := flat_eq (P := P) 20 t ks hks 9999 (by omega) _ _ r hb w
            have hsu : ∃ fs, P.underlying t = some (.struct fs) := ⟨_, ‹_›⟩
            obtain ⟨fs, hsu⟩ := hsu
            simp only [ofC, hsu, Array.toArray_toList] at hrun
            simp only [execOp, hx, hy, hxa, hxb]
            cases neg with
            | false =>
              simp only [Bool.false_eq_true, if_false, Sem.run_bind, run_eqGuard_agg w _ _ _ _ _ _ hgt, Result.andThen_ok, run_eql_struct, hrun, Sem.run_pure]
              simp
            | true =>
              simp only [if_true, Sem.run_bind, run_eqGuard_agg w _ _ _ _ _ _ hgt, Result.andThen_ok, run_neq_struct, hrun, Sem.run_pure]
              simp
          · cases hb
        split at hc
        · cases hc; exact gs false rfl rfl
        · cases hc; exact gs true rfl rfl
        · cases hc
      · cases hc
    · rename_i hu
      split at hc
      · cases hc; exact ge false .bool rfl rfl hu
      · cases hc; exact ge true .bool rfl rfl hu
      · cases hc
    · rename_i e hu
      split at hc
      · cases hc; exact ge false .ptr rfl rfl ⟨e, hu⟩
      · cases hc; exact ge true .ptr rfl rfl ⟨e, hu⟩
      · cases hc
    · rename_i e hu
      split at hc
      · cases hc; exact ge false .slice rfl rfl ⟨e, hu⟩
      · cases hc; exact ge true .slice rfl rfl ⟨e, hu⟩
      · cases hc
    · rename_i ms hu
      have gi : ∀ (neg : Bool) (_ : op = if neg = true then .neq else .eql) (_ : y = .const .nilIface) (_ : m = .fnl (.ifn neg) [x]), Oper.wp P ⟨dst, .binOp op t x y yt, type, pos, after, guard⟩ a w next Q := fun neg eo ey e => by
        subst e; subst eo; subst ey
        obtain ⟨r, hb, hK⟩ := onSome_elim h
        refine val r ?_ hK
        have hrun := ifn_run (P := P) (x := x) (w := w) hu hb
        simp only [execOp, hx]
        simp only [Sem.run_bind] at hrun ⊢
        rw [show a.eval (.const .nilIface) = .nilIface from rfl, hrun]; rfl
      split at hc
      · cases hc; exact gi false rfl rfl rfl
      · cases hc; exact gi true rfl rfl rfl
      · cases hc; exact raw rfl (fun _ _ h => by cases h)
    · cases hc; exact raw rfl (fun _ _ h => by cases h)
  | unOp op t x =>
    cases op with
    | not =>
      simp only [comp, Option.some.injEq] at hc; subst hc
      obtain ⟨t, ht, hK⟩ := onBool_elim h
      exact val _ (by simp only [execOp, opd x (by simp [Op.operands]), ht, Op.unary, Sem.run_bind, Sem.run_pure, Result.andThen_ok]) hK
    | _ => simp only [comp, Option.some.injEq] at hc; exact raw hc.symm (fun _ _ h => by cases h)
  | extract x i =>
    simp only [comp, Option.some.injEq] at hc; subst hc
    simp only [mop] at h
    unfold onTuple at h
    split at h
    · rename_i vs hv
      obtain ⟨v, hi, hK⟩ := onSome_elim h
      exact val _ (by simp only [execOp, opd x (by simp [Op.operands]), hv, Instr.extract, hi, Sem.run_bind, Sem.run_pure, Result.andThen_ok]) hK
    · exact h.elim
  | alloc t =>
    simp only [comp, Option.bind_eq_some_iff, Option.map_eq_some_iff] at hc
    obtain ⟨i, hi, z, hz, rfl⟩ := hc
    refine wp_of_run (w' := World.push w (.cells (cl z).toArray t)) (v := .pointer (some ⟨w.heap.size, 0, none⟩)) ?_ (hk _ _ _ (h _ (hs.none_of_le (Nat.le_refl _))) (hs.push _ _ rfl) (fun _ _ hf => hf.push _ _))
    simp only [execOp, Instr.alloc, Sem.run_bind, zero_run hi hz, Result.andThen_ok, newVar, newRow, Sem.run_pure]
    simp [cl, World.push, newObj, Sem.run]
  | box t x =>
    simp only [comp, Option.some.injEq] at hc; subst hc
    refine wp_of_run (w' := World.push w (.cells (cl (ev s x)).toArray t)) (v := .pointer (some ⟨w.heap.size, 0, none⟩)) ?_ (hk _ _ _ (h _ (hs.none_of_le (Nat.le_refl _))) (hs.push _ _ rfl) (fun _ _ hf => hf.push _ _))
    simp only [execOp, opd x (by simp [Op.operands]), Instr.box, Sem.run_bind, Result.andThen_ok, newVar, newRow, Sem.run_pure]
    simp [cl, World.push, newObj, Sem.run]
  | build t ps =>
    simp only [comp] at hc
    split at hc
    · rename_i i fs hi hu
      simp only [Option.bind_eq_some_iff, Option.map_eq_some_iff] at hc
      obtain ⟨z, hz, pl, hpl, q, hq, rfl⟩ := hc
      obtain ⟨cs, hcs, hK⟩ := onSome_elim h
      refine val _ ?_ hK
      have hmap : (ps.map fun (p : Nat × Operand) => (p.1, a.eval p.2)) = (ps.toList.map fun p => (p.1, ev s p.2)).toArray := by
        apply Array.ext'
        simp only [Array.toList_map]
        exact List.map_congr_left fun p hp => by
          rw [opd p.2 (by simp only [Op.operands, List.mem_toArray, List.mem_map]; exact ⟨p, hp, rfl⟩)]
      have hfill := fill_run (s := s) (place := fun i => pl[i]?) ps.toList q hq (cl z) cs hcs
      have hpr : (fs.mapM fun f => (sizeOf f.type >>= fun a => pure (f.offset, a) : Sem (Nat × Nat))).run P w = .ok pl.toArray w := by
        rw [Array.mapM_eq_mapM_toList, map_eq_pure_bind, Sem.run_bind, places_run fs.toList pl hpl]; rfl
      have hz' : z.cells = (cl z).toArray := by simp [cl]
      have hb : (Instr.build t (ps.toList.map fun p => (p.1, ev s p.2)).toArray).run P w = .ok (.agg cs.toArray) w := by
        unfold Instr.build
        simp only [Sem.run_bind, zero_run hi hz, Result.andThen_ok, run_underlying hu, Sem.run_pure]
        rw [hpr]
        simp only [Result.andThen_ok, List.getElem?_toArray, hz', hfill, Sem.run_pure]
      have he : execOp a.eval ⟨dst, .build t ps, type, pos, after, guard⟩ = (do pure (.value (← Instr.build t (ps.map fun (p : Nat × Operand) => (p.1, a.eval p.2))))) := rfl
      rw [he, hmap, Sem.run_bind, hb]; rfl
    · rename_i i n e hi hu
      split at hc
      · rename_i hps
        obtain ⟨hps, hie⟩ := hps
        simp only [Option.map_eq_some_iff] at hc
        obtain ⟨z, hz, rfl⟩ := hc
        simp only [mop] at h
        obtain ⟨cs, hcs, hK⟩ := onSome_elim h
        refine val _ ?_ hK
        have e0 : ps = #[] := by apply Array.ext'; simpa using hps
        subst e0
        simp only [fillO, Option.some.injEq] at hcs
        subst hcs
        have hb : (Instr.build t #[]).run P w = .ok (.agg (cl z).toArray) w := by
          unfold Instr.build
          simp only [Sem.run_bind, zero_run hi hz, Result.andThen_ok, run_underlying hu, Sem.run_pure]
          cases he : P.info? e with
          | none => rw [he] at hie; cases hie
          | some ie => simp [sizeOf, typeInfo, he, Instr.fill, cl]
        have he : execOp a.eval ⟨dst, .build t #[], type, pos, after, guard⟩ = (do pure (.value (← Instr.build t #[]))) := by
          show ((do pure (Next.value (← Instr.build t (#[].map fun (p : Nat × Operand) => (p.1, a.eval p.2))))) : Sem Next) = _
          simp
        rw [he, Sem.run_bind, hb]; rfl
      · cases hc
    · cases hc
  | buildSlice t l ps =>
    simp only [comp] at hc
    split at hc
    · rename_i e hu
      split at hc
      · rename_i i hi
        split at hc
        · rename_i z hz
          split at hc
          · rename_i hcond
            obtain ⟨h1, h2, h3⟩ := hcond
            cases hc
            obtain ⟨cs, hcs, hK⟩ := onSome_elim h
            have hq : (ps.toList.mapM fun p => ((fun j => some (j * i.size, i.size)) p.1).map fun q : Nat × Nat => (q.1, q.2, p.2)) = some (ps.toList.map fun p => (p.1 * i.size, i.size, p.2)) := by
              generalize ps.toList = l
              induction l with
              | nil => rfl
              | cons p l ih => simp only [List.mapM_cons, ih, List.map_cons]; rfl
            have hfill := fill_run (s := s) (place := fun j => some (j * i.size, i.size)) ps.toList _ hq _ cs hcs
            have hmap : (ps.map fun (p : Nat × Operand) => (p.1, a.eval p.2)) = (ps.toList.map fun p => (p.1, ev s p.2)).toArray := by
              apply Array.ext'
              simp only [Array.toList_map]
              exact List.map_congr_left fun p hp => by
                rw [opd p.2 (by simp only [Op.operands, List.mem_toArray, List.mem_map]; exact ⟨p, hp, rfl⟩)]
            have hcl : (cs.length : Nat) = l * i.size := by
              have := fillO_len _ _ _ _ hcs
              simpa using this
            have hz' : z.cells.size = i.size := by rw [← h2]; simp [cl]
            have hb : (Instr.buildSlice t l (ps.toList.map fun p => (p.1, ev s p.2)).toArray).run P w = .ok (.slice (some ⟨w.heap.size, 0, none⟩) l l) (World.push w (.cells cs.toArray e)) := by
              unfold Instr.buildSlice
              have hsz : (sizeOf e).run P w = .ok i.size w := by simp [sizeOf, typeInfo, hi]
              have hle : ¬ (l * i.size > 2 ^ 24) := by omega
              have hend : (match some cs.toArray with
                  | some cells => (do let r ← newRow e cells; pure (Value.slice (some r) l l) : Sem Value)
                  | x => stuck "buildSlice: a part of the wrong size").run P w = .ok (.slice (some ⟨w.heap.size, 0, none⟩) l l) (World.push w (.cells cs.toArray e)) := by
                simp [newRow, newObj, Sem.run, World.push]
              simp only [Sem.run_bind, run_underlying hu, Result.andThen_ok, hsz]
              rw [if_neg hle]
              by_cases h0 : l * i.size = 0
              · rw [if_pos h0]
                have e1 : ((Array.range (l * i.size)).map ((#[] : Array Value)[· % (#[] : Array Value).size]!)) = ((List.range (l * i.size)).map fun j => (cl z)[j % i.size]?.getD default).toArray := by rw [h0]; simp
                simp only [Sem.run_bind, Sem.run_pure, Result.andThen_ok]
                rw [e1, hfill]; exact hend
              · rw [if_neg h0]
                have e1 : ((Array.range (l * i.size)).map (z.cells[· % z.cells.size]!)) = ((List.range (l * i.size)).map fun j => (cl z)[j % i.size]?.getD default).toArray := by
                  apply Array.ext'
                  simp only [Array.toList_map, Array.toList_range, hz']
                  refine List.map_congr_left fun j _ => ?_
                  simp [cl, getElem!_def]
                  cases z.cells[j % i.size]? <;> rfl
                simp only [Sem.run_bind, zero_run hi hz, Sem.run_pure, Result.andThen_ok]
                rw [e1, hfill]; exact hend
            have he : execOp a.eval ⟨dst, .buildSlice t l ps, type, pos, after, guard⟩ = (do pure (.value (← Instr.buildSlice t l (ps.map fun (p : Nat × Operand) => (p.1, a.eval p.2))))) := rfl
            refine wp_of_run (w' := World.push w (.cells cs.toArray e)) (v := .slice (some ⟨w.heap.size, 0, none⟩) l l) ?_ (hk _ _ _ (hK _ (hs.none_of_le (Nat.le_refl _))) (hs.push _ _ ⟨[], by simp, by simp⟩) (fun _ _ hf => hf.push _ _))
            rw [he, hmap, Sem.run_bind, hb]; rfl
          · cases hc
        · cases hc
      · cases hc
    · cases hc
  | load t x =>
    have hx : a.eval x = ev s x := opd x (by simp [Op.operands])
    simp only [comp] at hc
    split at hc
    · rename_i fs i hu hi
      cases hc
      obtain ⟨b, off, hp, h⟩ := onPtr_elim h
      obtain ⟨vs, hrd, hK⟩ := onSome_elim h
      obtain ⟨hl, hg⟩ := rdn_cells hs hrd
      refine val _ ?_ hK
      simp only [execOp, hx, hp, Instr.loadAt, Instr.sureAddr, Sem.run_bind, Sem.run_pure, Result.andThen_ok, loadVar_agg hu hi hl hg]
    · cases hc
    · rename_i d hn2 hu hn1
      cases hc
      obtain ⟨b, off, hp, h⟩ := onPtr_elim h
      obtain ⟨v, hrd, hK⟩ := onSome_elim h
      refine val _ ?_ hK
      have := loadVar_one (P := P) hu (fun fs e => by subst e; cases hh : P.info? t with
        | none => rw [Program.underlying, hh] at hu; cases hu
        | some i => exact hn1 fs i hh rfl) (fun m e ee => hn2 m e ee) (rd_cell hs hrd)
      simp only [execOp, hx, hp, Instr.loadAt, Instr.sureAddr, Sem.run_bind, Sem.run_pure, Result.andThen_ok, this]
    · cases hc
  | store t ad x =>
    have hx : a.eval x = ev s x := opd x (by simp [Op.operands])
    have ha : a.eval ad = ev s ad := opd ad (by simp [Op.operands])
    simp only [comp, Option.map_eq_some_iff] at hc
    obtain ⟨i, hi, rfl⟩ := hc
    obtain ⟨b, off, hp, hl, h1, h⟩ := onPtr_elim h
    obtain ⟨σ', hw, hK⟩ := onSome_elim h
    obtain ⟨w', hrun, hs', hf⟩ := wr_run (P := P) hs h1 hw
    refine wp_of_skip (w' := w') ?_ (hk _ _ _ hK hs' hf)
    unfold cl at hl hrun
    rw [Array.length_toList] at hl
    simp only [execOp, hx, ha, hp, Instr.storeAt, Instr.sureAddr, storeVar, sizeOf, typeInfo, Sem.run_bind, Sem.run_pure, Result.andThen_ok]
    simp [hi, hl, hrun]
  | call c =>
    obtain ⟨callee, args, argTypes⟩ := c
    cases callee with
    | value f =>
      cases f with
      | func f =>
        simp only [comp] at hc
        split at hc
        · rename_i fn hf
          split at hc
          · cases hc
          · rename_i hbad
            cases hc
            obtain ⟨R, hcall, hK⟩ := h
            have hargs : args.map a.eval = (args.toList.map (ev s)).toArray := by
              apply Array.ext'
              simp only [Array.toList_map]
              exact List.map_congr_left fun x hx => opd x (by simp [Op.operands, Call.operands]; exact .inr (by simpa using hx))
            have hrun : (execOp a.eval ⟨dst, .call ⟨.value (.func f), args, argTypes⟩, type, pos, after, guard⟩).run P w = .ok (.enter f (args.toList.map (ev s)).toArray) w := by
              have hb1 : (fn.name == "runtime.NumGoroutine") = false := by
                cases hh : fn.name == "runtime.NumGoroutine" <;> simp_all
              have hb2 : fn.body.isNone = false := by
                cases hh : fn.body.isNone <;> simp_all
              have hb1' : ¬ fn.name = "runtime.NumGoroutine" := by simpa using hb1
              have hb3 : ¬ fn.body = none := fun h => by rw [h] at hb2; cases hb2
              simp [execOp, resolve, Deferred.ofValue, Act.eval, invoke, callFunc, hf, hb1', hb3, hargs, go_sem]
            unfold Oper.wp
            rw [hrun, Oper.upon_enter]
            refine (hcall w hs).mono ?_
            rintro e w' ⟨v, σ', rfl, hs', hf', hR⟩
            exact hk v σ' w' (hK v σ' hR ⟨_, hs'⟩) hs' (fun w0 σ0 h0 => h0.trans hf')
        · cases hc
      | tmp t =>
        simp only [comp, Option.some.injEq] at hc
        subst hc
        obtain ⟨f, cs, hf0, hok, R, hcall, hK⟩ := h
        have hargs : args.map a.eval = (args.toList.map (ev s)).toArray := by
          apply Array.ext'
          simp only [Array.toList_map]
          exact List.map_congr_left fun x hx => opd x (by simp [Op.operands, Call.operands]; exact .inr (by simpa using hx))
        have hx := opd (.tmp t) (by simp [Op.operands, Call.operands])
        unfold okF at hok
        simp only [Bool.and_eq_true] at hok
        split at hok
        · rename_i fn hf
          have hbad := hok.2
          have hb1' : ¬ fn.name = "runtime.NumGoroutine" := by simp at hbad; exact hbad.1
          have hb3 : ¬ fn.body = none := fun e => by rw [e] at hbad; simp at hbad
          have hb4 : fn.body.isNone = false := by cases h : fn.body <;> simp_all
          have hb5 : (fn.name == "runtime.NumGoroutine") = false := by simpa using hb1'
          have ha2 : (#[] ++ args.map a.eval) ++ cs = (args.toList.map (ev s) ++ cs.toList).toArray := by rw [hargs]; simp
          have hres : (resolve a.eval ⟨.value (.tmp t), args, argTypes⟩ type).run P w = .ok ⟨.fn (.func f) cs, #[] ++ args.map a.eval⟩ w := by
            simp only [resolve, hx, hf0, Deferred.ofValue]; rfl
          have hrun : (execOp a.eval ⟨dst, .call ⟨.value (.tmp t), args, argTypes⟩, type, pos, after, guard⟩).run P w = .ok (.enter f (args.toList.map (ev s) ++ cs.toList).toArray) w := by
            show ((resolve a.eval ⟨.value (.tmp t), args, argTypes⟩ type) >>= fun d => invoke d.target d.args).run P w = _
            rw [Sem.run_bind, hres, Result.andThen_ok]
            simp only [invoke, ha2, callFunc, Sem.run_bind, run_program, Result.andThen_ok, hf, hb5, hb4, Bool.false_eq_true, if_false, Sem.run_pure]
          unfold Oper.wp
          rw [hrun, Oper.upon_enter]
          refine (hcall w hs).mono ?_
          rintro e w' ⟨v, σ', rfl, hs', hf', hR⟩
          exact hk v σ' w' (hK v σ' hR ⟨_, hs'⟩) hs' (fun w0 σ0 h0 => h0.trans hf')
        · cases hok.2
      | const t => simp only [comp, Option.some.injEq] at hc; exact raw hc.symm (fun _ _ h => by cases h)
      | global t => simp only [comp, Option.some.injEq] at hc; exact raw hc.symm (fun _ _ h => by cases h)
    | invoke r mm => simp only [comp, Option.some.injEq] at hc; exact raw hc.symm (fun _ _ h => by cases h)
    | builtin b =>
      cases b with
      | len =>
        simp only [comp] at hc
        split at hc
        · rename_i x t hargs htys
          have ea : args = #[x] := by apply Array.ext'; simpa using hargs
          have et : argTypes = #[t] := by apply Array.ext'; simpa using htys
          subst ea et
          have hx := opd x (by simp [Op.operands, Call.operands])
          split at hc
          · rename_i hu
            cases hc
            obtain ⟨n', hn, hK⟩ := onSome_elim h
            obtain ⟨st, hxs, rfl⟩ := lenv_str hn
            refine val _ ?_ hK
            simp [execOp, resolve, invoke, builtin, Builtin.len_, hx, hxs, run_underlying hu, goInt]
          · rename_i e hu
            cases hc
            obtain ⟨n', hn, hK⟩ := onSome_elim h
            obtain ⟨aa, cc, hxs⟩ := lenv_sl hn
            refine val _ ?_ hK
            simp [execOp, resolve, invoke, builtin, Builtin.len_, hx, hxs, run_underlying hu, goInt]
          · rename_i kt e hu
            split at hc
            · rename_i q hq
              cases hc
              obtain ⟨v, hv, hK⟩ := onSome_elim h
              refine val _ ?_ hK
              simp only [mreadV] at hv
              split at hv
              · rename_i hm
                cases hv
                simp [execOp, resolve, invoke, builtin, Builtin.len_, hx, hm, run_underlying hu, goInt]
              · rename_i b hm
                obtain ⟨o, ho, hv⟩ := Option.bind_eq_some_iff.1 hv
                have ha := hs b o ho
                cases o with
                | mp l =>
                  obtain ⟨es, c, ha, hE⟩ := ha
                  cases hv
                  have hl : es.size = l.length := by have := congrArg List.length hE.kv; simpa using this
                  simp [execOp, resolve, invoke, builtin, Builtin.len_, hx, hm, run_underlying hu, goInt, MapKept.run_getObj_map ha, hl]
                | im l =>
                  obtain ⟨es, c, ha, hE⟩ := ha
                  cases hv
                  have hl : es.size = l.length := by have := congrArg List.length hE.kv; simpa using this
                  simp [execOp, resolve, invoke, builtin, Builtin.len_, hx, hm, run_underlying hu, goInt, MapKept.run_getObj_map ha, hl]
                | _ => cases hv
              · cases hv
            · cases hc
          · cases hc
        · cases hc
      | delete =>
        simp only [comp] at hc
        split at hc
        · rename_i x i t t2 hargs htys
          split at hc
          · rename_i num e hq
            cases hc
            have ea : args = #[x, i] := by apply Array.ext'; simpa using hargs
            have et : argTypes = #[t, t2] := by apply Array.ext'; simpa using htys
            subst ea et
            have hx := opd x (by simp [Op.operands, Call.operands])
            have hi := opd i (by simp [Op.operands, Call.operands])
            obtain ⟨σ', hσ, hK⟩ := onSome_elim h
            obtain ⟨b, x', hb, hsat, hfr, hrun⟩ := mdel_runs (ts := #[t, t2]) (ty := type) hs rfl hq hσ
            refine wp_of_run (w' := World.put w b x') ?_ (hk _ _ _ hK hsat hfr)
            simp [execOp, resolve, invoke, builtin, hx, hi, hrun, turnv]
          · cases hc; exact raw rfl (fun _ _ h => by cases h)
        · cases hc; exact raw rfl (fun _ _ h => by cases h)
      | clear =>
        simp only [comp] at hc
        split at hc
        · rename_i x t hargs htys
          split at hc
          · rename_i q hq
            cases hc
            have ea : args = #[x] := by apply Array.ext'; simpa using hargs
            have et : argTypes = #[t] := by apply Array.ext'; simpa using htys
            subst ea et
            have hx := opd x (by simp [Op.operands, Call.operands])
            obtain ⟨σ', hσ, hK⟩ := onSome_elim h
            obtain ⟨b, x', hb, hsat, hfr, hrun⟩ := mclr_runs (ts := #[t]) (ty := type) hs rfl hq hσ
            refine wp_of_run (w' := World.put w b x') ?_ (hk _ _ _ hK hsat hfr)
            simp [execOp, resolve, invoke, builtin, hx, hrun, turnv]
          · cases hc; exact raw rfl (fun _ _ h => by cases h)
        · cases hc; exact raw rfl (fun _ _ h => by cases h)
      | append =>
        simp only [comp] at hc
        split at hc
        · rename_i x y t u hargs htys
          split at hc
          · rename_i htu
            subst htu
            split at hc
            · rename_i E ht
              split at hc
              · rename_i i hi
                split at hc
                · rename_i z hz
                  split at hc
                  · rename_i hzz
                    cases hc
                    have ea : args = #[x, y] := by apply Array.ext'; simpa using hargs
                    have et : argTypes = #[t, t] := by apply Array.ext'; simpa using htys
                    subst ea et
                    exact app_sound rfl ht hi hz hzz.1 hzz.2 hin hr hs h hk
                  · cases hc
                · cases hc
              · cases hc
            · cases hc
          · cases hc
        · cases hc
      | max =>
        simp only [comp] at hc
        split at hc
        · rename_i x y hargs
          have ea : args = #[x, y] := by apply Array.ext'; simpa using hargs
          subst ea
          cases hc
          obtain ⟨k, u, hx, h⟩ := onInt_elim h
          obtain ⟨k', v, hy, h⟩ := onInt_elim h
          have hx' := opd x (by simp [Op.operands, Call.operands])
          have hy' := opd y (by simp [Op.operands, Call.operands])
          refine val _ ?_ h
          simp [execOp, resolve, invoke, builtin, Builtin.max_, Builtin.max2, hx', hy', hx, hy]
        · cases hc; exact raw rfl (fun _ _ h => by cases h)
      | min =>
        simp only [comp] at hc
        split at hc
        · rename_i x y hargs
          have ea : args = #[x, y] := by apply Array.ext'; simpa using hargs
          subst ea
          cases hc
          obtain ⟨k, u, hx, h⟩ := onInt_elim h
          obtain ⟨k', v, hy, h⟩ := onInt_elim h
          have hx' := opd x (by simp [Op.operands, Call.operands])
          have hy' := opd y (by simp [Op.operands, Call.operands])
          refine val _ ?_ h
          simp [execOp, resolve, invoke, builtin, Builtin.min_, Builtin.min2, hx', hy', hx, hy]
        · cases hc; exact raw rfl (fun _ _ h => by cases h)
      | _ => simp only [comp, Option.some.injEq] at hc; exact raw hc.symm (fun _ _ h => by cases h)
  | convert src dst x =>
    simp only [comp] at hc
    split at hc
    · rename_i k1 k hsrc hdst
      cases hc
      obtain ⟨k', v, hx, h⟩ := onInt_elim h
      refine val _ ?_ h
      have hx' := opd x (by simp [Op.operands])
      simp [execOp, hx', hx, convert, run_underlying hsrc, run_underlying hdst, Conv.intToInt]
    · rename_i k1 hsrc hdst
      cases hc
      have hx' := opd x (by simp [Op.operands])
      obtain ⟨r, hb, hK⟩ := onSome_elim h
      refine val r ?_ hK
      obtain ⟨k, n, e2, rfl⟩ := lf_rune hb
      simp only [execOp, hx', e2, Sem.run_bind, run_convert_int_string w src dst k n (by rw [hsrc]; rfl) hdst, Result.andThen_ok, Sem.run_pure]
    · rename_i e hsrc hdst
      split at hc
      · rename_i he
        cases hc
        have hx' := opd x (by simp [Op.operands])
        obtain ⟨bk, off, n, c, e1, h⟩ := onSlice_elim h
        obtain ⟨vs, e2, h⟩ := onSome_elim h
        obtain ⟨ys, e3, hK⟩ := onSome_elim h
        obtain ⟨hl, hcell⟩ := rdn_cells hs e2
        have hm := u8s_map e3
        subst hm
        refine val _ ?_ hK
        have hrun := run_convert_bytes_arg (P := P) w src e hsrc he bk off n c ys (by simpa using hl) (fun i hi => by
          have hlt : i < ys.length := by simpa [← hl] using hi
          have := hcell i (.int .u8 (ys.getD i 0)) (by simp [List.getElem?_eq_getElem hlt, List.getD_eq_getElem?_getD])
          rw [addr_add] at this; exact this) dst hdst
        simp only [execOp, hx', e1, Sem.run_bind, hrun, Result.andThen_ok, Sem.run_pure]
      · cases hc; exact raw rfl (fun _ _ h => by cases h)
    · cases hc; exact raw rfl (fun _ _ h => by cases h)
  | slice t x lo hi mx =>
    simp only [comp] at hc
    split at hc
    · rename_i i j ht
      cases hc
      have hx := opd x (by simp [Op.operands])
      have hi := opd i (by simp [Op.operands])
      have hj := opd j (by simp [Op.operands])
      obtain ⟨r, hb, hK⟩ := onSome_elim h
      refine val r ?_ hK
      obtain ⟨bs, k1, v1, k2, v2, e1, e2, e3, ⟨h1, h2, h3⟩, rfl⟩ := lf_sls hb
      have hrun := run_slice_string (P := P) w t bs k1 k2 v1 v2 ht h1 h2 h3
      simp only [execOp, hx, hi, hj, e1, e2, e3, Option.map_some, Option.map_none, Sem.run_bind, Instr.sliceAt, run_underlying ht, Result.andThen_ok, hrun, Sem.run_pure]
    · rename_i e i ht
      simp only [Option.map_eq_some_iff] at hc
      obtain ⟨inf, hinf, rfl⟩ := hc
      have hx := opd x (by simp [Op.operands])
      have hi := opd i (by simp [Op.operands])
      obtain ⟨r, hb, hK⟩ := onSome_elim h
      refine val r ?_ hK
      obtain ⟨ad, n', c', k1, v1, e1, e2, ⟨h1, h2⟩, rfl⟩ := lf_sll hb
      have he : P.elem t = e := by simp [Program.elem, ht]
      have ht' : P.underlying t = some (.slice (P.elem t)) := by rw [he]; exact ht
      have hrun := run_slice_l (P := P) w t ad n' c' ht' k1 v1 h1 h2
      rw [he] at hrun
      simp only [sizeOf, typeInfo, run_program, Sem.run_bind, Result.andThen_ok, hinf, Sem.run_pure] at hrun
      simp only [execOp, hx, hi, e1, e2, Option.map_some, Option.map_none, Sem.run_bind, Instr.sliceAt, run_underlying ht, Result.andThen_ok, hrun, Sem.run_pure]
    · rename_i e j ht
      simp only [Option.map_eq_some_iff] at hc
      obtain ⟨inf, hinf, rfl⟩ := hc
      have hx := opd x (by simp [Op.operands])
      have hj := opd j (by simp [Op.operands])
      obtain ⟨r, hb, hK⟩ := onSome_elim h
      refine val r ?_ hK
      obtain ⟨ad, n', c', k1, v1, e1, e2, ⟨h1, h2⟩, rfl⟩ := lf_slh hb
      have he : P.elem t = e := by simp [Program.elem, ht]
      have ht' : P.underlying t = some (.slice (P.elem t)) := by rw [he]; exact ht
      have hrun := run_slice_h (P := P) w t ad n' c' ht' k1 v1 h1 h2
      rw [he] at hrun
      simp only [sizeOf, typeInfo, run_program, Sem.run_bind, Result.andThen_ok, hinf, Sem.run_pure] at hrun
      simp only [execOp, hx, hj, e1, e2, Option.map_some, Option.map_none, Sem.run_bind, Instr.sliceAt, run_underlying ht, Result.andThen_ok, hrun, Sem.run_pure]
    · cases hc; exact raw rfl (fun _ _ h => by cases h)
  | index t x i =>
    simp only [comp] at hc
    split at hc
    · rename_i hu
      cases hc
      obtain ⟨b, hx, h⟩ := onStr_elim h
      simp only [onI64] at h
      split at h
      · rename_i j hj
        obtain ⟨⟨h0, h1⟩, hK⟩ := h
        refine val _ ?_ hK
        have hx' := opd x (by simp [Op.operands])
        have hi' := opd i (by simp [Op.operands])
        have hlt : j.toNat < b.size := by omega
        have hb : b[j.toNat]? = some (b.data.toList.getD j.toNat 0) := by
          rw [getElem?_pos b j.toNat hlt, List.getD_eq_getElem?_getD, List.getElem?_eq_getElem (by simpa using hlt)]
          rfl
        simp [execOp, hx', hx, hi', hj, Instr.index, asIntOf, run_underlying hu, h0, hb]
      · exact h.elim
    · cases hc; exact raw rfl (fun _ _ h => by cases h)
  | makeFunc fn first captured =>
    cases fn with
    | func f =>
      simp only [comp] at hc
      split at hc
      · rename_i h0
        cases hc
        obtain ⟨r, hb, hK⟩ := onSome_elim (show onSome (lf (.clo f) (captured.toList.map (ev s))) (fun v => K v σ) from h)
        refine val r ?_ hK
        have e : r = .func (.func f) #[] (captured.toList.map (ev s)).toArray := (Option.some.inj hb).symm
        have hargs : captured.map a.eval = (captured.toList.map (ev s)).toArray := by
          apply Array.ext'
          simp only [Array.toList_map]
          exact List.map_congr_left fun x hx => opd x (by simp [Op.operands, h0]; exact Array.mem_def.2 hx)
        rw [e, ← hargs, h0]
        simp [execOp, Instr.makeFunc]
      · cases hc; exact raw rfl (fun _ _ h => by cases h)
    | _ => simp only [comp, Option.some.injEq] at hc; exact raw hc.symm (fun _ _ h => by cases h)
  | makeMap t r =>
    cases r with
    | some x => simp only [comp, Option.some.injEq] at hc; exact raw hc.symm (fun _ _ h => by cases h)
    | none =>
      simp only [comp] at hc
      split at hc
      · rename_i num e hq
        cases hc
        refine wp_of_run (v := .map (some w.heap.size)) (w' := World.push w (.map #[] 0)) ?_ (hk _ _ _ (h _ (hs.none_of_le (Nat.le_refl _))) (hs.push _ _ ?_) (fun _ _ hf => hf.push _ _))
        · simp [execOp, Instr.makeMap, newObj, Sem.run, World.push]
        · cases num
          · exact ⟨_, _, rfl, clear_none⟩
          · exact ⟨_, _, rfl, clear_none⟩
      · cases hc; exact raw rfl (fun _ _ h => by cases h)
  | lookup t x i ok =>
    have hx : a.eval x = ev s x := opd x (by simp [Op.operands])
    have hi : a.eval i = ev s i := opd i (by simp [Op.operands])
    simp only [comp] at hc
    split at hc
    · rename_i num e hq
      simp only [Option.bind_eq_some_iff, Option.map_eq_some_iff] at hc
      obtain ⟨inf, hinf, z, hz, rfl⟩ := hc
      obtain ⟨v, hv, hK⟩ := onSome_elim h
      refine val _ ?_ hK
      have hrun := mread_runs (P := P) hs hq (fun w => zero_run hinf hz) hv
      simp only [execOp, hx, hi, Sem.run_bind, hrun, Result.andThen_ok, Sem.run_pure]
    · cases hc; exact raw rfl (fun _ _ h => by cases h)
  | mapUpdate t x i v =>
    have hx : a.eval x = ev s x := opd x (by simp [Op.operands])
    have hi : a.eval i = ev s i := opd i (by simp [Op.operands])
    have hv : a.eval v = ev s v := opd v (by simp [Op.operands])
    simp only [comp] at hc
    split at hc
    · rename_i num e hq
      cases hc
      obtain ⟨σ', hσ, hK⟩ := onSome_elim h
      obtain ⟨b, x', hb, hsat, hfr, hrun⟩ := mput_runs (P := P) hs hq hσ
      refine wp_of_skip (w' := World.put w b x') ?_ (hk _ _ _ hK hsat hfr)
      simp only [execOp, hx, hi, hv, Sem.run_bind, hrun, Result.andThen_ok, Sem.run_pure]
    · cases hc; exact raw rfl (fun _ _ h => by cases h)
  | makeSlice t l c =>
    simp only [comp] at hc
    split at hc
    · rename_i e ht hlc
      have hlc := sameOp_eq hlc
      subst hlc
      split at hc
      · rename_i i hi
        split at hc
        · rename_i z hz
          split at hc
          · rename_i hzz
            cases hc
            have hl := opd l (by simp [Op.operands])
            obtain ⟨j, hj, ⟨h0, h1, h2, _⟩, hK⟩ := onI64_el h
            have hrun := run_make (P := P) w t e i z ht hi hz .i64 .i64 j j h0 (Int.le_refl _) (by rw [Int.mul_comm]; omega) (by omega)
            refine wp_of_run (v := .slice (some ⟨w.heap.size, 0, none⟩) j.toNat j.toNat) (w' := World.push w (.cells (madeCells z.cells (j.toNat * i.size)) e)) ?_ (hk _ _ _ (hK _ (hs.none_of_le (Nat.le_refl _))) (hs.push _ _ ⟨[], ?_, ?_⟩) (fun _ _ hf => hf.push _ _))
            · simp only [execOp, hl, hj, Sem.run_bind, hrun, Result.andThen_ok, Sem.run_pure]; rfl
            · simp [cl, hzz.1]
            · rw [List.append_nil, made_rows hzz.1 hzz.2]; rfl
          · cases hc; exact raw rfl (fun _ _ h => by cases h)
        · cases hc; exact raw rfl (fun _ _ h => by cases h)
      · cases hc; exact raw rfl (fun _ _ h => by cases h)
    · cases hc; exact raw rfl (fun _ _ h => by cases h)
  | _ => simp only [comp, Option.some.injEq] at hc; exact raw hc.symm (fun _ _ h => by cases h)
end Go.Sp
