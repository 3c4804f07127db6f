/- Texts of mine, part 1 of 4, laid together: Heaps of which a part is known: what a world holds of them, and what a piece of code does to them. What one operation does to the known part of a heap. A region that draws its order: told in the text's order, it holds in every one. What a piece of code does to the known part of a heap. A function, known by its text. Words by which the compiled text is worked out. Words for calls, frames and loops  No condition. -/
import Derived.Orders
import Derived.WalkKit
import Derived.WalkSpells
import Derived.Deep.MidRow
import Derived.MapKept
import Derived.Laws.MakeOwn
import Derived.Laws.BytesArg
import Derived.Laws.Runes
import Derived.Deep.LoopGhost
-- SpA
namespace Go.Sp
/-- Entries of a map, in order of birth. -/
def ents {κ : Type} (enc : κ → Value) : Nat → List (κ × Value) → List MapEntry
  | _, [] => []
  | n, p :: r => { key := enc p.1, val := p.2, born := n } :: ents enc (n + 1) r
/-- A map's entries hold l, in this order; each was born behind the one before. -/
structure Ents {κ : Type} (enc : κ → Value) (l : List (κ × Value)) (es : Array MapEntry) (clock : Nat) : Prop where
  kv : es.toList.map (fun e => (e.key, e.val)) = l.map (fun p => (enc p.1, p.2))
  born : es.toList.Pairwise (fun a b => a.born < b.born)
  clock : ∀ e ∈ es.toList, e.born < clock
theorem ents_kv {κ : Type} (enc : κ → Value) : ∀ (l : List (κ × Value)) (n : Nat), (ents enc n l).map (fun e => (e.key, e.val)) = l.map (fun p => (enc p.1, p.2))
  | [], _ => rfl
  | p :: r, n => by simp only [ents, List.map_cons, ents_kv enc r (n + 1)]
theorem ents_born {κ : Type} (enc : κ → Value) : ∀ (l : List (κ × Value)) (n : Nat), (ents enc n l).Pairwise (fun a b => a.born < b.born) ∧ ∀ e ∈ ents enc n l, n ≤ e.born ∧ e.born < n + l.length
  | [], _ => ⟨List.Pairwise.nil, fun e h => by cases h⟩
  | p :: r, n => by
    obtain ⟨h1, h2⟩ := ents_born enc r (n + 1)
    refine ⟨List.pairwise_cons.2 ⟨fun e he => by have := (h2 e he).1; show n < e.born; omega, h1⟩, fun e he => ?_⟩
    rcases List.mem_cons.1 he with rfl | he
    · exact ⟨Nat.le_refl _, by show n < n + (p :: r).length; simp⟩
    · have := h2 e he
      simp only [List.length_cons]; omega
theorem ents_real {κ : Type} (enc : κ → Value) (l : List (κ × Value)) : Ents enc l (ents enc 0 l).toArray l.length :=
  ⟨ents_kv enc l 0, (ents_born enc l 0).1, fun e he => by have := ((ents_born enc l 0).2 e he).2; omega⟩
def mget {κ : Type} [DecidableEq κ] : List (κ × Value) → κ → Option Value
  | [], _ => none
  | p :: r, k => if k = p.1 then some p.2 else mget r k
def mput {κ : Type} [DecidableEq κ] : List (κ × Value) → κ → Value → List (κ × Value)
  | [], k, v => [(k, v)]
  | p :: r, k, v => if k = p.1 then (k, v) :: r else p :: mput r k v
def mdel {κ : Type} [DecidableEq κ] : List (κ × Value) → κ → List (κ × Value)
  | [], _ => []
  | p :: r, k => if k = p.1 then r else p :: mdel r k
/-- A block that is known: all its cells; the first of its cells (a row that may have room behind them); that it is there, no more; or as it is, to be read alone. -/
inductive Blk where
  | cells (cs : List Value) (t : TypeId)
  | row (cs : List Value) (room : Nat) (t : TypeId)
  | dead
  | ro (o : Obj)
  | mp (l : List (ByteArray × Value))
  | im (l : List (Int × Value))
abbrev Hp := Nat → Option Blk
def upd (σ : Hp) (b : Nat) (o : Blk) : Hp := fun k => if k = b then some o else σ k
def Blk.at : Blk → Option Obj → Prop
  | .cells cs t, x => x = some (.cells cs.toArray t (0, 0))
  | .row cs room t, x => ∃ rest : List Value, cs.length + rest.length = room ∧ x = some (.cells (cs ++ rest).toArray t (0, 0))
  | .dead, x => x.isSome = true
  | .ro o, x => x = some o
  | .mp l, x => ∃ es c, x = some (.map es c) ∧ Ents Value.string l es c
  | .im l, x => ∃ es c, x = some (.map es c) ∧ Ents (Value.int .i64) l es c
def Sat (σ : Hp) (w : World) : Prop := ∀ b o, σ b = some o → o.at w.heap[b]?
/-- From w to w': of blocks that σ does not know nothing has turned, and σ' knows no old block more. -/
structure Fr (w w' : World) (σ σ' : Hp) : Prop where
  os : w'.os = w.os
  tape : w'.tape = w.tape
  output : w'.output = w.output
  size : w.heap.size ≤ w'.heap.size
  block : ∀ k, k < w.heap.size → σ k = none → w'.heap[k]? = w.heap[k]?
  know : ∀ k, k < w.heap.size → σ k = none → σ' k = none
/-- σ'' knows no more than σ'. -/
def Sub (σ'' σ' : Hp) : Prop := ∀ k, σ'' k = none ∨ σ'' k = σ' k
theorem Fr.refl (w : World) (σ : Hp) : Fr w w σ σ := ⟨rfl, rfl, rfl, Nat.le_refl _, fun _ _ _ => rfl, fun _ _ h => h⟩
theorem Fr.trans {w w1 w2 : World} {σ σ1 σ2 : Hp} (h : Fr w w1 σ σ1) (k : Fr w1 w2 σ1 σ2) : Fr w w2 σ σ2 :=
  ⟨k.os.trans h.os, k.tape.trans h.tape, k.output.trans h.output, Nat.le_trans h.size k.size,
   fun i hi hn => (k.block i (Nat.lt_of_lt_of_le hi h.size) (h.know i hi hn)).trans (h.block i hi hn),
   fun i hi hn => k.know i (Nat.lt_of_lt_of_le hi h.size) (h.know i hi hn)⟩
theorem Fr.sub {w w' : World} {σ σ' σ'' : Hp} (h : Fr w w' σ σ') (s : Sub σ'' σ') : Fr w w' σ σ'' :=
  ⟨h.os, h.tape, h.output, h.size, h.block, fun k hk hn => (s k).elim id fun e => e.trans (h.know k hk hn)⟩
theorem Sat.sub {w : World} {σ σ' : Hp} (h : Sat σ w) (s : Sub σ' σ) : Sat σ' w := fun b o hb => by
  rcases s b with e | e
  · rw [e] at hb; cases hb
  · exact h b o (e ▸ hb)
theorem Sub.refl (σ : Hp) : Sub σ σ := fun _ => .inr rfl
theorem Sub.trans {a b c : Hp} (h : Sub a b) (k : Sub b c) : Sub a c := fun i => by
  rcases h i with e | e
  · exact .inl e
  · rcases k i with f | f
    · exact .inl (e.trans f)
    · exact .inr (e.trans f)
theorem Blk.at_some {o : Blk} {x : Option Obj} (h : o.at x) : x.isSome = true := by
  cases o with
  | cells cs t => have h : x = _ := h; rw [h]; rfl
  | row cs room t => obtain ⟨r, _, h⟩ := h; rw [h]; rfl
  | dead => exact h
  | ro o => have h : x = _ := h; rw [h]; rfl
  | mp l => obtain ⟨_, _, h, _⟩ := h; rw [h]; rfl
  | im l => obtain ⟨_, _, h, _⟩ := h; rw [h]; rfl
theorem Sat.lt {σ : Hp} {w : World} (h : Sat σ w) {b : Nat} (hb : σ b ≠ none) : b < w.heap.size := by
  cases hs : σ b with
  | none => exact absurd hs hb
  | some o =>
    have := Blk.at_some (h b o hs)
    rcases Nat.lt_or_ge b w.heap.size with hlt | hge
    · exact hlt
    · rw [Array.getElem?_eq_none hge] at this; cases this
theorem Sat.none_of_le {σ : Hp} {w : World} (h : Sat σ w) {b : Nat} (hb : w.heap.size ≤ b) : σ b = none := by
  cases hs : σ b with
  | none => rfl
  | some o => exact absurd (h.lt (b := b) (by rw [hs]; simp)) (by omega)
theorem upd_same (σ : Hp) (b : Nat) (o : Blk) : upd σ b o b = some o := by simp [upd]
theorem upd_ne (σ : Hp) {b k : Nat} (o : Blk) (h : k ≠ b) : upd σ b o k = σ k := by simp [upd, h]
theorem upd_self {σ : Hp} {b : Nat} {o : Blk} (h : σ b = some o) : upd σ b o = σ := by
  funext k; by_cases e : k = b
  · subst e; simp [upd, h]
  · simp [upd, e]
theorem upd_upd (σ : Hp) (b : Nat) (o o' : Blk) : upd (upd σ b o) b o' = upd σ b o' := by
  funext k; by_cases e : k = b <;> simp [upd, e]
theorem upd_comm (σ : Hp) {b c : Nat} (o o' : Blk) (h : b ≠ c) : upd (upd σ b o) c o' = upd (upd σ c o') b o := by
  funext k; by_cases e : k = b
  · subst e; simp [upd, h]
  · simp [upd, e]
/-- A new block. -/
def World.push (w : World) (o : Obj) : World := { w with heap := w.heap.push o }
theorem Sat.push {σ : Hp} {w : World} (h : Sat σ w) (o : Blk) (x : Obj) (hx : o.at (some x)) : Sat (upd σ w.heap.size o) (World.push w x) := fun b o' hb => by
  show o'.at (w.heap.push x)[b]?
  rw [Array.getElem?_push]
  by_cases e : b = w.heap.size
  · subst e; rw [upd_same] at hb; cases hb; rw [if_pos rfl]; exact hx
  · rw [upd_ne _ _ e] at hb; rw [if_neg e]; exact h b o' hb
theorem Fr.push {w w' : World} {σ σ' : Hp} (h : Fr w w' σ σ') (o : Blk) (x : Obj) : Fr w (World.push w' x) σ (upd σ' w'.heap.size o) :=
  ⟨h.os, h.tape, h.output, by show _ ≤ (w'.heap.push x).size; rw [Array.size_push]; exact Nat.le_succ_of_le h.size,
   fun k hk hn => by
    show (w'.heap.push x)[k]? = _
    rw [Array.getElem?_push, if_neg (by have := h.size; omega)]; exact h.block k hk hn,
   fun k hk hn => by rw [upd_ne _ _ (by have := h.size; omega)]; exact h.know k hk hn⟩
/-- A block's cells are other ones. -/
def World.put (w : World) (b : Nat) (x : Obj) : World := { w with heap := w.heap.setIfInBounds b x }
theorem Sat.put {σ : Hp} {w : World} (h : Sat σ w) {b : Nat} (hb : b < w.heap.size) (o : Blk) (x : Obj) (hx : o.at (some x)) : Sat (upd σ b o) (World.put w b x) := fun k o' hk => by
  show o'.at (w.heap.setIfInBounds b x)[k]?
  rw [Array.getElem?_setIfInBounds]
  by_cases e : k = b
  · subst e; rw [upd_same] at hk; cases hk; rw [if_pos rfl, if_pos hb]; exact hx
  · rw [upd_ne _ _ e] at hk; rw [if_neg (fun h => e h.symm)]; exact h k o' hk
theorem Fr.put {w w' : World} {σ σ' : Hp} (h : Fr w w' σ σ') {b : Nat} (hb : σ' b ≠ none) (o : Blk) (x : Obj) : Fr w (World.put w' b x) σ (upd σ' b o) :=
  ⟨h.os, h.tape, h.output, by show _ ≤ (w'.heap.setIfInBounds b x).size; rw [Array.size_setIfInBounds]; exact h.size,
   fun k hk hn => by
    show (w'.heap.setIfInBounds b x)[k]? = _
    rw [Array.getElem?_setIfInBounds, if_neg (fun e => hb (by rw [e]; exact h.know k hk hn))]; exact h.block k hk hn,
   fun k hk hn => by rw [upd_ne _ _ (fun e => hb (by rw [← e]; exact h.know k hk hn))]; exact h.know k hk hn⟩
/-- Only counts of the world have turned. -/
theorem Sat.drew {σ : Hp} {w : World} (h : Sat σ w) (n : Nat) : Sat σ { w with drawn := n } := h
theorem Fr.drew {w w' : World} {σ σ' : Hp} (h : Fr w w' σ σ') (n : Nat) : Fr w { w' with drawn := n } σ σ' := ⟨h.os, h.tape, h.output, h.size, h.block, h.know⟩
/-- The slots of a frame, as a function. -/
abbrev Sl := Nat → Value
def put (s : Sl) (d : Nat) (v : Value) : Sl := fun i => if i = d then v else s i
def Rel (n : Nat) (a : Act) (s : Sl) : Prop := a.tmps.size = n ∧ a.defers = [] ∧ ∀ i, i < n → a.tmps.getD i undef = s i
def ev (s : Sl) : Operand → Value
  | .tmp t => s t
  | .const v => v
  | .global g => .pointer (some ⟨g, 0, none⟩)
  | .func f => .func (.func f) #[] #[]
def inR (n : Nat) : Operand → Bool
  | .tmp t => decide (t < n)
  | _ => true
theorem Rel.ev {n : Nat} {a : Act} {s : Sl} (h : Rel n a s) {x : Operand} (hx : inR n x = true) : a.eval x = Sp.ev s x := by
  cases x with
  | tmp t => exact h.2.2 t (by simpa [inR] using hx)
  | _ => rfl
def putO (s : Sl) : Option Nat → Value → Sl
  | some d, v => put s d v
  | none, _ => s
def inO (n : Nat) : Option Nat → Bool
  | some d => decide (d < n)
  | none => true
theorem Rel.put {n : Nat} {a : Act} {s : Sl} (h : Rel n a s) (d : Option Nat) (v : Value) : Rel n (a.put d v) (putO s d v) := by
  cases d with
  | none => exact h
  | some d =>
    obtain ⟨h1, h2, h3⟩ := h
    refine ⟨by simp [Act.put, h1], by simpa [Act.put] using h2, fun i hi => ?_⟩
    have := h3 i hi
    simp only [Act.put, putO, Sp.put, Array.getD_eq_getD_getElem?, Array.getElem?_setIfInBounds] at this ⊢
    by_cases e : i = d
    · subst e; simp [h1, hi]
    · have e' : ¬ d = i := fun h => e h.symm
      simp [e, e', this]
/-- A call's meaning over known parts of the heap. -/
def ACalls (P : Program) (f : FuncId) (args : Array Value) (σ : Hp) (R : Value → Hp → Prop) : Prop :=
  ∀ w, Sat σ w → Calls P f args w fun e w' => ∃ v σ', e = .returned v ∧ Sat σ' w' ∧ Fr w w' σ σ' ∧ R v σ'
theorem ACalls.mono {P : Program} {f : FuncId} {args : Array Value} {σ : Hp} {R R' : Value → Hp → Prop} (h : ACalls P f args σ R) (hr : ∀ v σ', R v σ' → R' v σ') : ACalls P f args σ R' :=
  fun w hw => (h w hw).mono fun _ _ ⟨v, σ', a, b, c, d⟩ => ⟨v, σ', a, b, c, hr _ _ d⟩
end Go.Sp

-- SpB
namespace Go.Sp
open Go.RowKit
set_option linter.unusedSimpArgs false
set_option linter.unusedVariables false
/-- May it lie in one cell? -/
def one : Value → Bool
  | .agg _ => false
  | .tuple _ => false
  | _ => true
def rd (σ : Hp) (b off : Nat) : Option Value :=
  match σ b with
  | some (.cells cs _) => cs[off]?
  | some (.row cs _ _) => cs[off]?
  | some (.ro (.cells cs _ _)) => cs.toList[off]?
  | _ => none
def seg (cs : List Value) (off n : Nat) : Option (List Value) := if off + n ≤ cs.length then some ((cs.drop off).take n) else none
def rdn (σ : Hp) (b off n : Nat) : Option (List Value) :=
  match σ b with
  | some (.cells cs _) => seg cs off n
  | some (.row cs _ _) => seg cs off n
  | some (.ro (.cells cs _ _)) => seg cs.toList off n
  | _ => none
def splice (cs : List Value) (off : Nat) (vs : List Value) : List Value := cs.take off ++ vs ++ cs.drop (off + vs.length)
def wr (σ : Hp) (b off : Nat) (vs : List Value) : Option Hp :=
  match σ b with
  | some (.cells cs t) => if off + vs.length ≤ cs.length then some (upd σ b (.cells (splice cs off vs) t)) else none
  | some (.row cs room t) => if off + vs.length ≤ cs.length then some (upd σ b (.row (splice cs off vs) room t)) else none
  | _ => none
/-- The value, if it is an address; a truth; if there is one. -/
def onPtr (v : Value) (k : Nat → Nat → Prop) : Prop := match v with | .pointer (some ⟨b, o, none⟩) => k b o | _ => False
def onBool (v : Value) (k : Bool → Prop) : Prop := match v with | .bool b => k b | _ => False
def onSome {α : Type} (v : Option α) (k : α → Prop) : Prop := match v with | some a => k a | none => False
theorem onPtr_mk (b o : Nat) (k : Nat → Nat → Prop) : onPtr (.pointer (some ⟨b, o, none⟩)) k = k b o := rfl
theorem onBool_mk (b : Bool) (k : Bool → Prop) : onBool (.bool b) k = k b := rfl
theorem onSome_some {α : Type} (a : α) (k : α → Prop) : onSome (some a) k = k a := rfl
theorem onPtr_elim {v : Value} {k : Nat → Nat → Prop} (h : onPtr v k) : ∃ b o, v = .pointer (some ⟨b, o, none⟩) ∧ k b o := by
  unfold onPtr at h; split at h
  · exact ⟨_, _, rfl, h⟩
  · exact h.elim
theorem onBool_elim {v : Value} {k : Bool → Prop} (h : onBool v k) : ∃ b, v = .bool b ∧ k b := by
  unfold onBool at h; split at h
  · exact ⟨_, rfl, h⟩
  · exact h.elim
theorem onSome_elim {α : Type} {v : Option α} {k : α → Prop} (h : onSome v k) : ∃ a, v = some a ∧ k a := by
  unfold onSome at h; split at h
  · exact ⟨_, rfl, h⟩
  · exact h.elim
def cl (v : Value) : List Value := v.cells.toList
def fillO (s : Sl) (z : List Value) : List (Nat × Nat × Operand) → Option (List Value)
  | [] => some z
  | (off, sz, x) :: r => if (cl (ev s x)).length = sz ∧ off + sz ≤ z.length then fillO s (splice z off (cl (ev s x))) r else none
def lookv (ok : Bool) (z : Value) (r : Option Value) : Value := if ok = true then .tuple #[r.getD z, .bool r.isSome] else r.getD z
/-- What is asked of a map: a key's value (and whether it is there), how many keys. -/
inductive LQ where
  | get (num ok : Bool)
  | size
/-- What is done to a map. -/
inductive LT where
  | put (num : Bool)
  | del (num : Bool)
  | clr
def bread (q : LQ) (z k : Value) : Blk → Option Value
  | .mp l => match q, k with
    | .get false ok, .string s => some (lookv ok z (mget l s))
    | .size, _ => some (.int .i64 l.length)
    | _, _ => none
  | .im l => match q, k with
    | .get true ok, .int .i64 n => some (lookv ok z (mget l n))
    | .size, _ => some (.int .i64 l.length)
    | _, _ => none
  | _ => none
def bturn (q : LT) (k v : Value) : Blk → Option Blk
  | .mp l => match q, k with
    | .put false, .string s => some (.mp (mput l s v))
    | .del false, .string s => some (.mp (mdel l s))
    | .clr, _ => some (.mp [])
    | _, _ => none
  | .im l => match q, k with
    | .put true, .int .i64 n => some (.im (mput l n v))
    | .del true, .int .i64 n => some (.im (mdel l n))
    | .clr, _ => some (.im [])
    | _, _ => none
  | _ => none
def mreadV (σ : Hp) (m : Value) (q : LQ) (z k : Value) : Option Value := match m with
  | .map none => match q, k with
    | .get false ok, .string _ => some (lookv ok z none)
    | .get true ok, .int .i64 _ => some (lookv ok z none)
    | .size, _ => some (.int .i64 0)
    | _, _ => none
  | .map (some b) => (σ b).bind (bread q z k)
  | _ => none
def mturnV (σ : Hp) (m : Value) (q : LT) (k v : Value) : Option Hp := match m with
  | .map (some b) => ((σ b).bind (bturn q k v)).map fun o => upd σ b o
  | _ => none
def turnv : LT → Value
  | .put _ => undef
  | _ => .tuple #[]
/-- What only computes. -/
inductive Lf where
  | sls
  | sll (size : Nat)
  | slh (size : Nat)
  | rune
  | ifn (neg : Bool)
  | aix (n size : Nat)
  | clo (f : FuncId)
def slsv (u v x : Value) : Option Value := match u, v, x with
  | .string b, .int _ i, .int _ j => if 0 ≤ i ∧ i ≤ j ∧ j ≤ b.size then some (.string (b.extract i.toNat j.toNat)) else none
  | _, _, _ => none
def sllv (sz : Nat) (u v : Value) : Option Value := match u, v with
  | .slice a n c, .int _ i => if 0 ≤ i ∧ i ≤ n then some (sliced a i.toNat n c sz) else none
  | _, _ => none
def slhv (sz : Nat) (u v : Value) : Option Value := match u, v with
  | .slice a _ c, .int _ j => if 0 ≤ j ∧ j ≤ c then some (sliced a 0 j.toNat c sz) else none
  | _, _ => none
def runev (u : Value) : Option Value := match u with
  | .int _ i => some (.string (Utf8.encode i))
  | _ => none
def ifnv (neg : Bool) (u : Value) : Option Value := match u with
  | .nilIface => some (.bool (true != neg))
  | .iface _ _ => some (.bool (false != neg))
  | _ => none
def aixv (n sz : Nat) (u v : Value) : Option Value := match u, v with
  | .pointer (some ⟨b, o, none⟩), .int .i64 j => if 0 ≤ j ∧ j < n then some (.pointer (some ⟨b, o + j.toNat * sz, none⟩)) else none
  | _, _ => none
def lf : Lf → List Value → Option Value
  | .aix n sz, [u, v] => aixv n sz u v
  | .sls, [u, v, x] => slsv u v x
  | .sll sz, [u, v] => sllv sz u v
  | .slh sz, [u, v] => slhv sz u v
  | .rune, [u] => runev u
  | .ifn neg, [u] => ifnv neg u
  | .clo f, us => some (.func (.func f) #[] us.toArray)
  | _, _ => none
def u8s : List Value → Option (List Int)
  | [] => some []
  | .int .u8 x :: r => (u8s r).map (x :: ·)
  | _ => none
inductive EqK where
  | bool
  | ptr
  | slice
/-- A binary operation on numbers and texts; of truths, addresses and slices: whether they are equal (of the last two: with nil). -/
def binv (op : BinOp) (x y : Value) : Option Value :=
  match op, x, y with
  | .add, .int k a, .int k' b => if k = k' then some (.int k (k.wrap (a + b))) else none
  | .sub, .int k a, .int k' b => if k = k' then some (.int k (k.wrap (a - b))) else none
  | .mul, .int k a, .int k' b => if k = k' then some (.int k (k.wrap (a * b))) else none
  | .eql, .int k a, .int k' b => if k = k' then some (.bool (a == b)) else none
  | .neq, .int k a, .int k' b => if k = k' then some (.bool (a != b)) else none
  | .lss, .int k a, .int k' b => if k = k' then some (.bool (a < b)) else none
  | .leq, .int k a, .int k' b => if k = k' then some (.bool (a ≤ b)) else none
  | .gtr, .int k a, .int k' b => if k = k' then some (.bool (a > b)) else none
  | .geq, .int k a, .int k' b => if k = k' then some (.bool (a ≥ b)) else none
  | .eql, .string a, .string b => some (.bool (a.toList == b.toList))
  | .neq, .string a, .string b => some (.bool (!(a.toList == b.toList)))
  | .quo, .int k a, .int k' b => if k = k' then (if b = 0 then none else some (.int k (k.wrap (a.tdiv b)))) else none
  | .rem, .int k a, .int k' b => if k = k' then (if b = 0 then none else some (.int k (a.tmod b))) else none
  | .and, .int k a, .int k' b => if k = k' then some (.int k (k.wrap (BitVec.ofInt k.bits a &&& BitVec.ofInt k.bits b).toNat)) else none
  | .or, .int k a, .int k' b => if k = k' then some (.int k (k.wrap (BitVec.ofInt k.bits a ||| BitVec.ofInt k.bits b).toNat)) else none
  | .xor, .int k a, .int k' b => if k = k' then some (.int k (k.wrap (BitVec.ofInt k.bits a ^^^ BitVec.ofInt k.bits b).toNat)) else none
  | .shl, .int k a, .int _ b => if b < 0 then none else some (.int k (k.wrap (a * 2 ^ (min b.toNat k.bits))))
  | .shr, .int k a, .int _ b => if b < 0 then none else some (.int k (a.fdiv (2 ^ (min b.toNat k.bits))))
  | .add, .string a, .string b => if a.size + b.size ≤ 9223372036854775807 then some (.string (a ++ b)) else none
  | _, _, _ => none
/-- What stands in a cell: a number, a truth, a text. -/
inductive Lk where
  | num
  | truth
  | text
/-- Equal, cell by cell. -/
def eq1 : Lk → Value → Value → Option Bool
  | .num, .int k a, .int k' b => if k = k' then some (a == b) else none
  | .truth, .bool a, .bool b => some (a == b)
  | .text, .string a, .string b => some (a.toList == b.toList)
  | _, _, _ => none
def eqL : List Lk → List Value → List Value → Option Bool
  | [], [], [] => some true
  | k :: ks, a :: as, b :: bs => (eq1 k a b).bind fun x => (eqL ks as bs).map fun y => x && y
  | _, _, _ => none
def eqa (ks : List Lk) : Value → Value → Option Bool
  | .agg a, .agg b => eqL ks a.toList b.toList
  | _, _ => none
def fldv (sz : Option Nat) (off : Nat) : Value → Option Value
  | .agg cs => match sz with
    | none => cs.toList[off]?
    | some n => (seg cs.toList off n).map fun vs => .agg vs.toArray
  | _ => none
def eqv (k : EqK) (x y : Value) : Option Bool :=
  match k, x, y with
  | .bool, .bool a, .bool b => some (a == b)
  | .ptr, .pointer none, .pointer b => some b.isNone
  | .ptr, .pointer (some _), .pointer none => some false
  | .slice, .slice none _ _, .slice b _ _ => some b.isNone
  | .slice, .slice (some _) _ _, .slice none _ _ => some false
  | _, _, _ => none
def lenv : Bool → Value → Option Nat
  | true, .slice _ n _ => some n
  | false, .string s => some s.size
  | _, _ => none
def mkO (op : Op) (ty : TypeId) : Oper := { dst := none, op := op, type := ty, pos := "", after := #[], guard := none }
inductive M where
  | raw (op : Op) (ty : TypeId)
  | hop (op : Op) (ty : TypeId)
  | mv (x : Operand)
  | pick (c a b : Operand)
  | nilc (x : Operand)
  | fa (off : Nat) (x : Operand)
  | ia (size : Nat) (x i : Operand)
  | bin (op : BinOp) (x y : Operand)
  | eqs (neg : Bool) (k : EqK) (x y : Operand)
  | nt (x : Operand)
  | ext (i : Nat) (x : Operand)
  | len (t : Bool) (x : Operand)
  | bld (z : List Value) (ps : List (Nat × Nat × Operand))
  | conv (k : IntKind) (x : Operand)
  | ixs (x i : Operand)
  | mx (up : Bool) (x y : Operand)
  | eqa (neg : Bool) (ks : List Lk) (x y : Operand)
  | fld (sz : Option Nat) (off : Nat) (x : Operand)
  | new (T : TypeId) (z : List Value)
  | box (T : TypeId) (x : Operand)
  | lit (E : TypeId) (n size : Nat) (z : List Value) (ps : List (Nat × Nat × Operand))
  | ld (sz : Option Nat) (x : Operand)
  | st (sz : Nat) (a x : Operand)
  | call (f : FuncId) (args : List Operand)
  | app (E size bytes : Nat) (x y : Operand)
  | mkmap (num : Bool)
  | look (q : LQ) (z : Value) (x i : Operand)
  | mset (q : LT) (x i v : Operand)
  | mks (E size bytes : Nat) (z : List Value) (n : Operand)
  | fnl (g : Lf) (xs : List Operand)
  | bys (x : Operand)
  | callv (x : Operand) (args : List Operand)
def appK (E size bytes : Nat) (vx vy : Value) (K : Value → Hp → Prop) (σ : Hp) : Prop :=
    (∃ A m c, vy = .slice A m c ∧ m = 0 ∧ ((vx = .slice none 0 0 ∧ K (.slice none 0 0) σ) ∨ ∃ b n cap, vx = .slice (some ⟨b, 0, none⟩) n cap ∧ n ≤ cap ∧ K (.slice (some ⟨b, 0, none⟩) n cap) σ)) ∨
    (∃ b off m c ys, vy = .slice (some ⟨b, off, none⟩) m c ∧ rdn σ b off (m * size) = some ys ∧ ys.all one = true ∧
      ((m = 0 ∧ vx = .slice none 0 0 ∧ K (.slice none 0 0) σ) ∨
       (0 < m ∧ vx = .slice none 0 0 ∧ m * bytes ≤ 140737488355328 ∧ m ≤ maxLen ∧ ∀ b' c', σ b' = none → m ≤ c' → K (.slice (some ⟨b', 0, none⟩) m c') (upd σ b' (.row ys (c' * size) E))) ∨
       ∃ g n cap xs, vx = .slice (some ⟨g, 0, none⟩) n cap ∧ (∃ tl, σ g = some (.row (xs ++ tl) (cap * size) E)) ∧ xs.length = n * size ∧ n ≤ cap ∧ (n + m) * bytes ≤ 140737488355328 ∧ n + m ≤ maxLen ∧
         ∀ b' c', (b' = g ∧ c' = cap ∧ n + m ≤ cap ∨ σ b' = none ∧ cap < n + m) → n + m ≤ c' → K (.slice (some ⟨b', 0, none⟩) (n + m) c') (upd (upd σ g .dead) b' (.row (xs ++ ys) (c' * size) E))))
def onSlice (v : Value) (k : Nat → Nat → Nat → Prop) : Prop := match v with | .slice (some ⟨b, o, none⟩) n _ => k b o n | _ => False
theorem onSlice_mk (b o n c : Nat) (k : Nat → Nat → Nat → Prop) : onSlice (.slice (some ⟨b, o, none⟩) n c) k = k b o n := rfl
def onI64 (v : Value) (k : Int → Prop) : Prop := match v with | .int .i64 n => k n | _ => False
theorem onI64_mk (n : Int) (k : Int → Prop) : onI64 (.int .i64 n) k = k n := rfl
def onTuple (v : Value) (k : Array Value → Prop) : Prop := match v with | .tuple vs => k vs | _ => False
theorem onTuple_mk (vs : Array Value) (k : Array Value → Prop) : onTuple (.tuple vs) k = k vs := rfl
def onInt (v : Value) (k : IntKind → Int → Prop) : Prop := match v with | .int q n => k q n | _ => False
theorem onInt_mk (q : IntKind) (n : Int) (k : IntKind → Int → Prop) : onInt (.int q n) k = k q n := rfl
def onStr (v : Value) (k : ByteArray → Prop) : Prop := match v with | .string b => k b | _ => False
theorem onStr_mk (b : ByteArray) (k : ByteArray → Prop) : onStr (.string b) k = k b := rfl
theorem onSlice_elim {v : Value} {k : Nat → Nat → Nat → Prop} (h : onSlice v k) : ∃ b o n c, v = .slice (some ⟨b, o, none⟩) n c ∧ k b o n := by
  unfold onSlice at h; split at h
  · exact ⟨_, _, _, _, rfl, h⟩
  · exact h.elim
theorem onInt_elim {v : Value} {k : IntKind → Int → Prop} (h : onInt v k) : ∃ q n, v = .int q n ∧ k q n := by
  unfold onInt at h; split at h
  · exact ⟨_, _, rfl, h⟩
  · exact h.elim
theorem onStr_elim {v : Value} {k : ByteArray → Prop} (h : onStr v k) : ∃ b, v = .string b ∧ k b := by
  unfold onStr at h; split at h
  · exact ⟨_, rfl, h⟩
  · exact h.elim
/-- A function that has a text of its own. -/
def okF (P : Program) (f : FuncId) : Bool := (P.inits.idxOf? f).isNone && match P.funcs[f]? with | some fn => !(fn.name == "runtime.NumGoroutine" || fn.body.isNone) | none => false
/-- What an operation does to what is known. -/
def mop (P : Program) (m : M) (K : Value → Hp → Prop) (s : Sl) (σ : Hp) : Prop :=
  match m with
  | .raw op ty => ∃ v, (∀ w, (execOp (ev s) (mkO op ty)).run P w = .ok (.value v) w) ∧ K v σ
  | .hop op ty => (∀ cs b, op ≠ .select cs b) ∧ ∃ R : Value → Hp → Prop, (∀ w, Sat σ w → ∃ v w' σ', (execOp (ev s) (mkO op ty)).run P w = .ok (.value v) w' ∧ Sat σ' w' ∧ (∀ w0 σ0, Fr w0 w σ0 σ → Fr w0 w' σ0 σ') ∧ R v σ') ∧ ∀ v σ', R v σ' → (∃ w, Sat σ' w) → K v σ'
  | .mv x => K (ev s x) σ
  | .pick c a b => onBool (ev s c) fun t => K (if t = true then ev s a else ev s b) σ
  | .nilc x => onPtr (ev s x) fun b o => K (.pointer (some ⟨b, o, none⟩)) σ
  | .fa off x => onPtr (ev s x) fun b o => K (.pointer (some ⟨b, o + off, none⟩)) σ
  | .ia size x i => onSlice (ev s x) fun b o n => onI64 (ev s i) fun j => (0 ≤ j ∧ j < n) ∧ K (.pointer (some ⟨b, o + j.toNat * size, none⟩)) σ
  | .bin op x y => onSome (binv op (ev s x) (ev s y)) fun v => K v σ
  | .eqs neg k x y => onSome (eqv k (ev s x) (ev s y)) fun b => K (.bool (b != neg)) σ
  | .nt x => onBool (ev s x) fun b => K (.bool (!b)) σ
  | .ext i x => onTuple (ev s x) fun vs => onSome vs[i]? fun v => K v σ
  | .len t x => onSome (lenv t (ev s x)) fun n => K (.int .i64 n) σ
  | .bld z ps => onSome (fillO s z ps) fun cs => K (.agg cs.toArray) σ
  | .conv k x => onInt (ev s x) fun _ n => K (.int k (k.wrap n)) σ
  | .ixs x i => onStr (ev s x) fun b => onI64 (ev s i) fun j => (0 ≤ j ∧ j < b.size) ∧ K (.int .u8 (b.data.toList.getD j.toNat 0).toNat) σ
  | .mx up x y => onInt (ev s x) fun k a => onInt (ev s y) fun _ b => K (.int k (if up = true then (if b > a then b else a) else (if b < a then b else a))) σ
  | .eqa neg ks x y => onSome (Sp.eqa ks (ev s x) (ev s y)) fun b => K (.bool (b != neg)) σ
  | .fld sz off x => onSome (fldv sz off (ev s x)) fun v => K v σ
  | .new T z => ∀ b, σ b = none → K (.pointer (some ⟨b, 0, none⟩)) (upd σ b (.cells z T))
  | .box T x => ∀ b, σ b = none → K (.pointer (some ⟨b, 0, none⟩)) (upd σ b (.cells (cl (ev s x)) T))
  | .lit E n size z ps => onSome (fillO s z ps) fun cs => ∀ b, σ b = none → K (.slice (some ⟨b, 0, none⟩) n n) (upd σ b (.row cs cs.length E))
  | .ld none x => onPtr (ev s x) fun b off => onSome (rd σ b off) fun v => K v σ
  | .ld (some sz) x => onPtr (ev s x) fun b off => onSome (rdn σ b off sz) fun vs => K (.agg vs.toArray) σ
  | .st sz a x => onPtr (ev s a) fun b off => (cl (ev s x)).length = sz ∧ (cl (ev s x)).all one = true ∧ onSome (wr σ b off (cl (ev s x))) fun σ' => K undef σ'
  | .call f args => ∃ R, ACalls P f (args.map (ev s)).toArray σ R ∧ ∀ v σ', R v σ' → (∃ w, Sat σ' w) → K v σ'
  | .callv x args => ∃ f cs, ev s x = .func (.func f) #[] cs ∧ okF P f = true ∧ ∃ R, ACalls P f (args.map (ev s) ++ cs.toList).toArray σ R ∧ ∀ v σ', R v σ' → (∃ w, Sat σ' w) → K v σ'
  | .app E size bytes x y => appK E size bytes (ev s x) (ev s y) K σ
  | .mkmap num => ∀ b, σ b = none → K (.map (some b)) (upd σ b (if num = true then .im [] else .mp []))
  | .look q z x i => onSome (mreadV σ (ev s x) q z (ev s i)) fun v => K v σ
  | .mks E size bytes z n => onI64 (ev s n) fun j => (0 ≤ j ∧ j * bytes ≤ 140737488355328 ∧ j ≤ 140737488355328 ∧ z.length = size) ∧ ∀ b, σ b = none → K (.slice (some ⟨b, 0, none⟩) j.toNat j.toNat) (upd σ b (.row (List.replicate j.toNat z).flatten (j.toNat * size) E))
  | .fnl g xs => onSome (lf g (xs.map (ev s))) fun v => K v σ
  | .bys x => onSlice (ev s x) fun b o n => onSome (rdn σ b o n) fun vs => onSome (u8s vs) fun ys => K (.string (strOfNums ys)) σ
  | .mset q x i v => onSome (mturnV σ (ev s x) q (ev s i) (ev s v)) fun σ' => K (turnv q) σ'
/-- The cells of a type all of whose cells are numbers, truths and texts. -/
def lkF (P : Program) (g : TypeId → Option (List Lk)) : List Field → Nat → Option (List Lk)
  | [], _ => some []
  | f :: fs, o =>
    if f.offset = o ∧ f.name ≠ "_" then
      match g f.type with
      | some k => if (P.info? f.type).map (·.size) = some k.length ∧ 0 < k.length then (lkF P g fs (o + k.length)).map (k ++ ·) else none
      | none => none
    else none
def lk (P : Program) : Nat → TypeId → Option (List Lk)
  | 0, _ => none
  | d + 1, t =>
    match P.underlying t with
    | some (.int _) => some [.num]
    | some .bool => some [.truth]
    | some .string => some [.text]
    | some (.struct fs) => if P.stoodInHeld t = false then lkF P (lk P d) fs.toList 0 else none
    | _ => none
def places (P : Program) (fs : List Field) : Option (List (Nat × Nat)) := fs.mapM fun f => (P.info? f.type).map fun i => (f.offset, i.size)
/-- Is it a map whose keys are texts, or numbers? -/
def mapKey (P : Program) (t : TypeId) : Option (Bool × TypeId) := match P.underlying t with
  | some (.map kt e) => match P.underlying kt with
    | some .string => some (false, e)
    | some (.int .i64) => some (true, e)
    | _ => none
  | _ => none
def partsAt (pl : List (Nat × Nat)) (ps : List (Nat × Operand)) : Option (List (Nat × Nat × Operand)) := ps.mapM fun p => (pl[p.1]?).map fun q => (q.1, q.2, p.2)
def sameOp : Operand → Operand → Bool
  | .tmp a, .tmp b => decide (a = b)
  | _, _ => false
theorem sameOp_eq {x y : Operand} (h : sameOp x y = true) : x = y := by
  unfold sameOp at h; split at h
  · rw [of_decide_eq_true h]
  · cases h
/-- The operation told as above; what the types say is looked up once. -/
def comp (P : Program) (o : Oper) : Option M :=
  match o.op with
  | .select _ _ => none
  | .move x => some (.mv x)
  | .assign x => some (.mv x)
  | .pick c a b => some (.pick c a b)
  | .nilCheck x => some (.nilc x)
  | .fieldAddr t x f =>
    match P.underlying t with
    | some (.struct fs) =>
      match fs[f]? with
      | some fd =>
        match P.info? fd.type with
        | some i => if i.size = 0 then none else some (.fa fd.offset x)
        | none => none
      | none => none
    | _ => none
  | .field t x f =>
    match P.underlying t with
    | some (.struct fs) =>
      match fs[f]? with
      | some fd =>
        match P.underlying fd.type, P.info? fd.type with
        | some (.struct _), some i => some (.fld (some i.size) fd.offset x)
        | some (.array _ _), _ => none
        | some _, _ => some (.fld none fd.offset x)
        | none, _ => none
      | none => none
    | _ => none
  | .indexAddr t x ix =>
    match P.underlying t with
    | some (.slice e) => (P.info? e).map fun i => .ia i.size x ix
    | some (.array n e) => (P.info? e).map fun i => .fnl (.aix n i.size) [x, ix]
    | _ => none
  | .binOp op t x y yt =>
    match P.underlying t with
    | some (.int _) => some (.bin op x y)
    | some .string => match op with
      | .eql | .neq | .add => some (.bin op x y)
      | _ => some (.raw (.binOp op t x y yt) o.type)
    | some (.struct _) => if P.eqGuardType P.depth t = false then (lk P 20 t).bind fun ks => match op with
      | .eql => some (.eqa false ks x y)
      | .neq => some (.eqa true ks x y)
      | _ => none
      else none
    | some .bool => match op with
      | .eql => some (.eqs false .bool x y)
      | .neq => some (.eqs true .bool x y)
      | _ => none
    | some (.pointer _) => match op with
      | .eql => some (.eqs false .ptr x y)
      | .neq => some (.eqs true .ptr x y)
      | _ => none
    | some (.slice _) => match op with
      | .eql => some (.eqs false .slice x y)
      | .neq => some (.eqs true .slice x y)
      | _ => none
    | some (.interface _) => match op, y with
      | .eql, .const .nilIface => some (.fnl (.ifn false) [x])
      | .neq, .const .nilIface => some (.fnl (.ifn true) [x])
      | _, _ => some (.raw (.binOp op t x y yt) o.type)
    | _ => some (.raw (.binOp op t x y yt) o.type)
  | .unOp .not _ x => some (.nt x)
  | .extract x i => some (.ext i x)
  | .alloc t => (P.info? t).bind fun i => i.zero.map fun z => .new t (cl z)
  | .box t x => some (.box t x)
  | .build t ps =>
    match P.info? t, P.underlying t with
    | some i, some (.struct fs) => (i.zero).bind fun z => (places P fs.toList).bind fun pl => (partsAt pl ps.toList).map fun q => .bld (cl z) q
    | some i, some (.array _ e) => (P.info? e).bind fun ie => (i.zero).map fun z => .bld (cl z) (ps.toList.map fun p => (p.1 * ie.size, ie.size, p.2))
    | _, _ => none
  | .buildSlice t l ps =>
    match P.underlying t with
    | some (.slice e) =>
      match P.info? e with
      | some i => match i.zero with
        | some z => if l * i.size ≤ 1000 ∧ (cl z).length = i.size ∧ 0 < i.size then some (.lit e l i.size ((List.range (l * i.size)).map fun j => (cl z)[j % i.size]?.getD default) (ps.toList.map fun p => (p.1 * i.size, i.size, p.2))) else none
        | none => none
      | none => none
    | _ => none
  | .load t x =>
    match P.underlying t, P.info? t with
    | some (.struct _), some i => some (.ld (some i.size) x)
    | some (.array _ _), _ => none
    | some _, _ => some (.ld none x)
    | none, _ => none
  | .store t a x => (P.info? t).map fun i => .st i.size a x
  | .call { callee := .value (.func f), args, argTypes } =>
    match P.funcs[f]? with
    | some fn => if fn.name == "runtime.NumGoroutine" || fn.body.isNone then some (.hop (.call { callee := .value (.func f), args := args, argTypes := argTypes }) o.type) else some (.call f args.toList)
    | none => none
  | .call { callee := .value (.tmp t), args, .. } => some (.callv (.tmp t) args.toList)
  | .call { callee := .builtin .len, args, argTypes } =>
    match args.toList, argTypes.toList with
    | [x], [t] => match P.underlying t with
      | some .string => some (.len false x)
      | some (.slice _) => some (.len true x)
      | some (.map _ _) => match mapKey P t with
        | some _ => some (.look .size undef x (.const undef))
        | none => none
      | _ => none
    | _, _ => none
  | .convert src dst x =>
    match P.underlying src, P.underlying dst with
    | some (.int _), some (.int k) => some (.conv k x)
    | some (.int _), some .string => some (.fnl .rune [x])
    | some (.slice e), some .string => match P.underlying e with
      | some (.int .u8) => some (.bys x)
      | _ => some (.raw (.convert src dst x) o.type)
    | _, _ => some (.raw (.convert src dst x) o.type)
  | .slice t x lo hi mx =>
    match P.underlying t, lo, hi, mx with
    | some .string, some i, some j, none => some (.fnl .sls [x, i, j])
    | some (.slice e), some i, none, none => (P.info? e).map fun inf => .fnl (.sll inf.size) [x, i]
    | some (.slice e), none, some j, none => (P.info? e).map fun inf => .fnl (.slh inf.size) [x, j]
    | _, _, _, _ => some (.raw (.slice t x lo hi mx) o.type)
  | .index t x i =>
    match P.underlying t with
    | some .string => some (.ixs x i)
    | _ => some (.raw (.index t x i) o.type)
  | .call { callee := .builtin .max, args, argTypes } =>
    match args.toList with
    | [x, y] => some (.mx true x y)
    | _ => some (.raw (.call { callee := .builtin .max, args := args, argTypes := argTypes }) o.type)
  | .call { callee := .builtin .min, args, argTypes } =>
    match args.toList with
    | [x, y] => some (.mx false x y)
    | _ => some (.raw (.call { callee := .builtin .min, args := args, argTypes := argTypes }) o.type)
  | .call { callee := .builtin .append, args, argTypes } =>
    match args.toList, argTypes.toList with
    | [x, y], [t, u] =>
      if t = u then
        match P.underlying t with
        | some (.slice e) =>
          match P.info? e with
          | some i =>
            match i.zero with
            | some z => if z.cells.size = i.size ∧ 0 < i.size then some (.app e i.size i.bytes x y) else none
            | none => none
          | none => none
        | _ => none
      else some (.hop (.call { callee := .builtin .append, args := args, argTypes := argTypes }) o.type)
    | _, _ => none
  | .makeMap t none =>
    match mapKey P t with
    | some (num, _) => some (.mkmap num)
    | none => some (.raw (.makeMap t none) o.type)
  | .makeSlice t l c =>
    match P.underlying t, sameOp l c with
    | some (.slice e), true =>
      match P.info? e with
      | some i => match i.zero with
        | some z => if z.cells.size = i.size ∧ 0 < i.size then some (.mks e i.size i.bytes (cl z) l) else some (.raw (.makeSlice t l c) o.type)
        | none => some (.raw (.makeSlice t l c) o.type)
      | none => some (.raw (.makeSlice t l c) o.type)
    | _, _ => some (.raw (.makeSlice t l c) o.type)
  | .lookup t x i ok =>
    match mapKey P t with
    | some (num, e) => (P.info? e).bind fun inf => inf.zero.map fun z => .look (.get num ok) z x i
    | none => some (.raw (.lookup t x i ok) o.type)
  | .mapUpdate t x i v =>
    match mapKey P t with
    | some (num, _) => some (.mset (.put num) x i v)
    | none => some (.raw (.mapUpdate t x i v) o.type)
  | .call { callee := .builtin .delete, args, argTypes } =>
    match args.toList, argTypes.toList with
    | [x, i], [t, _] => match mapKey P t with
      | some (num, _) => some (.mset (.del num) x i (.const undef))
      | none => some (.raw (.call { callee := .builtin .delete, args := args, argTypes := argTypes }) o.type)
    | _, _ => some (.raw (.call { callee := .builtin .delete, args := args, argTypes := argTypes }) o.type)
  | .call { callee := .builtin .copy, args, argTypes } => some (.hop (.call { callee := .builtin .copy, args := args, argTypes := argTypes }) o.type)
  | .call { callee := .builtin .clear, args, argTypes } =>
    match args.toList, argTypes.toList with
    | [x], [t] => match mapKey P t with
      | some _ => some (.mset .clr x (.const undef) (.const undef))
      | none => some (.hop (.call { callee := .builtin .clear, args := args, argTypes := argTypes }) o.type)
    | _, _ => some (.raw (.call { callee := .builtin .clear, args := args, argTypes := argTypes }) o.type)
  | .makeFunc (.func f) first captured => if first = #[] then some (.fnl (.clo f) captured.toList) else some (.raw (.makeFunc (.func f) first captured) o.type)
  | op => some (.raw op o.type)
variable {P : Program}
theorem lf_sls {u v x r : Value} (h : lf .sls [u, v, x] = some r) : ∃ b k i k' j, u = .string b ∧ v = .int k i ∧ x = .int k' j ∧ (0 ≤ i ∧ i ≤ j ∧ j ≤ b.size) ∧ r = .string (b.extract i.toNat j.toNat) := by
  have h : slsv u v x = some r := h
  unfold slsv at h
  split at h
  · rename_i b k i k' j
    split at h
    · rename_i hc; cases h; exact ⟨_, _, _, _, _, rfl, rfl, rfl, hc, rfl⟩
    · cases h
  · cases h
theorem lf_sll {sz : Nat} {u v r : Value} (h : lf (.sll sz) [u, v] = some r) : ∃ a n c k i, u = .slice a n c ∧ v = .int k i ∧ (0 ≤ i ∧ i ≤ n) ∧ r = sliced a i.toNat n c sz := by
  have h : sllv sz u v = some r := h
  unfold sllv at h
  split at h
  · rename_i a n c k i
    split at h
    · rename_i hc; cases h; exact ⟨_, _, _, _, _, rfl, rfl, hc, rfl⟩
    · cases h
  · cases h
theorem lf_slh {sz : Nat} {u v r : Value} (h : lf (.slh sz) [u, v] = some r) : ∃ a n c k j, u = .slice a n c ∧ v = .int k j ∧ (0 ≤ j ∧ j ≤ c) ∧ r = sliced a 0 j.toNat c sz := by
  have h : slhv sz u v = some r := h
  unfold slhv at h
  split at h
  · rename_i a n c k i
    split at h
    · rename_i hc; cases h; exact ⟨_, _, _, _, _, rfl, rfl, hc, rfl⟩
    · cases h
  · cases h
theorem lf_rune {u r : Value} (h : lf .rune [u] = some r) : ∃ k i, u = .int k i ∧ r = .string (Utf8.encode i) := by
  have h : runev u = some r := h
  unfold runev at h
  split at h
  · cases h; exact ⟨_, _, rfl, rfl⟩
  · cases h
theorem u8s_map : ∀ {vs : List Value} {ys : List Int}, u8s vs = some ys → vs = ys.map (Value.int .u8)
  | [], ys, h => by simp only [u8s, Option.some.injEq] at h; subst h; rfl
  | v :: r, ys, h => by
    unfold u8s at h
    split at h
    · rename_i e; cases e
    · rename_i x r' e
      cases e
      simp only [Option.map_eq_some_iff] at h
      obtain ⟨zs, hz, rfl⟩ := h
      rw [List.map_cons, ← u8s_map hz]
    · cases h
theorem same_ne {k x : ByteArray} (h : k ≠ x) : (k == x) = false := by
  cases h2 : (k == x)
  · rfl
  · exact absurd ((MapKept.bytes_beq _ _).1 h2) h
/-- Keys of one kind. -/
structure KeyKind {κ : Type} [DecidableEq κ] (enc : κ → Value) (d : TypeDesc) : Prop where
  same : ∀ a b, Instr.sameNow d (enc a) (enc b) = some (decide (a = b))
  isKey : ∀ a, MapKept.IsKey d (enc a)
theorem key_str : KeyKind Value.string .string := ⟨fun a b => by
  by_cases e : a = b
  · subst e; simp [Instr.sameNow, (MapKept.bytes_beq a a).2 rfl]
  · simp [Instr.sameNow, same_ne e, e], fun _ => trivial⟩
theorem key_int : KeyKind (Value.int .i64) (.int .i64) := ⟨fun a b => by
  by_cases e : a = b
  · simp [Instr.sameNow, e]
  · simp [Instr.sameNow, e], fun _ => rfl⟩
theorem find_kv {κ : Type} [DecidableEq κ] {enc : κ → Value} {d : TypeDesc} (hk : KeyKind enc d) (k : κ) (v' : Value) : ∀ (es : List MapEntry) (l : List (κ × Value)) (i : Nat), es.map (fun e => (e.key, e.val)) = l.map (fun p => (enc p.1, p.2)) →
    (mget l k = none ∧ Instr.findNow d (enc k) es i = some none ∧ mput l k v' = l ++ [(k, v')] ∧ mdel l k = l) ∨
    ∃ j v, mget l k = some v ∧ Instr.findNow d (enc k) es i = some (some (i + j, v)) ∧ (es[j]?).map (·.key) = some (enc k) ∧
      (es.modify j (fun e => { e with key := enc k, val := v' })).map (fun e => (e.key, e.val)) = (mput l k v').map (fun p => (enc p.1, p.2)) ∧
      (es.eraseIdx j).map (fun e => (e.key, e.val)) = (mdel l k).map (fun p => (enc p.1, p.2))
  | [], [], i, _ => .inl ⟨rfl, rfl, rfl, rfl⟩
  | [], p :: r, i, h => by simp at h
  | e :: es, [], i, h => by simp at h
  | e :: es, p :: r, i, h => by
    simp only [List.map_cons, List.cons.injEq, Prod.mk.injEq] at h
    obtain ⟨⟨h1, h2⟩, h3⟩ := h
    by_cases hkp : k = p.1
    · right
      refine ⟨0, p.2, by simp [mget, hkp], ?_, by simp [h1, hkp], ?_, ?_⟩
      · simp only [Instr.findNow, h1, hk.same, hkp, decide_true, h2, Nat.add_zero]
      · simp [mput, hkp, h3]
      · simp [mdel, hkp, h3]
    · rcases find_kv hk k v' es r (i + 1) h3 with ⟨a1, a2, a3, a4⟩ | ⟨j, v, a1, a2, a3, a4, a5⟩
      · refine .inl ⟨by simp [mget, hkp, a1], ?_, by simp [mput, hkp, a3], by simp [mdel, hkp, a4]⟩
        simp only [Instr.findNow, h1, hk.same, decide_eq_false hkp, a2]
      · refine .inr ⟨j + 1, v, by simp [mget, hkp, a1], ?_, by simpa using a3, ?_, ?_⟩
        · simp only [Instr.findNow, h1, hk.same, decide_eq_false hkp, a2]
          rw [show i + 1 + j = i + (j + 1) by omega]
        · simp only [List.modify_succ_cons, List.map_cons, a4, mput, if_neg hkp, h1, h2]
        · simp only [List.eraseIdx_cons_succ, List.map_cons, a5, mdel, if_neg hkp, h1, h2]
theorem born_modify {es : List MapEntry} {j : Nat} {k v : Value} (h : es.Pairwise (fun a b => a.born < b.born)) : (es.modify j (fun e => { e with key := k, val := v })).Pairwise (fun a b => a.born < b.born) := by
  induction es generalizing j with
  | nil => cases j <;> exact List.Pairwise.nil
  | cons x r ih =>
    obtain ⟨h1, h2⟩ := List.pairwise_cons.1 h
    cases j with
    | zero => exact List.pairwise_cons.2 ⟨fun a ha => h1 a ha, h2⟩
    | succ j =>
      rw [List.modify_succ_cons]
      refine List.pairwise_cons.2 ⟨fun a ha => ?_, ih h2⟩
      obtain ⟨i, hi⟩ := List.getElem?_of_mem ha
      rw [List.getElem?_modify] at hi
      cases hr : r[i]? with
      | none => rw [hr] at hi; cases hi
      | some y =>
        rw [hr] at hi
        have hy := h1 y (List.mem_of_getElem? hr)
        simp only [Option.map_eq_map, Option.map_some, Option.some.injEq] at hi
        subst hi
        split <;> exact hy
theorem clock_modify {es : List MapEntry} {j c : Nat} {k v : Value} (h : ∀ e ∈ es, e.born < c) : ∀ e ∈ es.modify j (fun e => { e with key := k, val := v }), e.born < c := by
  intro a ha
  obtain ⟨i, hi⟩ := List.getElem?_of_mem ha
  rw [List.getElem?_modify] at hi
  cases hr : es[i]? with
  | none => rw [hr] at hi; cases hi
  | some y =>
    rw [hr] at hi
    have hy := h y (List.mem_of_getElem? hr)
    simp only [Option.map_eq_map, Option.map_some, Option.some.injEq] at hi
    subst hi
    split <;> exact hy
section
variable {κ : Type} [DecidableEq κ] {enc : κ → Value} {d : TypeDesc}
theorem look_run (hK : KeyKind enc d) {w : World} {t kt e : TypeId} {z : Value} {b : Nat} {l : List (κ × Value)} {es : Array MapEntry} {c : Nat} (ht : P.underlying t = some (.map kt e)) (hk : P.underlying kt = some d) (hz : ∀ w, (zeroValue e).run P w = .ok z w) (hb : w.heap[b]? = some (.map es c)) (hE : Ents enc l es c) (k : κ) (ok : Bool) :
    (Instr.lookup t (.map (some b)) (enc k) ok).run P w = .ok (lookv ok z (mget l k)) w := by
  have hc : ∀ em, (Instr.checkKey em 10000 kt (enc k)).run P w = .ok () w := fun em => MapKept.run_checkKey hk (hK.isKey k) em 9999
  unfold Instr.lookup
  simp only [Sem.run_bind, run_underlying ht, Result.andThen_ok, MapKept.run_getObj_map hb, Sem.run_pure, hc]
  rcases find_kv hK k .nilIface es.toList l 0 hE.kv with ⟨h1, h2, _⟩ | ⟨j, v, h1, h2, _⟩
  · rw [MapKept.run_findKey hk h2, h1]
    cases ok <;> simp [Sem.run_bind, hz, lookv]
  · rw [MapKept.run_findKey hk h2, h1]
    cases ok <;> simp [Sem.run_bind, lookv]
theorem mset_run (hK : KeyKind enc d) {w : World} {t kt e : TypeId} {b : Nat} {l : List (κ × Value)} {es : Array MapEntry} {c : Nat} (ht : P.underlying t = some (.map kt e)) (hk : P.underlying kt = some d) (hb : w.heap[b]? = some (.map es c)) (hE : Ents enc l es c) (k : κ) (v : Value) :
    ∃ es' c', (Instr.mapUpdate t (.map (some b)) (enc k) v).run P w = .ok () { w with heap := w.heap.setIfInBounds b (.map es' c') } ∧ Ents enc (mput l k v) es' c' := by
  have hc : ∀ em, (Instr.checkKey em 10000 kt (enc k)).run P w = .ok () w := fun em => MapKept.run_checkKey hk (hK.isKey k) em 9999
  unfold Instr.mapUpdate
  simp only [Sem.run_bind, run_underlying ht, Result.andThen_ok, MapKept.run_getObj_map hb, Sem.run_pure, hc]
  rcases find_kv hK k v es.toList l 0 hE.kv with ⟨h1, h2, h3, _⟩ | ⟨j, v0, h1, h2, h3, h4, _⟩
  · rw [MapKept.run_findKey hk h2]
    simp only [Result.andThen_ok, MapKept.run_setObj_map _ hb]
    refine ⟨_, _, rfl, ?_, ?_, ?_⟩
    · rw [h3]; simp [hE.kv]
    · rw [Array.toList_push, List.pairwise_append]
      exact ⟨hE.born, List.pairwise_singleton _ _, fun a ha x hx => by rw [List.mem_singleton] at hx; subst hx; exact hE.clock a ha⟩
    · intro x hx
      rw [Array.toList_push] at hx
      rcases List.mem_append.1 hx with hx | hx
      · have := hE.clock x hx; omega
      · rw [List.mem_singleton] at hx; subst hx; exact Nat.lt_succ_self _
  · rw [MapKept.run_findKey hk h2]
    have hkey : (((es[0 + j]?).map (·.key)).getD (enc k)) = enc k := by
      rw [Nat.zero_add, ← Array.getElem?_toList, h3]; rfl
    have hst : (Instr.keyThatStays (enc k) (enc k)).run P w = .ok (enc k) w := MapKept.run_keyThatStays (d := d) (hK.isKey k)
    simp only [Result.andThen_ok, hkey, Sem.run_bind, hst, MapKept.run_setObj_map _ hb]
    refine ⟨_, _, rfl, ?_, ?_, ?_⟩
    · rw [Array.toList_modify, Nat.zero_add]; exact h4
    · rw [Array.toList_modify]
      exact born_modify hE.born
    · rw [Array.toList_modify]
      exact clock_modify hE.clock
theorem mdel_run (hK : KeyKind enc d) {w : World} {t kt e : TypeId} {b : Nat} {l : List (κ × Value)} {es : Array MapEntry} {c : Nat} {ts : Array TypeId} {ty : TypeId} (hts : ts[0]? = some t) (ht : P.underlying t = some (.map kt e)) (hk : P.underlying kt = some d) (hb : w.heap[b]? = some (.map es c)) (hE : Ents enc l es c) (k : κ) :
    ∃ es' c', (Builtin.delete_ ts ty #[.map (some b), enc k]).run P w = .ok (.tuple #[]) { w with heap := w.heap.setIfInBounds b (.map es' c') } ∧ Ents enc (mdel l k) es' c' := by
  have hc : ∀ em, (Instr.checkKey em 10000 kt (enc k)).run P w = .ok () w := fun em => MapKept.run_checkKey hk (hK.isKey k) em 9999
  unfold Builtin.delete_
  simp only [hts, List.getElem?_toArray, List.getElem?_cons_zero, List.getElem?_cons_succ, Sem.run_bind, run_underlying ht, Result.andThen_ok, MapKept.run_getObj_map hb, Sem.run_pure, hc]
  rcases find_kv hK k .nilIface es.toList l 0 hE.kv with ⟨h1, h2, _, h3⟩ | ⟨j, v0, h1, h2, h3, _, h4⟩
  · rw [MapKept.run_findKey hk h2]
    simp only [Result.andThen_ok, Sem.run_bind, MapKept.run_setObj_map _ hb, Sem.run_pure]
    exact ⟨_, _, rfl, by rw [h3]; exact hE⟩
  · rw [MapKept.run_findKey hk h2]
    simp only [Result.andThen_ok, Sem.run_bind, MapKept.run_setObj_map _ hb, Sem.run_pure]
    have e : (es.eraseIdxIfInBounds (0 + j)).toList = es.toList.eraseIdx j := by
      rw [Nat.zero_add, Array.toList_eraseIdxIfInBounds]
    refine ⟨_, _, rfl, by rw [e]; exact h4, by rw [e]; exact hE.born.sublist (List.eraseIdx_sublist _ _), fun x hx => ?_⟩
    rw [e] at hx
    exact hE.clock x ((List.eraseIdx_sublist _ _).subset hx)
end
theorem one_eq (v : Value) : one v = v.oneCell' := by cases v <;> rfl
theorem addr_add (b off j : Nat) : (⟨b, off, none⟩ : Addr).add j = ⟨b, off + j, none⟩ := by
  unfold Addr.add; split
  · rename_i h; subst h; rfl
  · rfl
theorem cell_of_cells {w : World} {b : Nat} {cs : List Value} {t : TypeId} (h : w.heap[b]? = some (.cells cs.toArray t (0, 0))) (j : Nat) : w.cell? ⟨b, j, none⟩ = cs[j]? := by
  simp [World.cell?, h]
theorem rd_cell {σ : Hp} {w : World} (hs : Sat σ w) {b off : Nat} {v : Value} (h : rd σ b off = some v) : w.cell? ⟨b, off, none⟩ = some v := by
  unfold rd at h
  cases hb : σ b with
  | none => rw [hb] at h; cases h
  | some o =>
    rw [hb] at h
    have ha := hs b o hb
    cases o with
    | cells cs t => rw [cell_of_cells ha]; exact h
    | row cs room t =>
      obtain ⟨rest, hl, ha⟩ := ha
      rw [cell_of_cells ha]
      have h : cs[off]? = some v := h
      have hlt := (List.getElem?_eq_some_iff.mp h).1
      rw [List.getElem?_append_left hlt]; exact h
    | dead => cases h
    | ro x =>
      have ha : w.heap[b]? = some x := ha
      cases x with
      | cells cs t fr =>
        have h : cs.toList[off]? = some v := h
        simpa [World.cell?, ha] using h
      | _ => cases h
    | mp l => cases h
    | im l => cases h
theorem seg_get {cs vs : List Value} {off n : Nat} (h : seg cs off n = some vs) : vs.length = n ∧ ∀ j v, vs[j]? = some v → cs[off + j]? = some v := by
  unfold seg at h
  split at h
  · rename_i hle
    cases h
    refine ⟨by simp; omega, fun j v hv => ?_⟩
    have hlt := (List.getElem?_eq_some_iff.mp hv).1
    simp at hlt
    rw [List.getElem?_take_of_lt (by omega), List.getElem?_drop] at hv
    exact hv
  · cases h
theorem rdn_cells {σ : Hp} {w : World} (hs : Sat σ w) {b off n : Nat} {vs : List Value} (h : rdn σ b off n = some vs) : vs.length = n ∧ ∀ j v, vs[j]? = some v → w.cell? ((⟨b, off, none⟩ : Addr).add j) = some v := by
  unfold rdn at h
  cases hb : σ b with
  | none => rw [hb] at h; cases h
  | some o =>
    rw [hb] at h
    have ha := hs b o hb
    cases o with
    | cells cs t =>
      obtain ⟨hl, hg⟩ := seg_get (cs := cs) h
      refine ⟨hl, fun j v hv => ?_⟩
      rw [addr_add, cell_of_cells ha]; exact hg j v hv
    | row cs room t =>
      obtain ⟨hl, hg⟩ := seg_get (cs := cs) h
      obtain ⟨rest, _, ha⟩ := ha
      refine ⟨hl, fun j v hv => ?_⟩
      have := hg j v hv
      rw [addr_add, cell_of_cells ha, List.getElem?_append_left (List.getElem?_eq_some_iff.mp this).1]; exact this
    | dead => cases h
    | ro x =>
      have ha : w.heap[b]? = some x := ha
      cases x with
      | cells cs t fr =>
        obtain ⟨hl, hg⟩ := seg_get (cs := cs.toList) h
        refine ⟨hl, fun j v hv => ?_⟩
        have := hg j v hv
        rw [addr_add]
        simpa [World.cell?, ha] using this
      | _ => cases h
    | mp l => cases h
    | im l => cases h
theorem wp_of_run {o : Oper} {a : Act} {w w' : World} {v : Value} {next : Act → World → Prop} {Q : Exit → Act → World → Prop} (h : (execOp a.eval o).run P w = .ok (.value v) w') (hn : next (a.put o.dst v) w') : o.wp P a w next Q := by
  unfold Oper.wp; rw [h]; exact hn
theorem wp_of_skip {o : Oper} {a : Act} {w w' : World} {next : Act → World → Prop} {Q : Exit → Act → World → Prop} (h : (execOp a.eval o).run P w = .ok .skip w') (hn : next (a.put o.dst undef) w') : o.wp P a w next Q := by
  unfold Oper.wp; rw [h]; exact hn
theorem exec_ev {n : Nat} {a : Act} {s : Sl} (hr : Rel n a s) {o : Oper} (hs : ∀ cs b, o.op ≠ .select cs b) (hin : ∀ x ∈ o.op.operands, inR n x = true) : execOp a.eval o = execOp (ev s) o :=
  execOp_congr o hs fun x hx => hr.ev (hin x hx)
theorem setRow_put {w : World} {g : Nat} {old cs : Array Value} {t : TypeId} (h : w.heap[g]? = some (.cells old t (0, 0))) : w.setRow g cs = World.put w g (.cells cs t (0, 0)) := by
  have hlt : g < w.heap.size := (Array.getElem?_eq_some_iff.1 h).1
  unfold World.setRow World.put
  congr 1
  apply Array.ext_getElem?
  intro i
  rw [Array.getElem?_modify, Array.getElem?_setIfInBounds]
  by_cases e : g = i
  · subst e; rw [if_pos rfl, if_pos rfl, if_pos hlt, h]; rfl
  · rw [if_neg e, if_neg e]
theorem splice_arr {cs vs : List Value} {off : Nat} : (cs.toArray.toList.take (off + 0) ++ vs ++ cs.toArray.toList.drop (off + 0 + vs.length)).toArray = (splice cs off vs).toArray := by simp [splice]
theorem splice_len {cs vs : List Value} {off : Nat} (h : off + vs.length ≤ cs.length) : (splice cs off vs).length = cs.length := by
  simp [splice]; omega
theorem splice_app {cs vs rest : List Value} {off : Nat} (h : off + vs.length ≤ cs.length) : splice (cs ++ rest) off vs = splice cs off vs ++ rest := by
  unfold splice
  rw [List.take_append_of_le_length (by omega), List.drop_append_of_le_length (by omega)]
  simp
/-- A store. -/
theorem wr_run {σ σ' : Hp} {w : World} (hs : Sat σ w) {b off : Nat} {vs : List Value} (h1 : vs.all one = true) (h : wr σ b off vs = some σ') :
    ∃ w', (storeCells ⟨b, off, none⟩ vs).run P w = .ok () w' ∧ Sat σ' w' ∧ ∀ w0 σ0, Fr w0 w σ0 σ → Fr w0 w' σ0 σ' := by
  have h1' : ∀ v ∈ vs, v.oneCell' = true := fun v hv => by rw [← one_eq]; exact List.all_eq_true.1 h1 v hv
  unfold wr at h
  cases hb : σ b with
  | none => rw [hb] at h; cases h
  | some o =>
    rw [hb] at h
    have ha := hs b o hb
    cases o with
    | cells cs t =>
      have h : (if off + vs.length ≤ cs.length then some (upd σ b (.cells (splice cs off vs) t)) else none) = some σ' := h
      split at h
      · rename_i hle
        cases h
        have hr := run_storeCells_at P b off t vs 0 cs.toArray w ha (by simpa using hle) h1'
        rw [splice_arr, setRow_put ha] at hr
        exact ⟨_, hr, hs.put (hs.lt (by rw [hb]; simp)) _ _ rfl, fun w0 σ0 hf => hf.put (by rw [hb]; simp) _ _⟩
      · cases h
    | row cs room t =>
      have h : (if off + vs.length ≤ cs.length then some (upd σ b (.row (splice cs off vs) room t)) else none) = some σ' := h
      split at h
      · rename_i hle
        cases h
        obtain ⟨rest, hl, ha⟩ := ha
        have hr := run_storeCells_at P b off t vs 0 (cs ++ rest).toArray w ha (by simp; omega) h1'
        rw [splice_arr, splice_app hle, setRow_put ha] at hr
        exact ⟨_, hr, hs.put (hs.lt (by rw [hb]; simp)) _ _ ⟨rest, by rw [splice_len hle]; exact hl, rfl⟩, fun w0 σ0 hf => hf.put (by rw [hb]; simp) _ _⟩
      · cases h
    | dead => cases h
    | ro x => cases h
    | mp l => cases h
    | im l => cases h
theorem loadVar_one {t : TypeId} {d : TypeDesc} (hu : P.underlying t = some d) (hd : ∀ fs, d ≠ .struct fs) (hd' : ∀ n e, d ≠ .array n e) {a : Addr} {w : World} {v : Value} (hc : w.cell? a = some v) :
    (loadVar t a).run P w = .ok v w := by
  have : (isAgg t).run P w = .ok false w := by
    unfold isAgg
    rw [Sem.run_bind, run_underlying hu]
    cases d with
    | struct fs => exact absurd rfl (hd fs)
    | array n e => exact absurd rfl (hd' n e)
    | _ => rfl
  simp [loadVar, this, run_load, hc]
theorem loadVar_agg {t : TypeId} {fs : Array Field} {i : TypeInfo} (hu : P.underlying t = some (.struct fs)) (hi : P.info? t = some i) {a : Addr} {w : World} {vs : List Value} (hl : vs.length = i.size)
    (hc : ∀ j v, vs[j]? = some v → w.cell? (a.add j) = some v) : (loadVar t a).run P w = .ok (.agg vs.toArray) w := by
  have : (isAgg t).run P w = .ok true w := by
    unfold isAgg
    rw [Sem.run_bind, run_underlying hu]
    rfl
  have hr := run_loadCells_list (P := P) w a vs hc
  rw [hl] at hr
  simp [loadVar, this, sizeOf, typeInfo, hi, hr]
theorem loadVar_arr {t : TypeId} {m : Nat} {e : TypeId} {i : TypeInfo} (hu : P.underlying t = some (.array m e)) (hi : P.info? t = some i) {a : Addr} {w : World} {vs : List Value} (hl : vs.length = i.size)
    (hc : ∀ j v, vs[j]? = some v → w.cell? (a.add j) = some v) : (loadVar t a).run P w = .ok (.agg vs.toArray) w := by
  have : (isAgg t).run P w = .ok true w := by
    unfold isAgg
    rw [Sem.run_bind, run_underlying hu]
    rfl
  have hr := run_loadCells_list (P := P) w a vs hc
  rw [hl] at hr
  simp [loadVar, this, sizeOf, typeInfo, hi, hr]
theorem zc_len (z : Array Value) (n : Nat) : (Builtin.zeroCells z n).toList.length = n * z.size := by
  have := size_zeroCells z n
  rw [← Array.length_toList] at this; exact this
def mIn (n : Nat) (o : Oper) : Bool := o.op.operands.all (inR n)
theorem mIn_in {n : Nat} {o : Oper} (h : mIn n o = true) : ∀ x ∈ o.op.operands, inR n x = true := fun x hx => by
  have := (Array.all_eq_true'.1 h) x hx; exact this
theorem app_sound {n : Nat} {o : Oper} {E t : TypeId} {i : TypeInfo} {z : Value} {x y : Operand} (ho : o.op = .call { callee := .builtin .append, args := #[x, y], argTypes := #[t, t] })
    (ht : P.underlying t = some (.slice E)) (hi : P.info? E = some i) (hz : i.zero = some z) (hzs : z.cells.size = i.size) (_hsz : 0 < i.size)
    (hin : mIn n o = true) {a : Act} {s : Sl} {σ : Hp} {w : World} (hr : Rel n a s) (hs : Sat σ w) {K : Value → Hp → Prop} (h : mop P (.app E i.size i.bytes x y) K s σ) {next : Act → World → Prop} {Q : Exit → Act → World → Prop}
    (hk : ∀ v σ' w', K v σ' → Sat σ' w' → (∀ w0 σ0, Fr w0 w σ0 σ → Fr w0 w' σ0 σ') → next (a.put o.dst v) w') : o.wp P a w next Q := by
  have he : a.eval x = ev s x := hr.ev (mIn_in hin x (by rw [ho]; simp [Op.operands, Call.operands]))
  have hf : a.eval y = ev s y := hr.ev (mIn_in hin y (by rw [ho]; simp [Op.operands, Call.operands]))
  have hexec : ∀ r, (Builtin.append_ #[t, t] o.type #[ev s x, ev s y]).run P w = r → (execOp a.eval o).run P w = r.andThen fun v w => .ok (.value v) w := by
    intro r hr
    unfold execOp
    simp only [ho, resolve, invoke, builtin, Sem.run_bind, Sem.run_pure, Result.andThen_ok, List.map_toArray, List.map_cons, List.map_nil, he, hf, hr]
  rcases h with ⟨A0, m, c, hy, rfl, h⟩ | ⟨b, off, m, c, ys, hy, hrd, h1, h⟩
  · rcases h with ⟨hx, hK⟩ | ⟨g, n', cap, hx, hle, hK⟩
    · refine wp_of_run (v := .slice none 0 0) (w' := w) ?_ (hk _ _ _ hK hs (fun _ _ h => h))
      rw [hexec (.ok (.slice none 0 0) w)]
      · rfl
      · rw [hx, hy]; cases A0 <;> simp [Builtin.append_, run_underlying ht, sizeOf, typeInfo, hi, Builtin.lenOf, Builtin.firstCells, loadCells, loadCellsFrom]
    · refine wp_of_run (v := .slice (some ⟨g, 0, none⟩) n' cap) (w' := w) ?_ (hk _ _ _ hK hs (fun _ _ h => h))
      rw [hexec (.ok (.slice (some ⟨g, 0, none⟩) n' cap) w)]
      · rfl
      · rw [hx, hy]; cases A0 <;> simp [Builtin.append_, run_underlying ht, sizeOf, typeInfo, hi, Builtin.lenOf, Builtin.firstCells, hle, storeCells, loadCells, loadCellsFrom]
  · obtain ⟨hl, hnews⟩ := rdn_cells hs hrd
    have h1' : ∀ v ∈ ys, v.oneCell' = true := fun v hv => by rw [← one_eq]; exact List.all_eq_true.1 h1 v hv
    rcases h with ⟨rfl, hx, hK⟩ | ⟨hm, hx, hb, h63, hK⟩ | ⟨g, n', cap, xs, hx, hg, hxl, hle, hb, h63, hK⟩
    · refine wp_of_run (v := .slice none 0 0) (w' := w) ?_ (hk _ _ _ hK hs (fun _ _ h => h))
      rw [hexec (.ok (.slice none 0 0) w)]
      · rfl
      · rw [hx, hy]; simp [Builtin.append_, run_underlying ht, sizeOf, typeInfo, hi, Builtin.lenOf, Builtin.firstCells, loadCells, loadCellsFrom]
    · unfold maxLen at h63
      have hrun := run_append_nil (P := P) w t o.type E i z ht hi hz ⟨b, off, none⟩ m c ys hl hnews hm (by omega) (by omega)
      rw [← hx, ← hy] at hrun
      refine wp_of_run (v := .slice (some ⟨w.heap.size, 0, none⟩) m (grownCap w m 0 E)) (w' := w.drew.alloc (.cells (ys.toArray ++ Builtin.zeroCells z.cells (grownCap w m 0 E - m)) E)) ?_ ?_
      · rw [hexec _ hrun]; rfl
      · have hge := grownCap_ge w m 0 E
        have hsat : Sat (upd σ w.heap.size (.row ys (grownCap w m 0 E * i.size) E)) (World.push w.drew (.cells (ys.toArray ++ Builtin.zeroCells z.cells (grownCap w m 0 E - m)) E)) := by
          refine Sat.push (w := w.drew) (hs.drew _) _ _ ⟨(Builtin.zeroCells z.cells (grownCap w m 0 E - m)).toList, ?_, ?_⟩
          · rw [zc_len, hzs, hl, ← Nat.add_mul]; congr 1; omega
          · congr 2; apply Array.ext'; simp
        exact hk _ _ _ (hK _ _ (hs.none_of_le (Nat.le_refl _)) hge) hsat (fun w0 σ0 hf => (hf.drew _).push _ _)
    · obtain ⟨tl, hg⟩ := hg
      have ha := hs g _ hg
      obtain ⟨rest0, hrl0, ha⟩ := ha
      obtain ⟨rest, hrest⟩ : ∃ rest, rest = tl ++ rest0 := ⟨_, rfl⟩
      have hrl : xs.length + rest.length = cap * i.size := by rw [hrest, List.length_append]; rw [List.length_append] at hrl0; omega
      rw [List.append_assoc, ← hrest] at ha
      unfold maxLen at h63
      by_cases hroom : n' + m ≤ cap
      · have hfit : n' * i.size + ys.length ≤ (xs ++ rest).toArray.size := by
          rw [hl, ← Nat.add_mul]; simp only [List.size_toArray, List.length_append, hrl]; exact Nat.mul_le_mul_right _ hroom
        have hrun := run_append_room (P := P) w t o.type E i ht hi g n' cap (xs ++ rest).toArray ha ⟨b, off, none⟩ m c ys hl hnews h1' hroom hfit
        rw [← hx, ← hy, setRow_put ha] at hrun
        have hcells : ((xs ++ rest).toArray.toList.take (n' * i.size) ++ ys ++ (xs ++ rest).toArray.toList.drop (n' * i.size + ys.length)) = (xs ++ ys) ++ rest.drop ys.length := by
          rw [← hxl]; simp [List.drop_append]
        rw [hcells] at hrun
        refine wp_of_run (v := .slice (some ⟨g, 0, none⟩) (n' + m) cap) (w' := World.put w g (.cells ((xs ++ ys) ++ rest.drop ys.length).toArray E)) ?_ ?_
        · rw [hexec _ hrun]; rfl
        · have hlt := hs.lt (b := g) (by rw [hg]; simp)
          have hsat : Sat (upd (upd σ g .dead) g (.row (xs ++ ys) (cap * i.size) E)) (World.put w g (.cells ((xs ++ ys) ++ rest.drop ys.length).toArray E)) := by
            rw [upd_upd]
            refine hs.put hlt _ _ ⟨rest.drop ys.length, ?_, rfl⟩
            simp only [List.size_toArray, List.length_append] at hfit
            simp only [List.length_append, List.length_drop]; omega
          exact hk _ _ _ (hK _ _ (.inl ⟨rfl, rfl, hroom⟩) hroom) hsat (fun w0 σ0 hf => by rw [upd_upd]; exact hf.put (by rw [hg]; simp) _ _)
      · have holds : ∀ j v, xs[j]? = some v → w.cell? ((⟨g, 0, none⟩ : Addr).add j) = some v := fun j v hv => by
          rw [addr_add, Nat.zero_add, cell_of_cells ha, List.getElem?_append_left (List.getElem?_eq_some_iff.mp hv).1]; exact hv
        have hrun := run_append_grow (P := P) w t o.type E i z ht hi hz ⟨g, 0, none⟩ n' cap xs hxl holds ⟨b, off, none⟩ m c ys hl hnews (by omega) (by omega) (growslice_fits (by omega) hb)
        rw [← hx, ← hy] at hrun
        have hge := grownCap_ge w (n' + m) cap E
        refine wp_of_run (v := .slice (some ⟨w.heap.size, 0, none⟩) (n' + m) (grownCap w (n' + m) cap E)) (w' := w.drew.alloc (.cells (xs.toArray ++ ys.toArray ++ Builtin.zeroCells z.cells (grownCap w (n' + m) cap E - (n' + m))) E)) ?_ ?_
        · rw [hexec _ hrun]; rfl
        · have hd : Sat (upd σ g .dead) w.drew := fun k o' hk => by
            by_cases e : k = g
            · subst e; rw [upd_same] at hk; cases hk; show (w.heap[k]?).isSome = true; rw [ha]; rfl
            · rw [upd_ne _ _ e] at hk; exact hs k o' hk
          have hsat : Sat (upd (upd σ g .dead) w.heap.size (.row (xs ++ ys) (grownCap w (n' + m) cap E * i.size) E)) (World.push w.drew (.cells (xs.toArray ++ ys.toArray ++ Builtin.zeroCells z.cells (grownCap w (n' + m) cap E - (n' + m))) E)) := by
            refine Sat.push (w := w.drew) hd _ _ ⟨(Builtin.zeroCells z.cells (grownCap w (n' + m) cap E - (n' + m))).toList, ?_, ?_⟩
            · rw [zc_len, hzs, List.length_append, hxl, hl, ← Nat.add_mul, ← Nat.add_mul]; congr 1; omega
            · congr 2; apply Array.ext'; simp
          refine hk _ _ _ (hK _ _ (.inr ⟨hs.none_of_le (Nat.le_refl _), by omega⟩) hge) hsat (fun w0 σ0 hf => ?_)
          have hf' : Fr w0 w.drew σ0 (upd σ g .dead) := ⟨hf.os, hf.tape, hf.output, hf.size, hf.block, fun k hk hn => by
            have := hf.know k hk hn
            rw [upd_ne _ _ (fun e => by rw [e, hg] at this; cases this)]; exact this⟩
          exact hf'.push _ _
theorem exec_mk (ρ : Operand → Value) (o : Oper) : execOp ρ (mkO o.op o.type) = execOp ρ o := by
  obtain ⟨dst, op, type, pos, after, guard⟩ := o
  cases op <;> rfl
theorem set_splice : ∀ (l : List Value) (k off : Nat) (cs : List Value), off + k + l.length ≤ cs.length →
    ((l.zipIdx k).foldl (fun (a : Array Value) (p : Value × Nat) => a.setIfInBounds (off + p.2) p.1) cs.toArray) = (splice cs (off + k) l).toArray
  | [], k, off, cs, h => by simp [splice]
  | v :: l, k, off, cs, h => by
    simp only [List.length_cons] at h
    have ih := set_splice l (k + 1) off (cs.set (off + k) v) (by simp only [List.length_set]; omega)
    simp only [List.zipIdx_cons, List.foldl_cons, List.setIfInBounds_toArray]
    rw [ih]
    congr 1
    unfold splice
    have h1 : off + k < cs.length := by omega
    rw [show off + (k + 1) = off + k + 1 by omega, List.take_succ_eq_append_getElem (by simpa using h1), List.drop_set_of_lt (by omega)]
    simp [List.take_set_of_le, show off + k + 1 + l.length = off + k + (l.length + 1) by omega]
theorem fill_run {s : Sl} {place : Nat → Option (Nat × Nat)} : ∀ (ps : List (Nat × Operand)) (qs : List (Nat × Nat × Operand)),
    (ps.mapM fun p => (place p.1).map fun q => (q.1, q.2, p.2)) = some qs → ∀ (z cs : List Value), fillO s z qs = some cs → Instr.fill place z.toArray (ps.map fun p => (p.1, ev s p.2)) = some cs.toArray
  | [], qs, h, z, cs, hc => by
    simp only [List.mapM_nil, Option.pure_def, Option.some.injEq] at h
    subst h
    simp only [fillO, Option.some.injEq] at hc
    subst hc
    rfl
  | (i, x) :: ps, qs, h, z, cs, hc => by
    simp only [List.mapM_cons, Option.bind_eq_bind, Option.bind_eq_some_iff, Option.map_eq_some_iff, Option.pure_def, Option.some.injEq] at h
    obtain ⟨q, ⟨⟨off, sz⟩, hp, rfl⟩, qs', hq, rfl⟩ := h
    simp only [fillO] at hc
    split at hc
    · rename_i hcond
      obtain ⟨h1, h2⟩ := hcond
      have ih := fill_run (s := s) (place := place) ps qs' hq _ cs hc
      have hsz : (ev s x).cells.size = sz := by rw [← h1]; simp [cl]
      have hset := set_splice (cl (ev s x)) 0 off z (by simp only [Nat.add_zero]; rw [h1]; exact h2)
      simp only [Nat.add_zero] at hset
      have hfold : ((ev s x).cells.zipIdx.foldl (fun (cs : Array Value) (p : Value × Nat) => cs.setIfInBounds (off + p.2) p.1) z.toArray) = (splice z off (cl (ev s x))).toArray := by
        rw [← hset]
        unfold cl
        rw [← Array.foldl_toList, Array.toList_zipIdx]
      have hb : (decide ((ev s x).cells.size ≠ sz) || decide (off + (ev s x).cells.size > z.toArray.size)) = false := by
        rw [hsz]; simp; exact h2
      simp only [List.map_cons, Instr.fill, hp]
      have hgo : (if (ev s x).cells.size ≠ sz ∨ off + (ev s x).cells.size > z.toArray.size then none else some ()) = some () := by
        rw [if_neg]; rw [hsz]; simp; exact h2
      simp only [hb, Bool.false_eq_true, if_false]
      rw [show (fun (cs : Array Value) (x : Value × Nat) => match x with | (c, j) => cs.setIfInBounds (off + j) c) = (fun (cs : Array Value) (p : Value × Nat) => cs.setIfInBounds (off + p.2) p.1) from rfl, hfold]
      exact ih
    · cases hc
theorem fillO_len (s : Sl) : ∀ (ps : List (Nat × Nat × Operand)) (z cs : List Value), fillO s z ps = some cs → cs.length = z.length
  | [], z, cs, h => by simp only [fillO, Option.some.injEq] at h; rw [h]
  | (off, sz, x) :: r, z, cs, h => by
    simp only [fillO] at h
    split at h
    · rename_i hc
      rw [fillO_len s r _ cs h, splice_len (by rw [hc.1]; exact hc.2)]
    · cases h
theorem binv_run {t yt : TypeId} {op : BinOp} {x y : Operand} {u v r : Value} {w : World} (h : binv op u v = some r) : (do eqGuard op t x y u v; binOp op t u v : Sem Value).run P w = .ok r w := by
  unfold binv at h
  split at h
  all_goals (try (split at h))
  all_goals (try (split at h))
  all_goals first
    | (cases h; done)
    | (cases h; subst_vars; simp_all [eqGuard, binOp, Op.intArith, Op.intCmp, Op.intDiv, Op.intBits, Op.shift, Op.stringOp, IntKind.max, IntKind.signed, IntKind.bits] <;> (first | omega | (intro hh; omega)))
def EqK.ok (P : Program) (t : TypeId) : EqK → Prop
  | .bool => P.underlying t = some .bool
  | .ptr => ∃ e, P.underlying t = some (.pointer e)
  | .slice => ∃ e, P.underlying t = some (.slice e)
theorem eqL_len : ∀ {ks : List Lk} {as bs : List Value} {r : Bool}, eqL ks as bs = some r → as.length = ks.length ∧ bs.length = ks.length
  | [], [], [], _, _ => ⟨rfl, rfl⟩
  | k :: ks, a :: as, b :: bs, r, h => by
    simp only [eqL, Option.bind_eq_some_iff, Option.map_eq_some_iff] at h
    obtain ⟨x, _, y, hy, _⟩ := h
    have := eqL_len hy
    simp only [List.length_cons]; omega
  | [], _ :: _, _, _, h => by cases h
  | [], [], _ :: _, _, h => by cases h
  | _ :: _, [], _, _, h => by cases h
  | _ :: _, _ :: _, [], _, h => by cases h
theorem eqL_append : ∀ {k1 k2 : List Lk} {as bs : List Value} {r : Bool}, eqL (k1 ++ k2) as bs = some r → ∃ x y, eqL k1 (as.take k1.length) (bs.take k1.length) = some x ∧ eqL k2 (as.drop k1.length) (bs.drop k1.length) = some y ∧ r = (x && y)
  | [], k2, as, bs, r, h => ⟨true, r, rfl, h, by simp⟩
  | k :: k1, k2, [], bs, r, h => by cases h
  | k :: k1, k2, a :: as, [], r, h => by cases h
  | k :: k1, k2, a :: as, b :: bs, r, h => by
    simp only [List.cons_append, eqL, Option.bind_eq_some_iff, Option.map_eq_some_iff] at h
    obtain ⟨x, hx, y, hy, rfl⟩ := h
    obtain ⟨z, u, hz, hu, rfl⟩ := eqL_append hy
    exact ⟨x && z, u, by simp only [List.length_cons, List.take_succ_cons, eqL, hx, hz, Option.bind_some, Option.map_some], hu, by rw [Bool.and_assoc]⟩
/-- A value of a flat type out of its cells. -/
def ofC (P : Program) (t : TypeId) (cs : List Value) : Value :=
  match P.underlying t with
  | some (.struct _) => .agg cs.toArray
  | _ => cs.headD undef
theorem lk_one {d : Nat} {t : TypeId} {ks : List Lk} (h : lk P d t = some ks) : ∃ D, P.underlying t = some D ∧ (∀ n e, D ≠ .array n e) ∧ ((∀ fs, D ≠ .struct fs) → ks.length = 1) := by
  cases d with
  | zero => cases h
  | succ d =>
    unfold lk at h
    split at h
    · rename_i k hu; cases h; exact ⟨_, hu, (fun _ _ h => by cases h), (fun _ => rfl)⟩
    · rename_i hu; cases h; exact ⟨_, hu, (fun _ _ h => by cases h), (fun _ => rfl)⟩
    · rename_i hu; cases h; exact ⟨_, hu, (fun _ _ h => by cases h), (fun _ => rfl)⟩
    · rename_i fs hu; exact ⟨_, hu, (fun _ _ h => by cases h), (fun hh => absurd rfl (hh fs))⟩
    · cases h
theorem part_run {t : TypeId} {D : TypeDesc} {i : TypeInfo} (hu : P.underlying t = some D) (hi : P.info? t = some i) (hd : ∀ n e, D ≠ .array n e) (hne : (∀ fs, D ≠ .struct fs) → i.size = 1) {cs : List Value} {off : Nat} (hle : off + i.size ≤ cs.length) (hpos : 0 < i.size) {w : World} :
    (part t cs.toArray off).run P w = .ok (ofC P t ((cs.drop off).take i.size)) w := by
  unfold part
  cases D with
  | struct fs =>
    have ha : (isAgg t).run P w = .ok true w := by unfold isAgg; rw [Sem.run_bind, run_underlying hu]; rfl
    simp only [Sem.run_bind, ha, Result.andThen_ok, if_true, sizeOf, typeInfo, run_program, hi, Sem.run_pure, ofC, hu]
    congr 2
    apply Array.ext'
    simp [List.extract_eq_take_drop]
  | array n e => exact absurd rfl (hd n e)
  | _ =>
    have ha : (isAgg t).run P w = .ok false w := by unfold isAgg; rw [Sem.run_bind, run_underlying hu]; rfl
    have h1 : i.size = 1 := hne (fun fs h => by cases h)
    have hlt : off < cs.length := by omega
    simp only [Sem.run_bind, ha, Result.andThen_ok, Bool.false_eq_true, if_false, List.getElem?_toArray, List.getElem?_eq_getElem hlt, Sem.run_pure, ofC, hu, h1]
    congr 1
    rw [List.drop_eq_getElem_cons hlt]; rfl
theorem flat_fields {d D : Nat} (IH : ∀ (t : TypeId) (ks : List Lk), lk P d t = some ks → ∀ (cs ds : List Value) (r : Bool), eqL ks cs ds = some r → ∀ (w : World), (Op.equalIn D t (ofC P t cs) (ofC P t ds)).run P w = .ok r w) (cs ds : List Value) (w : World) :
    ∀ (fs : List Field) (o : Nat) (ks : List Lk), lkF P (lk P d) fs o = some ks → ∀ r, eqL ks (cs.drop o) (ds.drop o) = some r → (Op.eqFields D cs.toArray ds.toArray fs).run P w = .ok r w
  | [], o, ks, h, r, hr => by
    simp only [lkF, Option.some.injEq] at h
    subst h
    have : r = true := by
      cases h1 : cs.drop o <;> cases h2 : ds.drop o <;> rw [h1, h2] at hr <;> simp_all [eqL]
    subst this
    simp [Op.eqFields]
  | f :: fs, o, ks, h, r, hr => by
    simp only [lkF] at h
    split at h
    · rename_i hc
      obtain ⟨rfl, hn⟩ := hc
      split at h
      · rename_i k hk
        split at h
        · rename_i hs
          obtain ⟨hs, hpos⟩ := hs
          simp only [Option.map_eq_some_iff] at h
          obtain ⟨ks', hks', rfl⟩ := h
          obtain ⟨i, hi, hsz⟩ := Option.map_eq_some_iff.1 hs
          obtain ⟨x, y, hx, hy, rfl⟩ := eqL_append hr
          have hl := eqL_len hx
          simp only [List.length_take, List.length_drop] at hl
          obtain ⟨DD, hu, hna, h1⟩ := lk_one hk
          have hsz' : i.size = k.length := hsz
          have hpc := part_run (P := P) (cs := cs) (off := f.offset) hu hi hna (fun hh => by rw [hsz']; exact h1 hh) (by omega) (by omega) (w := w)
          have hpd := part_run (P := P) (cs := ds) (off := f.offset) hu hi hna (fun hh => by rw [hsz']; exact h1 hh) (by omega) (by omega) (w := w)
          have he := IH f.type k hk _ _ x hx w
          rw [hsz'] at hpc hpd
          simp only [Op.eqFields, if_pos hn, Sem.run_bind, hpc, hpd, Result.andThen_ok, he]
          rw [List.drop_drop, List.drop_drop] at hy
          have hrec := flat_fields IH cs ds w fs (f.offset + k.length) ks' hks' y hy
          cases x with
          | true => simp [hrec]
          | false => simp
        · cases h
      · cases h
    · cases h
theorem flat_eq : ∀ (d : Nat) (t : TypeId) (ks : List Lk), lk P d t = some ks → ∀ (D : Nat), d ≤ D + 1 → ∀ (cs ds : List Value) (r : Bool), eqL ks cs ds = some r → ∀ (w : World), (Op.equalIn (D + 1) t (ofC P t cs) (ofC P t ds)).run P w = .ok r w
  | 0, t, ks, h, _, _, _, _, _, _, _ => by cases h
  | d + 1, t, ks, h, D, hD, cs, ds, r, hr, w => by
    unfold lk at h
    have one : ∀ k, ks = [k] → ∃ a b, cs = [a] ∧ ds = [b] ∧ eq1 k a b = some r := fun k hk => by
      subst hk
      have hl := eqL_len hr
      obtain ⟨a, rfl⟩ := List.length_eq_one_iff.1 hl.1
      obtain ⟨b, rfl⟩ := List.length_eq_one_iff.1 hl.2
      simp only [eqL, Option.map_some, Bool.and_true, Option.bind_eq_some_iff, Option.some.injEq] at hr
      obtain ⟨x, hx, rfl⟩ := hr
      exact ⟨a, b, rfl, rfl, hx⟩
    split at h
    · rename_i k hu
      cases h
      obtain ⟨a, b, rfl, rfl, h1⟩ := one _ rfl
      simp only [ofC, hu, List.headD_cons]
      unfold eq1 at h1
      split at h1 <;> try cases h1
      · rename_i e1 _ _; split at h1
        · rename_i e; subst e; cases h1; simp [Op.equalIn, run_underlying hu]
        · cases h1
      all_goals simp_all
    · rename_i hu
      cases h
      obtain ⟨a, b, rfl, rfl, h1⟩ := one _ rfl
      simp only [ofC, hu, List.headD_cons]
      unfold eq1 at h1
      split at h1 <;> try cases h1
      all_goals first | (simp [Op.equalIn, run_underlying hu]; done) | simp_all
    · rename_i hu
      cases h
      obtain ⟨a, b, rfl, rfl, h1⟩ := one _ rfl
      simp only [ofC, hu, List.headD_cons]
      unfold eq1 at h1
      split at h1 <;> try cases h1
      all_goals first | (simp [Op.equalIn, run_underlying hu, beq_toListBytes]; done) | simp_all
    · rename_i fs hu
      split at h
      · rename_i hp
        have hfo : P.fieldsOf t = fs := by simp [Program.fieldsOf, hu]
        simp only [ofC, hu]
        rw [run_equalIn_struct w D t _ _ (by rw [hfo]; exact hu) hp, hfo]
        cases D with
        | zero =>
          cases hfs : fs.toList with
          | nil =>
            rw [hfs] at h
            have hd0 : d = 0 := by omega
            subst hd0
            exact flat_fields (d := 0) (fun t ks hh => nomatch hh) cs ds w [] 0 ks h r (by simpa using hr)
          | cons f l =>
            have : d = 0 := by omega
            subst this
            rw [hfs] at h
            simp [lkF, lk] at h
        | succ D =>
          exact flat_fields (d := d) (D := D + 1) (fun t ks hh cs ds r hr w => flat_eq d t ks hh D (by omega) cs ds r hr w) cs ds w fs.toList 0 ks h r (by simpa using hr)
      · cases h
    · cases h
theorem eqv_run1 {t : TypeId} {k : EqK} {u v : Value} {r : Bool} {w : World} (d : Nat) (h : eqv k u v = some r) (hk : k.ok P t) : (Op.equalIn (d + 1) t u v).run P w = .ok r w := by
  unfold eqv at h
  split at h <;> cases h
  · have hk : P.underlying t = some .bool := hk
    simp [Op.equalIn, run_underlying hk]
  · obtain ⟨e, hk⟩ := hk; simp [Op.equalIn, run_underlying hk]
  · obtain ⟨e, hk⟩ := hk; simp [Op.equalIn, run_underlying hk]
  · obtain ⟨e, hk⟩ := hk; simp [Op.equalIn, run_underlying hk]
  · obtain ⟨e, hk⟩ := hk; simp [Op.equalIn, run_underlying hk]
theorem eqv_run {t : TypeId} {k : EqK} {u v : Value} {r : Bool} {w : World} (h : eqv k u v = some r) (hk : k.ok P t) : (Op.equal t u v).run P w = .ok r w := eqv_run1 9999 h hk
theorem eqs_run {t : TypeId} {x y : Operand} {k : EqK} {u v : Value} {r neg : Bool} {w : World} (h : eqv k u v = some r) (hk : k.ok P t) :
    (do eqGuard (if neg = true then .neq else .eql) t x y u v; binOp (if neg = true then .neq else .eql) t u v : Sem Value).run P w = .ok (.bool (r != neg)) w := by
  have he := eqv_run (P := P) (w := w) h hk
  unfold eqv at h
  split at h <;> cases neg <;> cases h <;> simp [eqGuard, binOp, he]
theorem ifn_eq {t : TypeId} {ms : Array (String × TypeId)} (d : Nat) {w : World} (hu : P.underlying t = some (.interface ms)) : (Op.equalIn (d + 1) t .nilIface .nilIface).run P w = .ok true w ∧ ∀ T v, (Op.equalIn (d + 1) t (.iface T v) .nilIface).run P w = .ok false w := by
  constructor
  · simp [Op.equalIn, run_underlying hu]
  · intro T v; simp [Op.equalIn, run_underlying hu]
theorem ifn_run {t : TypeId} {ms : Array (String × TypeId)} {u : Value} {neg : Bool} {r : Value} {x : Operand} {w : World} (hu : P.underlying t = some (.interface ms)) (h : lf (.ifn neg) [u] = some r) :
    (do eqGuard (if neg = true then .neq else .eql) t x (.const .nilIface) u .nilIface; binOp (if neg = true then .neq else .eql) t u .nilIface : Sem Value).run P w = .ok r w := by
  have h : ifnv neg u = some r := h
  have h1 : (Op.equal t .nilIface .nilIface).run P w = .ok true w := (ifn_eq 9999 hu).1
  have h2 : ∀ T v, (Op.equal t (.iface T v) .nilIface).run P w = .ok false w := (ifn_eq 9999 hu).2
  unfold ifnv at h
  split at h <;> first | (cases h; done) | skip
  all_goals cases neg <;> cases h <;> simp [eqGuard, binOp, h1, h2]
theorem places_run {w : World} : ∀ (fs : List Field) (pl : List (Nat × Nat)), places P fs = some pl → (fs.mapM fun f => (sizeOf f.type >>= fun a => pure (f.offset, a) : Sem (Nat × Nat))).run P w = .ok pl w
  | [], pl, h => by
    simp only [places, List.mapM_nil, Option.pure_def, Option.some.injEq] at h
    subst h; rfl
  | f :: fs, pl, h => by
    simp only [places, List.mapM_cons, Option.bind_eq_bind, Option.bind_eq_some_iff, Option.map_eq_some_iff, Option.pure_def, Option.some.injEq] at h
    obtain ⟨q, ⟨i, hi, rfl⟩, pl', hp, rfl⟩ := h
    have ih := places_run (w := w) fs pl' hp
    have hsz : (sizeOf f.type).run P w = .ok i.size w := by simp [sizeOf, typeInfo, hi]
    simp only [List.mapM_cons, Sem.run_bind, hsz, Result.andThen_ok, Sem.run_pure, ih]
theorem lenv_str {v : Value} {n : Nat} (h : lenv false v = some n) : ∃ s, v = .string s ∧ n = s.size := by
  cases v <;> simp [lenv] at h
  exact ⟨_, rfl, h.symm⟩
theorem lenv_sl {v : Value} {n : Nat} (h : lenv true v = some n) : ∃ a c, v = .slice a n c := by
  cases v <;> simp [lenv] at h
  exact ⟨_, _, by rw [h]⟩
theorem zero_run {t : TypeId} {i : TypeInfo} {z : Value} {w : World} (hi : P.info? t = some i) (hz : i.zero = some z) : (zeroValue t).run P w = .ok z w := by
  simp [zeroValue, typeInfo, hi, hz]
theorem onI64_el {v : Value} {k : Int → Prop} (h : onI64 v k) : ∃ n, v = .int .i64 n ∧ k n := by
  unfold onI64 at h; split at h
  · exact ⟨_, rfl, h⟩
  · exact h.elim
theorem made_rows {z : Array Value} {k n : Nat} (hz : z.size = k) (hk : 0 < k) : madeCells z (n * k) = ((List.replicate n z.toList).flatten).toArray := by
  subst hz
  apply Array.ext'
  simp only [madeCells, Array.toList_map, Array.toList_range]
  induction n with
  | zero => simp
  | succ n ih =>
    rw [List.replicate_succ', List.flatten_append, List.flatten_singleton, ← ih, Nat.add_mul, Nat.one_mul, List.range_add, List.map_append]
    congr 1
    apply List.ext_getElem
    · simp
    · intro i h1 h2
      have hi : i < z.size := by simpa using h2
      have e : (n * z.size + i) % z.size = i := by rw [Nat.mul_comm, Nat.mul_add_mod]; exact Nat.mod_eq_of_lt hi
      simp [e, getElem!_pos z i hi]
theorem mapKey_elim {t : TypeId} {num : Bool} {e : TypeId} (h : mapKey P t = some (num, e)) : ∃ kt, P.underlying t = some (.map kt e) ∧ P.underlying kt = some (if num = true then .int .i64 else .string) := by
  unfold mapKey at h
  split at h
  · rename_i kt e' ht
    split at h
    · rename_i hk; cases h; exact ⟨kt, ht, by rw [hk]; rfl⟩
    · rename_i hk; cases h; exact ⟨kt, ht, by rw [hk]; rfl⟩
    · cases h
  · cases h
theorem mread_runs {σ : Hp} {w : World} (hs : Sat σ w) {t e : TypeId} {num ok : Bool} {m z k v : Value} (hq : mapKey P t = some (num, e)) (hz : ∀ w, (zeroValue e).run P w = .ok z w) (h : mreadV σ m (.get num ok) z k = some v) : (Instr.lookup t m k ok).run P w = .ok v w := by
  obtain ⟨kt, ht, hkt⟩ := mapKey_elim hq
  have nil : ∀ d, P.underlying kt = some d → MapKept.IsKey d k → (Instr.lookup t (.map none) k ok).run P w = .ok (lookv ok z none) w := fun d hd hk => by
    have hc : ∀ em, (Instr.checkKey em 10000 kt k).run P w = .ok () w := fun em => MapKept.run_checkKey hd hk em 9999
    unfold Instr.lookup
    simp only [Sem.run_bind, run_underlying ht, Result.andThen_ok, Sem.run_pure, hc]
    rw [MapKept.run_findKey (a := none) hd (by rfl)]
    cases ok <;> simp [Sem.run_bind, hz, lookv]
  unfold mreadV at h
  split at h
  · split at h
    · rename_i e1; cases h; cases e1; exact nil _ hkt trivial
    · rename_i e1; cases h; cases e1; exact nil _ hkt rfl
    · rename_i e1; cases e1
    · cases h
  · obtain ⟨o, ho, hv⟩ := Option.bind_eq_some_iff.1 h
    have ha := hs _ o ho
    cases o with
    | mp l =>
      obtain ⟨es, c, ha, hE⟩ := ha
      simp only [bread] at hv
      split at hv
      · rename_i e1; cases hv; cases e1; exact look_run key_str ht hkt hz ha hE _ _
      · rename_i e1; cases e1
      · cases hv
    | im l =>
      obtain ⟨es, c, ha, hE⟩ := ha
      simp only [bread] at hv
      split at hv
      · rename_i e1; cases hv; cases e1; exact look_run key_int ht hkt hz ha hE _ _
      · rename_i e1; cases e1
      · cases hv
    | _ => cases hv
  · cases h
theorem mturn_elim {σ σ' : Hp} {m k v : Value} {q : LT} (h : mturnV σ m q k v = some σ') : ∃ b o o', m = .map (some b) ∧ σ b = some o ∧ bturn q k v o = some o' ∧ σ' = upd σ b o' := by
  unfold mturnV at h
  split at h
  · rename_i b
    obtain ⟨o', ho, rfl⟩ := Option.map_eq_some_iff.1 h
    obtain ⟨o, h1, h2⟩ := Option.bind_eq_some_iff.1 ho
    exact ⟨b, o, o', rfl, h1, h2, rfl⟩
  · cases h
theorem turned {σ : Hp} {w : World} (hs : Sat σ w) {b : Nat} {o o' : Blk} {x : Obj} (hb : σ b = some o) (hx : o'.at (some x)) : Sat (upd σ b o') (World.put w b x) ∧ ∀ w0 σ0, Fr w0 w σ0 σ → Fr w0 (World.put w b x) σ0 (upd σ b o') :=
  ⟨hs.put (hs.lt (by rw [hb]; simp)) _ _ hx, fun w0 σ0 hf => hf.put (by rw [hb]; simp) _ _⟩
theorem mput_runs {σ σ' : Hp} {w : World} (hs : Sat σ w) {t : TypeId} {num : Bool} {e : TypeId} {m k v : Value} (hq : mapKey P t = some (num, e)) (h : mturnV σ m (.put num) k v = some σ') :
    ∃ b x, m = .map (some b) ∧ Sat σ' (World.put w b x) ∧ (∀ w0 σ0, Fr w0 w σ0 σ → Fr w0 (World.put w b x) σ0 σ') ∧ (Instr.mapUpdate t m k v).run P w = .ok () (World.put w b x) := by
  obtain ⟨kt, ht, hkt⟩ := mapKey_elim hq
  obtain ⟨b, o, o', rfl, hb, ho, rfl⟩ := mturn_elim h
  have ha := hs _ o hb
  cases o with
  | mp l =>
    obtain ⟨es, c, ha, hE⟩ := ha
    simp only [bturn] at ho
    split at ho
    · rename_i e1; cases ho; cases e1
      obtain ⟨es', c', hr, hE'⟩ := mset_run key_str ht hkt ha hE _ v
      obtain ⟨h1, h2⟩ := turned hs hb (show (Blk.mp _).at (some (.map es' c')) from ⟨es', c', rfl, hE'⟩)
      exact ⟨b, _, rfl, h1, h2, hr⟩
    · rename_i e1; cases e1
    · rename_i e1; cases e1
    · cases ho
  | im l =>
    obtain ⟨es, c, ha, hE⟩ := ha
    simp only [bturn] at ho
    split at ho
    · rename_i e1; cases ho; cases e1
      obtain ⟨es', c', hr, hE'⟩ := mset_run key_int ht hkt ha hE _ v
      obtain ⟨h1, h2⟩ := turned hs hb (show (Blk.im _).at (some (.map es' c')) from ⟨es', c', rfl, hE'⟩)
      exact ⟨b, _, rfl, h1, h2, hr⟩
    · rename_i e1; cases e1
    · rename_i e1; cases e1
    · cases ho
  | _ => cases ho
theorem mdel_runs {σ σ' : Hp} {w : World} (hs : Sat σ w) {ts : Array TypeId} {ty t : TypeId} {num : Bool} {e : TypeId} {m k v : Value} (hts : ts[0]? = some t) (hq : mapKey P t = some (num, e)) (h : mturnV σ m (.del num) k v = some σ') :
    ∃ b x, m = .map (some b) ∧ Sat σ' (World.put w b x) ∧ (∀ w0 σ0, Fr w0 w σ0 σ → Fr w0 (World.put w b x) σ0 σ') ∧ (Builtin.delete_ ts ty #[m, k]).run P w = .ok (.tuple #[]) (World.put w b x) := by
  obtain ⟨kt, ht, hkt⟩ := mapKey_elim hq
  obtain ⟨b, o, o', rfl, hb, ho, rfl⟩ := mturn_elim h
  have ha := hs _ o hb
  cases o with
  | mp l =>
    obtain ⟨es, c, ha, hE⟩ := ha
    simp only [bturn] at ho
    split at ho
    · rename_i e1; cases e1
    · rename_i e1; cases ho; cases e1
      obtain ⟨es', c', hr, hE'⟩ := mdel_run (ty := ty) key_str hts ht hkt ha hE _
      obtain ⟨h1, h2⟩ := turned hs hb (show (Blk.mp _).at (some (.map es' c')) from ⟨es', c', rfl, hE'⟩)
      exact ⟨b, _, rfl, h1, h2, hr⟩
    · rename_i e1; cases e1
    · cases ho
  | im l =>
    obtain ⟨es, c, ha, hE⟩ := ha
    simp only [bturn] at ho
    split at ho
    · rename_i e1; cases e1
    · rename_i e1; cases ho; cases e1
      obtain ⟨es', c', hr, hE'⟩ := mdel_run (ty := ty) key_int hts ht hkt ha hE _
      obtain ⟨h1, h2⟩ := turned hs hb (show (Blk.im _).at (some (.map es' c')) from ⟨es', c', rfl, hE'⟩)
      exact ⟨b, _, rfl, h1, h2, hr⟩
    · rename_i e1; cases e1
    · cases ho
  | _ => cases ho
theorem clear_none {κ : Type} {enc : κ → Value} {c : Nat} : Ents enc ([] : List (κ × Value)) #[] c := ⟨rfl, List.Pairwise.nil, fun e h => by cases h⟩
theorem mclr_runs {σ σ' : Hp} {w : World} (hs : Sat σ w) {ts : Array TypeId} {ty t : TypeId} {q : Bool × TypeId} {m k v : Value} (hts : ts[0]? = some t) (hq : mapKey P t = some q) (h : mturnV σ m .clr k v = some σ') :
    ∃ b x, m = .map (some b) ∧ Sat σ' (World.put w b x) ∧ (∀ w0 σ0, Fr w0 w σ0 σ → Fr w0 (World.put w b x) σ0 σ') ∧ (Builtin.clear_ ts ty #[m]).run P w = .ok (.tuple #[]) (World.put w b x) := by
  obtain ⟨kt, ht, hkt⟩ := mapKey_elim (show mapKey P t = some (q.1, q.2) from hq)
  obtain ⟨b, o, o', rfl, hb, ho, rfl⟩ := mturn_elim h
  have ha := hs _ o hb
  have run : ∀ es c, w.heap[b]? = some (.map es c) → (Builtin.clear_ ts ty #[.map (some b)]).run P w = .ok (.tuple #[]) (World.put w b (.map #[] c)) := fun es c ha => by
    unfold Builtin.clear_
    simp only [hts, List.getElem?_toArray, List.getElem?_cons_zero, Sem.run_bind, run_underlying ht, Result.andThen_ok, MapKept.run_getObj_map ha, MapKept.run_setObj_map _ ha, Sem.run_pure]
    rfl
  cases o with
  | mp l =>
    obtain ⟨es, c, ha, hE⟩ := ha
    cases ho
    obtain ⟨h1, h2⟩ := turned hs hb (show (Blk.mp []).at (some (.map #[] c)) from ⟨_, c, rfl, clear_none⟩)
    exact ⟨b, _, rfl, h1, h2, run _ _ ha⟩
  | im l =>
    obtain ⟨es, c, ha, hE⟩ := ha
    cases ho
    obtain ⟨h1, h2⟩ := turned hs hb (show (Blk.im []).at (some (.map #[] c)) from ⟨_, c, rfl, clear_none⟩)
    exact ⟨b, _, rfl, h1, h2, run _ _ ha⟩
  | _ => cases ho
theorem mop_sound {n : Nat} {o : Oper} {m : M} (hc : comp P o = some m) (hin : mIn n o = true) {a : Act} {s : Sl} {σ : Hp} {w : World} (hr : Rel n a s) (hs : Sat σ w)
    {K : Value → Hp → Prop} (h : mop P m K s σ) {next : Act → World → Prop} {Q : Exit → Act → World → Prop}
    (hk : ∀ v σ' w', K v σ' → Sat σ' w' → (∀ w0 σ0, Fr w0 w σ0 σ → Fr w0 w' σ0 σ') → next (a.put o.dst v) w') : o.wp P a w next Q := by
  have raw : ∀ (_ : m = .raw o.op o.type) (_ : ∀ cs b, o.op ≠ .select cs b), o.wp P a w next Q := fun hm hsel => by
    subst hm
    obtain ⟨v, hv, hK⟩ := h
    exact wp_of_run (w' := w) (v := v) (by rw [exec_ev hr hsel (mIn_in hin), ← exec_mk]; exact hv w) (hk _ _ _ hK hs (fun _ _ h => h))
  have hop : ∀ (_ : m = .hop o.op o.type), o.wp P a w next Q := fun hm => by
    subst hm
    obtain ⟨hsel, R, hv, hK⟩ := h
    obtain ⟨v, w', σ', h1, h2, h3, h4⟩ := hv w hs
    exact wp_of_run (w' := w') (v := v) (by rw [exec_ev hr hsel (mIn_in hin), ← exec_mk]; exact h1) (hk _ _ _ (hK v σ' h4 ⟨w', h2⟩) h2 h3)
  have val : ∀ (v : Value), (execOp a.eval o).run P w = .ok (.value v) w → K v σ → o.wp P a w next Q := fun v hv hK => wp_of_run hv (hk _ _ _ hK hs (fun _ _ h => h))
  have opd : ∀ x, x ∈ o.op.operands → a.eval x = ev s x := fun x hx => hr.ev (mIn_in hin x hx)
  obtain ⟨dst, op, type, pos, after, guard⟩ := o
  cases op with
  | select cs b => simp [comp] at hc
  | move x => simp only [comp, Option.some.injEq] at hc; subst hc; exact val _ (by simp only [execOp, opd x (by simp [Op.operands])]; rfl) h
  | assign x => simp only [comp, Option.some.injEq] at hc; subst hc; exact val _ (by simp only [execOp, opd x (by simp [Op.operands])]; rfl) h
  | pick c x y =>
    simp only [comp, Option.some.injEq] at hc; subst hc
    obtain ⟨t, ht, hK⟩ := onBool_elim h
    exact val _ (by simp only [execOp, opd c (by simp [Op.operands]), opd x (by simp [Op.operands]), opd y (by simp [Op.operands]), ht, asBool, Sem.run_bind, Sem.run_pure, Result.andThen_ok]) hK
  | nilCheck x =>
    simp only [comp, Option.some.injEq] at hc; subst hc
    obtain ⟨b, off, hp, hK⟩ := onPtr_elim h
    exact val _ (by simp only [execOp, opd x (by simp [Op.operands]), hp, Sem.run_pure]) hK
  | fieldAddr t x f =>
    simp only [comp] at hc
    split at hc
    · rename_i fs hu
      split at hc
      · rename_i fd hfd
        split at hc
        · rename_i i hi
          split at hc
          · cases hc
          · rename_i hsz
            cases hc
            obtain ⟨b, off, hp, hK⟩ := onPtr_elim h
            refine val _ ?_ hK
            simp only [execOp, opd x (by simp [Op.operands]), hp, Instr.fieldAt, Instr.sureAddr, fieldPlace, Sem.run_bind, run_underlying hu, Result.andThen_ok, hfd, Sem.run_pure, sizeOf, typeInfo, run_program, hi, hsz, if_false, addr_add]
        · cases hc
      · cases hc
    · cases hc
  | field t x f =>
    have hx := opd x (by simp [Op.operands])
    simp only [comp] at hc
    split at hc
    · rename_i fs hu
      split at hc
      · rename_i fd hfd
        split at hc
        · rename_i fs' i hu' hi
          cases hc
          obtain ⟨v, hv, hK⟩ := onSome_elim h
          refine val _ ?_ hK
          unfold fldv at hv
          split at hv
          · rename_i cs hxs
            obtain ⟨vs, hvs, rfl⟩ := Option.map_eq_some_iff.1 hv
            have ha : (isAgg fd.type).run P w = .ok true w := by unfold isAgg; rw [Sem.run_bind, run_underlying hu']; rfl
            have hex : cs.extract fd.offset (fd.offset + i.size) = vs.toArray := by
              unfold seg at hvs
              split at hvs
              · cases hvs
                apply Array.ext'
                simp [Array.toList_extract, List.extract_eq_take_drop]
              · cases hvs
            simp only [execOp, hx, hxs, Instr.field, asAgg, part, Sem.run_bind, run_underlying hu, Result.andThen_ok, hfd, Sem.run_pure, ha, if_true, sizeOf, typeInfo, run_program, hi, hex]
          · cases hv
        · cases hc
        · rename_i d hn2 hu' hn1
          cases hc
          obtain ⟨v, hv, hK⟩ := onSome_elim h
          refine val _ ?_ hK
          unfold fldv at hv
          split at hv
          · rename_i cs hxs
            have hv : cs.toList[fd.offset]? = some v := hv
            rw [Array.getElem?_toList] at hv
            have ha : (isAgg fd.type).run P w = .ok false w := by
              unfold isAgg
              rw [Sem.run_bind, run_underlying hu']
              cases d with
              | struct gs => cases hh : P.info? fd.type with
                | none => rw [Program.underlying, hh] at hu'; cases hu'
                | some i => exact absurd rfl (hn1 gs i hh)
              | array n e => exact absurd rfl (hn2 n e)
              | _ => rfl
            simp only [execOp, hx, hxs, Instr.field, asAgg, part, Sem.run_bind, run_underlying hu, Result.andThen_ok, hfd, Sem.run_pure, ha, Bool.false_eq_true, if_false, hv]
          · cases hv
        · cases hc
      · cases hc
    · cases hc
  | indexAddr t x ix =>
    simp only [comp] at hc
    split at hc
    · rename_i e hu
      simp only [Option.map_eq_some_iff] at hc
      obtain ⟨i, hi, rfl⟩ := hc
      have hx := opd x (by simp [Op.operands])
      have hix := opd ix (by simp [Op.operands])
      simp only [mop] at h
      unfold onSlice at h
      split at h
      · rename_i b off len cap hxs
        unfold onI64 at h
        split at h
        · rename_i j hj
          obtain ⟨hj2, hK⟩ := h
          refine val _ ?_ hK
          simp only [execOp, hx, hix, hxs, hj, Instr.indexAt, asIntOf, Sem.run_bind, Sem.run_pure, Result.andThen_ok, run_underlying hu]
          simp [hj2, sizeOf, typeInfo, hi, addr_add]
        · exact h.elim
      · exact h.elim
    · rename_i n e hu
      simp only [Option.map_eq_some_iff] at hc
      obtain ⟨i, hi, rfl⟩ := hc
      have hx := opd x (by simp [Op.operands])
      have hix := opd ix (by simp [Op.operands])
      obtain ⟨r, hb, hK⟩ := onSome_elim h
      refine val r ?_ hK
      simp only [List.map_cons, List.map_nil, lf] at hb
      unfold aixv at hb
      split at hb
      · rename_i b off j hxs hj
        split at hb
        · rename_i hj2
          cases hb
          simp only [execOp, hx, hix, hxs, hj, Instr.indexAt, asIntOf, Instr.sureAddr, Sem.run_bind, Sem.run_pure, Result.andThen_ok, run_underlying hu]
          simp [hj2, sizeOf, typeInfo, hi, addr_add]
        · cases hb
      · cases hb
    · cases hc
  | binOp op t x y yt =>
    have hx := opd x (by simp [Op.operands])
    have hy := opd y (by simp [Op.operands])
    have go : ∀ (_ : m = .bin op x y), Oper.wp P ⟨dst, .binOp op t x y yt, type, pos, after, guard⟩ a w next Q := fun e => by
      subst e
      obtain ⟨r, hb, hK⟩ := onSome_elim h
      refine val r ?_ hK
      have hrun := binv_run (P := P) (t := t) (yt := yt) (x := x) (y := y) (w := w) hb
      simp only [execOp, hx, hy]
      simp only [Sem.run_bind] at hrun ⊢
      rw [hrun]; rfl
    have ge : ∀ (neg : Bool) (k : EqK) (_ : op = if neg = true then .neq else .eql) (_ : m = .eqs neg k x y) (hk : k.ok P t), Oper.wp P ⟨dst, .binOp op t x y yt, type, pos, after, guard⟩ a w next Q := fun neg k eo e hkk => by
      subst e; subst eo
      obtain ⟨r, hb, hK⟩ := onSome_elim h
      refine val _ ?_ hK
      have hrun := eqs_run (P := P) (t := t) (x := x) (y := y) (w := w) (neg := neg) hb hkk
      simp only [execOp, hx, hy]
      simp only [Sem.run_bind] at hrun ⊢
      rw [hrun]; rfl
    simp only [comp] at hc
    split at hc
    · cases hc; exact go rfl
    · split at hc <;> first
        | (cases hc; exact go rfl)
        | (cases hc; exact raw rfl (fun _ _ h => by cases h))
    · rename_i hu
      split at hc
      · rename_i hgt
        simp only [Option.bind_eq_some_iff] at hc
        obtain ⟨ks, hks, hc⟩ := hc
        have gs : ∀ (neg : Bool) (_ : op = if neg = true then .neq else .eql) (_ : m = .eqa neg ks x y), Oper.wp P ⟨dst, .binOp op t x y yt, type, pos, after, guard⟩ a w next Q := fun neg eo e => by
          subst e; subst eo
          obtain ⟨r, hb, hK⟩ := onSome_elim h
          refine val _ ?_ hK
          unfold eqa at hb
          split at hb
          · rename_i ca cb hxa hxb
            have hrun := flat_eq (P := P) 20 t ks hks 9999 (by omega) _ _ r hb w
            have hsu : ∃ fs, P.underlying t = some (.struct fs) := ⟨_, ‹_›⟩
            obtain ⟨fs, hsu⟩ := hsu
            simp only [ofC, hsu, Array.toArray_toList] at hrun
            simp only [execOp, hx, hy, hxa, hxb]
            cases neg with
            | false =>
              simp only [Bool.false_eq_true, if_false, Sem.run_bind, run_eqGuard_agg w _ _ _ _ _ _ hgt, Result.andThen_ok, run_eql_struct, hrun, Sem.run_pure]
              simp
            | true =>
              simp only [if_true, Sem.run_bind, run_eqGuard_agg w _ _ _ _ _ _ hgt, Result.andThen_ok, run_neq_struct, hrun, Sem.run_pure]
              simp
          · cases hb
        split at hc
        · cases hc; exact gs false rfl rfl
        · cases hc; exact gs true rfl rfl
        · cases hc
      · cases hc
    · rename_i hu
      split at hc
      · cases hc; exact ge false .bool rfl rfl hu
      · cases hc; exact ge true .bool rfl rfl hu
      · cases hc
    · rename_i e hu
      split at hc
      · cases hc; exact ge false .ptr rfl rfl ⟨e, hu⟩
      · cases hc; exact ge true .ptr rfl rfl ⟨e, hu⟩
      · cases hc
    · rename_i e hu
      split at hc
      · cases hc; exact ge false .slice rfl rfl ⟨e, hu⟩
      · cases hc; exact ge true .slice rfl rfl ⟨e, hu⟩
      · cases hc
    · rename_i ms hu
      have gi : ∀ (neg : Bool) (_ : op = if neg = true then .neq else .eql) (_ : y = .const .nilIface) (_ : m = .fnl (.ifn neg) [x]), Oper.wp P ⟨dst, .binOp op t x y yt, type, pos, after, guard⟩ a w next Q := fun neg eo ey e => by
        subst e; subst eo; subst ey
        obtain ⟨r, hb, hK⟩ := onSome_elim h
        refine val r ?_ hK
        have hrun := ifn_run (P := P) (x := x) (w := w) hu hb
        simp only [execOp, hx]
        simp only [Sem.run_bind] at hrun ⊢
        rw [show a.eval (.const .nilIface) = .nilIface from rfl, hrun]; rfl
      split at hc
      · cases hc; exact gi false rfl rfl rfl
      · cases hc; exact gi true rfl rfl rfl
      · cases hc; exact raw rfl (fun _ _ h => by cases h)
    · cases hc; exact raw rfl (fun _ _ h => by cases h)
  | unOp op t x =>
    cases op with
    | not =>
      simp only [comp, Option.some.injEq] at hc; subst hc
      obtain ⟨t, ht, hK⟩ := onBool_elim h
      exact val _ (by simp only [execOp, opd x (by simp [Op.operands]), ht, Op.unary, Sem.run_bind, Sem.run_pure, Result.andThen_ok]) hK
    | _ => simp only [comp, Option.some.injEq] at hc; exact raw hc.symm (fun _ _ h => by cases h)
  | extract x i =>
    simp only [comp, Option.some.injEq] at hc; subst hc
    simp only [mop] at h
    unfold onTuple at h
    split at h
    · rename_i vs hv
      obtain ⟨v, hi, hK⟩ := onSome_elim h
      exact val _ (by simp only [execOp, opd x (by simp [Op.operands]), hv, Instr.extract, hi, Sem.run_bind, Sem.run_pure, Result.andThen_ok]) hK
    · exact h.elim
  | alloc t =>
    simp only [comp, Option.bind_eq_some_iff, Option.map_eq_some_iff] at hc
    obtain ⟨i, hi, z, hz, rfl⟩ := hc
    refine wp_of_run (w' := World.push w (.cells (cl z).toArray t)) (v := .pointer (some ⟨w.heap.size, 0, none⟩)) ?_ (hk _ _ _ (h _ (hs.none_of_le (Nat.le_refl _))) (hs.push _ _ rfl) (fun _ _ hf => hf.push _ _))
    simp only [execOp, Instr.alloc, Sem.run_bind, zero_run hi hz, Result.andThen_ok, newVar, newRow, Sem.run_pure]
    simp [cl, World.push, newObj, Sem.run]
  | box t x =>
    simp only [comp, Option.some.injEq] at hc; subst hc
    refine wp_of_run (w' := World.push w (.cells (cl (ev s x)).toArray t)) (v := .pointer (some ⟨w.heap.size, 0, none⟩)) ?_ (hk _ _ _ (h _ (hs.none_of_le (Nat.le_refl _))) (hs.push _ _ rfl) (fun _ _ hf => hf.push _ _))
    simp only [execOp, opd x (by simp [Op.operands]), Instr.box, Sem.run_bind, Result.andThen_ok, newVar, newRow, Sem.run_pure]
    simp [cl, World.push, newObj, Sem.run]
  | build t ps =>
    simp only [comp] at hc
    split at hc
    · rename_i i fs hi hu
      simp only [Option.bind_eq_some_iff, Option.map_eq_some_iff] at hc
      obtain ⟨z, hz, pl, hpl, q, hq, rfl⟩ := hc
      obtain ⟨cs, hcs, hK⟩ := onSome_elim h
      refine val _ ?_ hK
      have hmap : (ps.map fun (p : Nat × Operand) => (p.1, a.eval p.2)) = (ps.toList.map fun p => (p.1, ev s p.2)).toArray := by
        apply Array.ext'
        simp only [Array.toList_map]
        exact List.map_congr_left fun p hp => by
          rw [opd p.2 (by simp only [Op.operands, List.mem_toArray, List.mem_map]; exact ⟨p, hp, rfl⟩)]
      have hfill := fill_run (s := s) (place := fun i => pl[i]?) ps.toList q hq (cl z) cs hcs
      have hpr : (fs.mapM fun f => (sizeOf f.type >>= fun a => pure (f.offset, a) : Sem (Nat × Nat))).run P w = .ok pl.toArray w := by
        rw [Array.mapM_eq_mapM_toList, map_eq_pure_bind, Sem.run_bind, places_run fs.toList pl hpl]; rfl
      have hz' : z.cells = (cl z).toArray := by simp [cl]
      have hb : (Instr.build t (ps.toList.map fun p => (p.1, ev s p.2)).toArray).run P w = .ok (.agg cs.toArray) w := by
        unfold Instr.build
        simp only [Sem.run_bind, zero_run hi hz, Result.andThen_ok, run_underlying hu, Sem.run_pure]
        rw [hpr]
        simp only [Result.andThen_ok, List.getElem?_toArray, hz', hfill, Sem.run_pure]
      have he : execOp a.eval ⟨dst, .build t ps, type, pos, after, guard⟩ = (do pure (.value (← Instr.build t (ps.map fun (p : Nat × Operand) => (p.1, a.eval p.2))))) := rfl
      rw [he, hmap, Sem.run_bind, hb]; rfl
    · rename_i i n e hi hu
      simp only [Option.bind_eq_some_iff, Option.map_eq_some_iff] at hc
      obtain ⟨ie, hie, z, hz, rfl⟩ := hc
      obtain ⟨cs, hcs, hK⟩ := onSome_elim h
      refine val _ ?_ hK
      have hmap : (ps.map fun (p : Nat × Operand) => (p.1, a.eval p.2)) = (ps.toList.map fun p => (p.1, ev s p.2)).toArray := by
        apply Array.ext'
        simp only [Array.toList_map]
        exact List.map_congr_left fun p hp => by
          rw [opd p.2 (by simp only [Op.operands, List.mem_toArray, List.mem_map]; exact ⟨p, hp, rfl⟩)]
      have hq : (ps.toList.mapM fun p => ((fun j => some (j * ie.size, ie.size)) p.1).map fun q : Nat × Nat => (q.1, q.2, p.2)) = some (ps.toList.map fun p => (p.1 * ie.size, ie.size, p.2)) := by
        generalize ps.toList = l
        induction l with
        | nil => rfl
        | cons p l ih => simp only [List.mapM_cons, ih, List.map_cons]; rfl
      have hfill := fill_run (s := s) (place := fun j => some (j * ie.size, ie.size)) ps.toList _ hq (cl z) cs hcs
      have hz' : z.cells = (cl z).toArray := by simp [cl]
      have hsz : (sizeOf e).run P w = .ok ie.size w := by simp [sizeOf, typeInfo, hie]
      have hb : (Instr.build t (ps.toList.map fun p => (p.1, ev s p.2)).toArray).run P w = .ok (.agg cs.toArray) w := by
        unfold Instr.build
        simp only [Sem.run_bind, zero_run hi hz, Result.andThen_ok, run_underlying hu, Sem.run_pure, hsz, hz', hfill]
      have he : execOp a.eval ⟨dst, .build t ps, type, pos, after, guard⟩ = (do pure (.value (← Instr.build t (ps.map fun (p : Nat × Operand) => (p.1, a.eval p.2))))) := rfl
      rw [he, hmap, Sem.run_bind, hb]; rfl
    · cases hc
  | buildSlice t l ps =>
    simp only [comp] at hc
    split at hc
    · rename_i e hu
      split at hc
      · rename_i i hi
        split at hc
        · rename_i z hz
          split at hc
          · rename_i hcond
            obtain ⟨h1, h2, h3⟩ := hcond
            cases hc
            obtain ⟨cs, hcs, hK⟩ := onSome_elim h
            have hq : (ps.toList.mapM fun p => ((fun j => some (j * i.size, i.size)) p.1).map fun q : Nat × Nat => (q.1, q.2, p.2)) = some (ps.toList.map fun p => (p.1 * i.size, i.size, p.2)) := by
              generalize ps.toList = l
              induction l with
              | nil => rfl
              | cons p l ih => simp only [List.mapM_cons, ih, List.map_cons]; rfl
            have hfill := fill_run (s := s) (place := fun j => some (j * i.size, i.size)) ps.toList _ hq _ cs hcs
            have hmap : (ps.map fun (p : Nat × Operand) => (p.1, a.eval p.2)) = (ps.toList.map fun p => (p.1, ev s p.2)).toArray := by
              apply Array.ext'
              simp only [Array.toList_map]
              exact List.map_congr_left fun p hp => by
                rw [opd p.2 (by simp only [Op.operands, List.mem_toArray, List.mem_map]; exact ⟨p, hp, rfl⟩)]
            have hcl : (cs.length : Nat) = l * i.size := by
              have := fillO_len _ _ _ _ hcs
              simpa using this
            have hz' : z.cells.size = i.size := by rw [← h2]; simp [cl]
            have hb : (Instr.buildSlice t l (ps.toList.map fun p => (p.1, ev s p.2)).toArray).run P w = .ok (.slice (some ⟨w.heap.size, 0, none⟩) l l) (World.push w (.cells cs.toArray e)) := by
              unfold Instr.buildSlice
              have hsz : (sizeOf e).run P w = .ok i.size w := by simp [sizeOf, typeInfo, hi]
              have hle : ¬ (l * i.size > 2 ^ 24) := by omega
              have hend : (match some cs.toArray with
                  | some cells => (do let r ← newRow e cells; pure (Value.slice (some r) l l) : Sem Value)
                  | x => stuck "buildSlice: a part of the wrong size").run P w = .ok (.slice (some ⟨w.heap.size, 0, none⟩) l l) (World.push w (.cells cs.toArray e)) := by
                simp [newRow, newObj, Sem.run, World.push]
              simp only [Sem.run_bind, run_underlying hu, Result.andThen_ok, hsz]
              rw [if_neg hle]
              by_cases h0 : l * i.size = 0
              · rw [if_pos h0]
                have e1 : ((Array.range (l * i.size)).map ((#[] : Array Value)[· % (#[] : Array Value).size]!)) = ((List.range (l * i.size)).map fun j => (cl z)[j % i.size]?.getD default).toArray := by rw [h0]; simp
                simp only [Sem.run_bind, Sem.run_pure, Result.andThen_ok]
                rw [e1, hfill]; exact hend
              · rw [if_neg h0]
                have e1 : ((Array.range (l * i.size)).map (z.cells[· % z.cells.size]!)) = ((List.range (l * i.size)).map fun j => (cl z)[j % i.size]?.getD default).toArray := by
                  apply Array.ext'
                  simp only [Array.toList_map, Array.toList_range, hz']
                  refine List.map_congr_left fun j _ => ?_
                  simp [cl, getElem!_def]
                  cases z.cells[j % i.size]? <;> rfl
                simp only [Sem.run_bind, zero_run hi hz, Sem.run_pure, Result.andThen_ok]
                rw [e1, hfill]; exact hend
            have he : execOp a.eval ⟨dst, .buildSlice t l ps, type, pos, after, guard⟩ = (do pure (.value (← Instr.buildSlice t l (ps.map fun (p : Nat × Operand) => (p.1, a.eval p.2))))) := rfl
            refine wp_of_run (w' := World.push w (.cells cs.toArray e)) (v := .slice (some ⟨w.heap.size, 0, none⟩) l l) ?_ (hk _ _ _ (hK _ (hs.none_of_le (Nat.le_refl _))) (hs.push _ _ ⟨[], by simp, by simp⟩) (fun _ _ hf => hf.push _ _))
            rw [he, hmap, Sem.run_bind, hb]; rfl
          · cases hc
        · cases hc
      · cases hc
    · cases hc
  | load t x =>
    have hx : a.eval x = ev s x := opd x (by simp [Op.operands])
    simp only [comp] at hc
    split at hc
    · rename_i fs i hu hi
      cases hc
      obtain ⟨b, off, hp, h⟩ := onPtr_elim h
      obtain ⟨vs, hrd, hK⟩ := onSome_elim h
      obtain ⟨hl, hg⟩ := rdn_cells hs hrd
      refine val _ ?_ hK
      simp only [execOp, hx, hp, Instr.loadAt, Instr.sureAddr, Sem.run_bind, Sem.run_pure, Result.andThen_ok, loadVar_agg hu hi hl hg]
    · cases hc
    · rename_i d hn2 hu hn1
      cases hc
      obtain ⟨b, off, hp, h⟩ := onPtr_elim h
      obtain ⟨v, hrd, hK⟩ := onSome_elim h
      refine val _ ?_ hK
      have := loadVar_one (P := P) hu (fun fs e => by subst e; cases hh : P.info? t with
        | none => rw [Program.underlying, hh] at hu; cases hu
        | some i => exact hn1 fs i hh rfl) (fun m e ee => hn2 m e ee) (rd_cell hs hrd)
      simp only [execOp, hx, hp, Instr.loadAt, Instr.sureAddr, Sem.run_bind, Sem.run_pure, Result.andThen_ok, this]
    · cases hc
  | store t ad x =>
    have hx : a.eval x = ev s x := opd x (by simp [Op.operands])
    have ha : a.eval ad = ev s ad := opd ad (by simp [Op.operands])
    simp only [comp, Option.map_eq_some_iff] at hc
    obtain ⟨i, hi, rfl⟩ := hc
    obtain ⟨b, off, hp, hl, h1, h⟩ := onPtr_elim h
    obtain ⟨σ', hw, hK⟩ := onSome_elim h
    obtain ⟨w', hrun, hs', hf⟩ := wr_run (P := P) hs h1 hw
    refine wp_of_skip (w' := w') ?_ (hk _ _ _ hK hs' hf)
    unfold cl at hl hrun
    rw [Array.length_toList] at hl
    simp only [execOp, hx, ha, hp, Instr.storeAt, Instr.sureAddr, storeVar, sizeOf, typeInfo, Sem.run_bind, Sem.run_pure, Result.andThen_ok]
    simp [hi, hl, hrun]
  | call c =>
    obtain ⟨callee, args, argTypes⟩ := c
    cases callee with
    | value f =>
      cases f with
      | func f =>
        simp only [comp] at hc
        split at hc
        · rename_i fn hf
          split at hc
          · cases hc; exact hop rfl
          · rename_i hbad
            cases hc
            obtain ⟨R, hcall, hK⟩ := h
            have hargs : args.map a.eval = (args.toList.map (ev s)).toArray := by
              apply Array.ext'
              simp only [Array.toList_map]
              exact List.map_congr_left fun x hx => opd x (by simp [Op.operands, Call.operands]; exact .inr (by simpa using hx))
            have hrun : (execOp a.eval ⟨dst, .call ⟨.value (.func f), args, argTypes⟩, type, pos, after, guard⟩).run P w = .ok (.enter f (args.toList.map (ev s)).toArray) w := by
              have hb1 : (fn.name == "runtime.NumGoroutine") = false := by
                cases hh : fn.name == "runtime.NumGoroutine" <;> simp_all
              have hb2 : fn.body.isNone = false := by
                cases hh : fn.body.isNone <;> simp_all
              have hb1' : ¬ fn.name = "runtime.NumGoroutine" := by simpa using hb1
              have hb3 : ¬ fn.body = none := fun h => by rw [h] at hb2; cases hb2
              simp [execOp, resolve, Deferred.ofValue, Act.eval, invoke, callFunc, hf, hb1', hb3, hargs, go_sem]
            unfold Oper.wp
            rw [hrun, Oper.upon_enter]
            refine (hcall w hs).mono ?_
            rintro e w' ⟨v, σ', rfl, hs', hf', hR⟩
            exact hk v σ' w' (hK v σ' hR ⟨_, hs'⟩) hs' (fun w0 σ0 h0 => h0.trans hf')
        · cases hc
      | tmp t =>
        simp only [comp, Option.some.injEq] at hc
        subst hc
        obtain ⟨f, cs, hf0, hok, R, hcall, hK⟩ := h
        have hargs : args.map a.eval = (args.toList.map (ev s)).toArray := by
          apply Array.ext'
          simp only [Array.toList_map]
          exact List.map_congr_left fun x hx => opd x (by simp [Op.operands, Call.operands]; exact .inr (by simpa using hx))
        have hx := opd (.tmp t) (by simp [Op.operands, Call.operands])
        unfold okF at hok
        simp only [Bool.and_eq_true] at hok
        split at hok
        · rename_i fn hf
          have hbad := hok.2
          have hb1' : ¬ fn.name = "runtime.NumGoroutine" := by simp at hbad; exact hbad.1
          have hb3 : ¬ fn.body = none := fun e => by rw [e] at hbad; simp at hbad
          have hb4 : fn.body.isNone = false := by cases h : fn.body <;> simp_all
          have hb5 : (fn.name == "runtime.NumGoroutine") = false := by simpa using hb1'
          have ha2 : (#[] ++ args.map a.eval) ++ cs = (args.toList.map (ev s) ++ cs.toList).toArray := by rw [hargs]; simp
          have hres : (resolve a.eval ⟨.value (.tmp t), args, argTypes⟩ type).run P w = .ok ⟨.fn (.func f) cs, #[] ++ args.map a.eval⟩ w := by
            simp only [resolve, hx, hf0, Deferred.ofValue]; rfl
          have hrun : (execOp a.eval ⟨dst, .call ⟨.value (.tmp t), args, argTypes⟩, type, pos, after, guard⟩).run P w = .ok (.enter f (args.toList.map (ev s) ++ cs.toList).toArray) w := by
            show ((resolve a.eval ⟨.value (.tmp t), args, argTypes⟩ type) >>= fun d => invoke d.target d.args).run P w = _
            rw [Sem.run_bind, hres, Result.andThen_ok]
            simp only [invoke, ha2, callFunc, Sem.run_bind, run_program, Result.andThen_ok, hf, hb5, hb4, Bool.false_eq_true, if_false, Sem.run_pure]
          unfold Oper.wp
          rw [hrun, Oper.upon_enter]
          refine (hcall w hs).mono ?_
          rintro e w' ⟨v, σ', rfl, hs', hf', hR⟩
          exact hk v σ' w' (hK v σ' hR ⟨_, hs'⟩) hs' (fun w0 σ0 h0 => h0.trans hf')
        · cases hok.2
      | const t => simp only [comp, Option.some.injEq] at hc; exact raw hc.symm (fun _ _ h => by cases h)
      | global t => simp only [comp, Option.some.injEq] at hc; exact raw hc.symm (fun _ _ h => by cases h)
    | invoke r mm => simp only [comp, Option.some.injEq] at hc; exact raw hc.symm (fun _ _ h => by cases h)
    | builtin b =>
      cases b with
      | len =>
        simp only [comp] at hc
        split at hc
        · rename_i x t hargs htys
          have ea : args = #[x] := by apply Array.ext'; simpa using hargs
          have et : argTypes = #[t] := by apply Array.ext'; simpa using htys
          subst ea et
          have hx := opd x (by simp [Op.operands, Call.operands])
          split at hc
          · rename_i hu
            cases hc
            obtain ⟨n', hn, hK⟩ := onSome_elim h
            obtain ⟨st, hxs, rfl⟩ := lenv_str hn
            refine val _ ?_ hK
            simp [execOp, resolve, invoke, builtin, Builtin.len_, hx, hxs, run_underlying hu, goInt]
          · rename_i e hu
            cases hc
            obtain ⟨n', hn, hK⟩ := onSome_elim h
            obtain ⟨aa, cc, hxs⟩ := lenv_sl hn
            refine val _ ?_ hK
            simp [execOp, resolve, invoke, builtin, Builtin.len_, hx, hxs, run_underlying hu, goInt]
          · rename_i kt e hu
            split at hc
            · rename_i q hq
              cases hc
              obtain ⟨v, hv, hK⟩ := onSome_elim h
              refine val _ ?_ hK
              simp only [mreadV] at hv
              split at hv
              · rename_i hm
                cases hv
                simp [execOp, resolve, invoke, builtin, Builtin.len_, hx, hm, run_underlying hu, goInt]
              · rename_i b hm
                obtain ⟨o, ho, hv⟩ := Option.bind_eq_some_iff.1 hv
                have ha := hs b o ho
                cases o with
                | mp l =>
                  obtain ⟨es, c, ha, hE⟩ := ha
                  cases hv
                  have hl : es.size = l.length := by have := congrArg List.length hE.kv; simpa using this
                  simp [execOp, resolve, invoke, builtin, Builtin.len_, hx, hm, run_underlying hu, goInt, MapKept.run_getObj_map ha, hl]
                | im l =>
                  obtain ⟨es, c, ha, hE⟩ := ha
                  cases hv
                  have hl : es.size = l.length := by have := congrArg List.length hE.kv; simpa using this
                  simp [execOp, resolve, invoke, builtin, Builtin.len_, hx, hm, run_underlying hu, goInt, MapKept.run_getObj_map ha, hl]
                | _ => cases hv
              · cases hv
            · cases hc
          · cases hc
        · cases hc
      | delete =>
        simp only [comp] at hc
        split at hc
        · rename_i x i t t2 hargs htys
          split at hc
          · rename_i num e hq
            cases hc
            have ea : args = #[x, i] := by apply Array.ext'; simpa using hargs
            have et : argTypes = #[t, t2] := by apply Array.ext'; simpa using htys
            subst ea et
            have hx := opd x (by simp [Op.operands, Call.operands])
            have hi := opd i (by simp [Op.operands, Call.operands])
            obtain ⟨σ', hσ, hK⟩ := onSome_elim h
            obtain ⟨b, x', hb, hsat, hfr, hrun⟩ := mdel_runs (ts := #[t, t2]) (ty := type) hs rfl hq hσ
            refine wp_of_run (w' := World.put w b x') ?_ (hk _ _ _ hK hsat hfr)
            simp [execOp, resolve, invoke, builtin, hx, hi, hrun, turnv]
          · cases hc; exact raw rfl (fun _ _ h => by cases h)
        · cases hc; exact raw rfl (fun _ _ h => by cases h)
      | copy => simp only [comp, Option.some.injEq] at hc; exact hop hc.symm
      | clear =>
        simp only [comp] at hc
        split at hc
        · rename_i x t hargs htys
          split at hc
          · rename_i q hq
            cases hc
            have ea : args = #[x] := by apply Array.ext'; simpa using hargs
            have et : argTypes = #[t] := by apply Array.ext'; simpa using htys
            subst ea et
            have hx := opd x (by simp [Op.operands, Call.operands])
            obtain ⟨σ', hσ, hK⟩ := onSome_elim h
            obtain ⟨b, x', hb, hsat, hfr, hrun⟩ := mclr_runs (ts := #[t]) (ty := type) hs rfl hq hσ
            refine wp_of_run (w' := World.put w b x') ?_ (hk _ _ _ hK hsat hfr)
            simp [execOp, resolve, invoke, builtin, hx, hrun, turnv]
          · cases hc; exact hop rfl
        · cases hc; exact raw rfl (fun _ _ h => by cases h)
      | append =>
        simp only [comp] at hc
        split at hc
        · rename_i x y t u hargs htys
          split at hc
          · rename_i htu
            subst htu
            split at hc
            · rename_i E ht
              split at hc
              · rename_i i hi
                split at hc
                · rename_i z hz
                  split at hc
                  · rename_i hzz
                    cases hc
                    have ea : args = #[x, y] := by apply Array.ext'; simpa using hargs
                    have et : argTypes = #[t, t] := by apply Array.ext'; simpa using htys
                    subst ea et
                    exact app_sound rfl ht hi hz hzz.1 hzz.2 hin hr hs h hk
                  · cases hc
                · cases hc
              · cases hc
            · cases hc
          · cases hc; exact hop rfl
        · cases hc
      | max =>
        simp only [comp] at hc
        split at hc
        · rename_i x y hargs
          have ea : args = #[x, y] := by apply Array.ext'; simpa using hargs
          subst ea
          cases hc
          obtain ⟨k, u, hx, h⟩ := onInt_elim h
          obtain ⟨k', v, hy, h⟩ := onInt_elim h
          have hx' := opd x (by simp [Op.operands, Call.operands])
          have hy' := opd y (by simp [Op.operands, Call.operands])
          refine val _ ?_ h
          simp [execOp, resolve, invoke, builtin, Builtin.max_, Builtin.max2, hx', hy', hx, hy]
        · cases hc; exact raw rfl (fun _ _ h => by cases h)
      | min =>
        simp only [comp] at hc
        split at hc
        · rename_i x y hargs
          have ea : args = #[x, y] := by apply Array.ext'; simpa using hargs
          subst ea
          cases hc
          obtain ⟨k, u, hx, h⟩ := onInt_elim h
          obtain ⟨k', v, hy, h⟩ := onInt_elim h
          have hx' := opd x (by simp [Op.operands, Call.operands])
          have hy' := opd y (by simp [Op.operands, Call.operands])
          refine val _ ?_ h
          simp [execOp, resolve, invoke, builtin, Builtin.min_, Builtin.min2, hx', hy', hx, hy]
        · cases hc; exact raw rfl (fun _ _ h => by cases h)
      | _ => simp only [comp, Option.some.injEq] at hc; exact raw hc.symm (fun _ _ h => by cases h)
  | convert src dst x =>
    simp only [comp] at hc
    split at hc
    · rename_i k1 k hsrc hdst
      cases hc
      obtain ⟨k', v, hx, h⟩ := onInt_elim h
      refine val _ ?_ h
      have hx' := opd x (by simp [Op.operands])
      simp [execOp, hx', hx, convert, run_underlying hsrc, run_underlying hdst, Conv.intToInt]
    · rename_i k1 hsrc hdst
      cases hc
      have hx' := opd x (by simp [Op.operands])
      obtain ⟨r, hb, hK⟩ := onSome_elim h
      refine val r ?_ hK
      obtain ⟨k, n, e2, rfl⟩ := lf_rune hb
      simp only [execOp, hx', e2, Sem.run_bind, run_convert_int_string w src dst k n (by rw [hsrc]; rfl) hdst, Result.andThen_ok, Sem.run_pure]
    · rename_i e hsrc hdst
      split at hc
      · rename_i he
        cases hc
        have hx' := opd x (by simp [Op.operands])
        obtain ⟨bk, off, n, c, e1, h⟩ := onSlice_elim h
        obtain ⟨vs, e2, h⟩ := onSome_elim h
        obtain ⟨ys, e3, hK⟩ := onSome_elim h
        obtain ⟨hl, hcell⟩ := rdn_cells hs e2
        have hm := u8s_map e3
        subst hm
        refine val _ ?_ hK
        have hrun := run_convert_bytes_arg (P := P) w src e hsrc he bk off n c ys (by simpa using hl) (fun i hi => by
          have hlt : i < ys.length := by simpa [← hl] using hi
          have := hcell i (.int .u8 (ys.getD i 0)) (by simp [List.getElem?_eq_getElem hlt, List.getD_eq_getElem?_getD])
          rw [addr_add] at this; exact this) dst hdst
        simp only [execOp, hx', e1, Sem.run_bind, hrun, Result.andThen_ok, Sem.run_pure]
      · cases hc; exact raw rfl (fun _ _ h => by cases h)
    · cases hc; exact raw rfl (fun _ _ h => by cases h)
  | slice t x lo hi mx =>
    simp only [comp] at hc
    split at hc
    · rename_i i j ht
      cases hc
      have hx := opd x (by simp [Op.operands])
      have hi := opd i (by simp [Op.operands])
      have hj := opd j (by simp [Op.operands])
      obtain ⟨r, hb, hK⟩ := onSome_elim h
      refine val r ?_ hK
      obtain ⟨bs, k1, v1, k2, v2, e1, e2, e3, ⟨h1, h2, h3⟩, rfl⟩ := lf_sls hb
      have hrun := run_slice_string (P := P) w t bs k1 k2 v1 v2 ht h1 h2 h3
      simp only [execOp, hx, hi, hj, e1, e2, e3, Option.map_some, Option.map_none, Sem.run_bind, Instr.sliceAt, run_underlying ht, Result.andThen_ok, hrun, Sem.run_pure]
    · rename_i e i ht
      simp only [Option.map_eq_some_iff] at hc
      obtain ⟨inf, hinf, rfl⟩ := hc
      have hx := opd x (by simp [Op.operands])
      have hi := opd i (by simp [Op.operands])
      obtain ⟨r, hb, hK⟩ := onSome_elim h
      refine val r ?_ hK
      obtain ⟨ad, n', c', k1, v1, e1, e2, ⟨h1, h2⟩, rfl⟩ := lf_sll hb
      have he : P.elem t = e := by simp [Program.elem, ht]
      have ht' : P.underlying t = some (.slice (P.elem t)) := by rw [he]; exact ht
      have hrun := run_slice_l (P := P) w t ad n' c' ht' k1 v1 h1 h2
      rw [he] at hrun
      simp only [sizeOf, typeInfo, run_program, Sem.run_bind, Result.andThen_ok, hinf, Sem.run_pure] at hrun
      simp only [execOp, hx, hi, e1, e2, Option.map_some, Option.map_none, Sem.run_bind, Instr.sliceAt, run_underlying ht, Result.andThen_ok, hrun, Sem.run_pure]
    · rename_i e j ht
      simp only [Option.map_eq_some_iff] at hc
      obtain ⟨inf, hinf, rfl⟩ := hc
      have hx := opd x (by simp [Op.operands])
      have hj := opd j (by simp [Op.operands])
      obtain ⟨r, hb, hK⟩ := onSome_elim h
      refine val r ?_ hK
      obtain ⟨ad, n', c', k1, v1, e1, e2, ⟨h1, h2⟩, rfl⟩ := lf_slh hb
      have he : P.elem t = e := by simp [Program.elem, ht]
      have ht' : P.underlying t = some (.slice (P.elem t)) := by rw [he]; exact ht
      have hrun := run_slice_h (P := P) w t ad n' c' ht' k1 v1 h1 h2
      rw [he] at hrun
      simp only [sizeOf, typeInfo, run_program, Sem.run_bind, Result.andThen_ok, hinf, Sem.run_pure] at hrun
      simp only [execOp, hx, hj, e1, e2, Option.map_some, Option.map_none, Sem.run_bind, Instr.sliceAt, run_underlying ht, Result.andThen_ok, hrun, Sem.run_pure]
    · cases hc; exact raw rfl (fun _ _ h => by cases h)
  | index t x i =>
    simp only [comp] at hc
    split at hc
    · rename_i hu
      cases hc
      obtain ⟨b, hx, h⟩ := onStr_elim h
      simp only [onI64] at h
      split at h
      · rename_i j hj
        obtain ⟨⟨h0, h1⟩, hK⟩ := h
        refine val _ ?_ hK
        have hx' := opd x (by simp [Op.operands])
        have hi' := opd i (by simp [Op.operands])
        have hlt : j.toNat < b.size := by omega
        have hb : b[j.toNat]? = some (b.data.toList.getD j.toNat 0) := by
          rw [getElem?_pos b j.toNat hlt, List.getD_eq_getElem?_getD, List.getElem?_eq_getElem (by simpa using hlt)]
          rfl
        simp [execOp, hx', hx, hi', hj, Instr.index, asIntOf, run_underlying hu, h0, hb]
      · exact h.elim
    · cases hc; exact raw rfl (fun _ _ h => by cases h)
  | makeFunc fn first captured =>
    cases fn with
    | func f =>
      simp only [comp] at hc
      split at hc
      · rename_i h0
        cases hc
        obtain ⟨r, hb, hK⟩ := onSome_elim (show onSome (lf (.clo f) (captured.toList.map (ev s))) (fun v => K v σ) from h)
        refine val r ?_ hK
        have e : r = .func (.func f) #[] (captured.toList.map (ev s)).toArray := (Option.some.inj hb).symm
        have hargs : captured.map a.eval = (captured.toList.map (ev s)).toArray := by
          apply Array.ext'
          simp only [Array.toList_map]
          exact List.map_congr_left fun x hx => opd x (by simp [Op.operands, h0]; exact Array.mem_def.2 hx)
        rw [e, ← hargs, h0]
        simp [execOp, Instr.makeFunc]
      · cases hc; exact raw rfl (fun _ _ h => by cases h)
    | _ => simp only [comp, Option.some.injEq] at hc; exact raw hc.symm (fun _ _ h => by cases h)
  | makeMap t r =>
    cases r with
    | some x => simp only [comp, Option.some.injEq] at hc; exact raw hc.symm (fun _ _ h => by cases h)
    | none =>
      simp only [comp] at hc
      split at hc
      · rename_i num e hq
        cases hc
        refine wp_of_run (v := .map (some w.heap.size)) (w' := World.push w (.map #[] 0)) ?_ (hk _ _ _ (h _ (hs.none_of_le (Nat.le_refl _))) (hs.push _ _ ?_) (fun _ _ hf => hf.push _ _))
        · simp [execOp, Instr.makeMap, newObj, Sem.run, World.push]
        · cases num
          · exact ⟨_, _, rfl, clear_none⟩
          · exact ⟨_, _, rfl, clear_none⟩
      · cases hc; exact raw rfl (fun _ _ h => by cases h)
  | lookup t x i ok =>
    have hx : a.eval x = ev s x := opd x (by simp [Op.operands])
    have hi : a.eval i = ev s i := opd i (by simp [Op.operands])
    simp only [comp] at hc
    split at hc
    · rename_i num e hq
      simp only [Option.bind_eq_some_iff, Option.map_eq_some_iff] at hc
      obtain ⟨inf, hinf, z, hz, rfl⟩ := hc
      obtain ⟨v, hv, hK⟩ := onSome_elim h
      refine val _ ?_ hK
      have hrun := mread_runs (P := P) hs hq (fun w => zero_run hinf hz) hv
      simp only [execOp, hx, hi, Sem.run_bind, hrun, Result.andThen_ok, Sem.run_pure]
    · cases hc; exact raw rfl (fun _ _ h => by cases h)
  | mapUpdate t x i v =>
    have hx : a.eval x = ev s x := opd x (by simp [Op.operands])
    have hi : a.eval i = ev s i := opd i (by simp [Op.operands])
    have hv : a.eval v = ev s v := opd v (by simp [Op.operands])
    simp only [comp] at hc
    split at hc
    · rename_i num e hq
      cases hc
      obtain ⟨σ', hσ, hK⟩ := onSome_elim h
      obtain ⟨b, x', hb, hsat, hfr, hrun⟩ := mput_runs (P := P) hs hq hσ
      refine wp_of_skip (w' := World.put w b x') ?_ (hk _ _ _ hK hsat hfr)
      simp only [execOp, hx, hi, hv, Sem.run_bind, hrun, Result.andThen_ok, Sem.run_pure]
    · cases hc; exact raw rfl (fun _ _ h => by cases h)
  | makeSlice t l c =>
    simp only [comp] at hc
    split at hc
    · rename_i e ht hlc
      have hlc := sameOp_eq hlc
      subst hlc
      split at hc
      · rename_i i hi
        split at hc
        · rename_i z hz
          split at hc
          · rename_i hzz
            cases hc
            have hl := opd l (by simp [Op.operands])
            obtain ⟨j, hj, ⟨h0, h1, h2, _⟩, hK⟩ := onI64_el h
            have hrun := run_make (P := P) w t e i z ht hi hz .i64 .i64 j j h0 (Int.le_refl _) (by rw [Int.mul_comm]; omega) (by omega)
            refine wp_of_run (v := .slice (some ⟨w.heap.size, 0, none⟩) j.toNat j.toNat) (w' := World.push w (.cells (madeCells z.cells (j.toNat * i.size)) e)) ?_ (hk _ _ _ (hK _ (hs.none_of_le (Nat.le_refl _))) (hs.push _ _ ⟨[], ?_, ?_⟩) (fun _ _ hf => hf.push _ _))
            · simp only [execOp, hl, hj, Sem.run_bind, hrun, Result.andThen_ok, Sem.run_pure]; rfl
            · simp [cl, hzz.1]
            · rw [List.append_nil, made_rows hzz.1 hzz.2]; rfl
          · cases hc; exact raw rfl (fun _ _ h => by cases h)
        · cases hc; exact raw rfl (fun _ _ h => by cases h)
      · cases hc; exact raw rfl (fun _ _ h => by cases h)
    · cases hc; exact raw rfl (fun _ _ h => by cases h)
  | _ => simp only [comp, Option.some.injEq] at hc; exact raw hc.symm (fun _ _ h => by cases h)
end Go.Sp

-- SpF
namespace Go.Sp
open Go.RowKit
set_option linter.unusedSimpArgs false
set_option linter.unusedVariables false
variable {P : Program}
structure MO where
  d : Option Nat
  m : M
  g : Option (Nat × Bool)
/-- An operation with a place, always done. -/
def rO (d : Nat) (m : M) : MO := ⟨some d, m, none⟩
def compOp (P : Program) (n : Nat) (ops : Array Oper) (o : Oper) : Option MO :=
  if inO n o.dst = true ∧ mIn n o = true then
    match comp P o with
    | some m =>
      match o.guard with
      | none => some ⟨o.dst, m, none⟩
      | some (j, want) =>
        match (ops[j]?).bind (·.dst) with
        | some d => if d < n then some ⟨o.dst, m, some (d, want)⟩ else none
        | none => none
    | none => none
  else none
def compAt (P : Program) (n : Nat) (ops : Array Oper) (i : Nat) : Option MO := (ops[i]?).bind (compOp P n ops)
def gd : Option (Nat × Bool) → Sl → Bool
  | none, _ => true
  | some (d, want), s => match s d with | .bool b => b == want | _ => false
theorem gd_wanted {n : Nat} {ops : Array Oper} {o : Oper} {mo : MO} (hc : compOp P n ops o = some mo) {a : Act} {s : Sl} (hr : Rel n a s) : Region.wanted o (yielded ops a.tmps) = gd mo.g s := by
  unfold compOp at hc
  split at hc
  · split at hc
    · split at hc
      · rename_i hg; cases hc; simp [Region.wanted, hg, gd]
      · rename_i j want hg
        split at hc
        · rename_i d hd
          split at hc
          · rename_i hdn
            cases hc
            have hsd := hr.2.2 d hdn
            have hsz : d < a.tmps.size := by rw [hr.1]; exact hdn
            simp only [Region.wanted, hg, gd, yielded, hd, Option.bind_some, ← hsd, Array.getElem?_eq_getElem hsz, Array.getD_eq_getD_getElem?, Option.getD_some]
            cases a.tmps[d] <;> first | rfl | (rename_i b; cases b <;> cases want <;> rfl)
          · cases hc
        · cases hc
    · cases hc
  · cases hc
theorem compOp_parts {n : Nat} {ops : Array Oper} {o : Oper} {mo : MO} (hc : compOp P n ops o = some mo) : comp P o = some mo.m ∧ mo.d = o.dst ∧ mIn n o = true := by
  unfold compOp at hc
  split at hc
  · rename_i hin
    split at hc
    · rename_i m hm
      split at hc
      · cases hc; exact ⟨hm, rfl, hin.2⟩
      · split at hc
        · split at hc
          · cases hc; exact ⟨hm, rfl, hin.2⟩
          · cases hc
        · cases hc
    · cases hc
  · cases hc
def opR : Operand → List Nat
  | .tmp t => [t]
  | _ => []
/-- The slots that an operation reads. -/
def M.rds : M → List Nat
  | .raw op _ => op.operands.toList.flatMap opR
  | .hop op _ => op.operands.toList.flatMap opR
  | .mv x => opR x
  | .pick c a b => opR c ++ (opR a ++ opR b)
  | .nilc x => opR x
  | .fa _ x => opR x
  | .ia _ x i => opR x ++ opR i
  | .bin _ x y => opR x ++ opR y
  | .eqs _ _ x y => opR x ++ opR y
  | .nt x => opR x
  | .ext _ x => opR x
  | .len _ x => opR x
  | .bld _ ps => ps.flatMap fun p => opR p.2.2
  | .conv _ x => opR x
  | .ixs x i => opR x ++ opR i
  | .mx _ x y => opR x ++ opR y
  | .eqa _ _ x y => opR x ++ opR y
  | .fld _ _ x => opR x
  | .new _ _ => []
  | .box _ x => opR x
  | .lit _ _ _ _ ps => ps.flatMap fun p => opR p.2.2
  | .ld _ x => opR x
  | .st _ a x => opR a ++ opR x
  | .call _ args => args.flatMap opR
  | .app _ _ _ x y => opR x ++ opR y
  | .mkmap _ => []
  | .mks _ _ _ _ x => opR x
  | .look _ _ x i => opR x ++ opR i
  | .mset _ x i v => opR x ++ (opR i ++ opR v)
  | .fnl _ xs => xs.flatMap opR
  | .bys x => opR x
  | .callv x args => opR x ++ args.flatMap opR
theorem ev_put {s : Sl} {d : Nat} {v : Value} {x : Operand} (h : d ∉ opR x) : ev (put s d v) x = ev s x := by
  cases x with
  | tmp t => simp [opR] at h; simp [ev, put, Ne.symm h]
  | _ => rfl
theorem fillO_put {s : Sl} {d : Nat} {v : Value} : ∀ (ps : List (Nat × Nat × Operand)) (z : List Value), (d ∉ ps.flatMap fun p => opR p.2.2) → fillO (put s d v) z ps = fillO s z ps
  | [], z, _ => rfl
  | (off, sz, x) :: r, z, h => by
    simp only [List.flatMap_cons, List.mem_append, not_or] at h
    simp only [fillO, ev_put h.1]
    split
    · exact fillO_put r _ h.2
    · rfl
theorem args_put {s : Sl} {d : Nat} {v : Value} : ∀ (xs : List Operand), (d ∉ xs.flatMap opR) → xs.map (ev (put s d v)) = xs.map (ev s)
  | [], _ => rfl
  | x :: xs, h => by
    simp only [List.flatMap_cons, List.mem_append, not_or] at h
    simp only [List.map_cons, ev_put h.1, args_put xs h.2]
def M.raws : M → Bool
  | .raw (.select _ _) _ => false
  | .hop (.select _ _) _ => false
  | _ => true
theorem mop_put {m : M} (hm : m.raws = true) {K : Value → Hp → Prop} {s : Sl} {σ : Hp} {d : Nat} {v : Value} (h : d ∉ m.rds) : mop P m K (put s d v) σ = mop P m K s σ := by
  cases m with
  | raw op ty =>
    have hx : ∀ x ∈ op.operands, ev (put s d v) x = ev s x := fun x hx => ev_put fun hd => h (by
      simp only [M.rds, List.mem_flatMap]; exact ⟨x, by simpa using hx, hd⟩)
    have : execOp (ev (put s d v)) (mkO op ty) = execOp (ev s) (mkO op ty) := execOp_congr _ (fun cs b e => by
      have e : op = .select cs b := e
      subst e; cases hm) hx
    simp only [mop, this]
  | hop op ty =>
    have hx : ∀ x ∈ op.operands, ev (put s d v) x = ev s x := fun x hx => ev_put fun hd => h (by
      simp only [M.rds, List.mem_flatMap]; exact ⟨x, by simpa using hx, hd⟩)
    have : execOp (ev (put s d v)) (mkO op ty) = execOp (ev s) (mkO op ty) := execOp_congr _ (fun cs b e => by
      have e : op = .select cs b := e
      subst e; cases hm) hx
    simp only [mop, this]
  | call f args => simp only [mop, args_put args h]
  | callv x args => simp only [M.rds, List.mem_append, not_or] at h; simp only [mop, ev_put h.1, args_put args h.2]
  | bld z ps => simp only [mop, fillO_put ps z h]
  | lit E n size z ps => simp only [mop, fillO_put ps z h]
  | ld sz x => cases sz <;> simp only [mop, ev_put h]
  | new T z => rfl
  | pick c a b => simp only [M.rds, List.mem_append, not_or] at h; simp only [mop, ev_put h.1, ev_put h.2.1, ev_put h.2.2]
  | ia size x i => simp only [M.rds, List.mem_append, not_or] at h; simp only [mop, ev_put h.1, ev_put h.2]
  | bin op x y => simp only [M.rds, List.mem_append, not_or] at h; simp only [mop, ev_put h.1, ev_put h.2]
  | eqs neg k x y => simp only [M.rds, List.mem_append, not_or] at h; simp only [mop, ev_put h.1, ev_put h.2]
  | ixs x y => simp only [M.rds, List.mem_append, not_or] at h; simp only [mop, ev_put h.1, ev_put h.2]
  | mx u x y => simp only [M.rds, List.mem_append, not_or] at h; simp only [mop, ev_put h.1, ev_put h.2]
  | eqa n ks x y => simp only [M.rds, List.mem_append, not_or] at h; simp only [mop, ev_put h.1, ev_put h.2]
  | st sz x y => simp only [M.rds, List.mem_append, not_or] at h; simp only [mop, ev_put h.1, ev_put h.2]
  | app E size bytes x y => simp only [M.rds, List.mem_append, not_or] at h; simp only [mop, ev_put h.1, ev_put h.2]
  | mkmap num => rfl
  | fnl g xs => simp only [mop, args_put xs h]
  | look ok z x i => simp only [M.rds, List.mem_append, not_or] at h; simp only [mop, ev_put h.1, ev_put h.2]
  | mset q x i v => simp only [M.rds, List.mem_append, not_or] at h; simp only [mop, ev_put h.1, ev_put h.2.1, ev_put h.2.2]
  | _ => simp only [mop, ev_put h]
theorem onPtr_mono {v : Value} {k k' : Nat → Nat → Prop} (h : onPtr v k) (hk : ∀ b o, k b o → k' b o) : onPtr v k' := by
  obtain ⟨b, o, rfl, h⟩ := onPtr_elim h; exact hk _ _ h
theorem onBool_mono {v : Value} {k k' : Bool → Prop} (h : onBool v k) (hk : ∀ b, k b → k' b) : onBool v k' := by
  obtain ⟨b, rfl, h⟩ := onBool_elim h; exact hk _ h
theorem onSome_mono {α : Type} {v : Option α} {k k' : α → Prop} (h : onSome v k) (hk : ∀ a, k a → k' a) : onSome v k' := by
  obtain ⟨a, rfl, h⟩ := onSome_elim h; exact hk _ h
theorem onI64_elim {v : Value} {k : Int → Prop} (h : onI64 v k) : ∃ n, v = .int .i64 n ∧ k n := by
  unfold onI64 at h; split at h
  · exact ⟨_, rfl, h⟩
  · exact h.elim
theorem onTuple_elim {v : Value} {k : Array Value → Prop} (h : onTuple v k) : ∃ vs, v = .tuple vs ∧ k vs := by
  unfold onTuple at h; split at h
  · exact ⟨_, rfl, h⟩
  · exact h.elim
theorem onInt_mono {v : Value} {k k' : IntKind → Int → Prop} (h : onInt v k) (hk : ∀ q n, k q n → k' q n) : onInt v k' := by
  obtain ⟨q, n, rfl, h⟩ := onInt_elim h; exact hk _ _ h
theorem onStr_mono {v : Value} {k k' : ByteArray → Prop} (h : onStr v k) (hk : ∀ b, k b → k' b) : onStr v k' := by
  obtain ⟨b, rfl, h⟩ := onStr_elim h; exact hk _ h
theorem onI64_mono {v : Value} {k k' : Int → Prop} (h : onI64 v k) (hk : ∀ b, k b → k' b) : onI64 v k' := by
  obtain ⟨b, rfl, h⟩ := onI64_elim h; exact hk _ h
theorem onSlice_mono {v : Value} {k k' : Nat → Nat → Nat → Prop} (h : onSlice v k) (hk : ∀ b o n, k b o n → k' b o n) : onSlice v k' := by
  obtain ⟨b, o, n, c, rfl, h⟩ := onSlice_elim h; exact hk _ _ _ h
theorem appK_mono {E size bytes : Nat} {vx vy : Value} {K K' : Value → Hp → Prop} {σ : Hp} (h : appK E size bytes vx vy K σ) (hk : ∀ v σ', K v σ' → K' v σ') : appK E size bytes vx vy K' σ := by
  rcases h with ⟨A0, m, c, hy, hm, h⟩ | ⟨b, off, m, c, ys, hy, hrd, h1, h⟩
  · rcases h with ⟨hx, hK⟩ | ⟨b, n, cap, hx, hle, hK⟩
    · exact .inl ⟨A0, m, c, hy, hm, .inl ⟨hx, hk _ _ hK⟩⟩
    · exact .inl ⟨A0, m, c, hy, hm, .inr ⟨b, n, cap, hx, hle, hk _ _ hK⟩⟩
  · rcases h with ⟨hm, hx, hK⟩ | ⟨hm, hx, hb, h63, hK⟩ | ⟨g, n, cap, xs, hx, hg, hxl, hle, hb, h63, hK⟩
    · exact .inr ⟨b, off, m, c, ys, hy, hrd, h1, .inl ⟨hm, hx, hk _ _ hK⟩⟩
    · exact .inr ⟨b, off, m, c, ys, hy, hrd, h1, .inr (.inl ⟨hm, hx, hb, h63, fun b' c' h2 h3 => hk _ _ (hK b' c' h2 h3)⟩)⟩
    · exact .inr ⟨b, off, m, c, ys, hy, hrd, h1, .inr (.inr ⟨g, n, cap, xs, hx, hg, hxl, hle, hb, h63, fun b' c' h2 h3 => hk _ _ (hK b' c' h2 h3)⟩)⟩
theorem mop_mono {m : M} {K K' : Value → Hp → Prop} {s : Sl} {σ : Hp} (h : mop P m K s σ) (hk : ∀ v σ', K v σ' → K' v σ') : mop P m K' s σ := by
  cases m with
  | raw op ty => obtain ⟨v, h1, h2⟩ := h; exact ⟨v, h1, hk _ _ h2⟩
  | hop op ty => obtain ⟨h0, R, h1, h2⟩ := h; exact ⟨h0, R, h1, fun v σ' hr hw => hk _ _ (h2 v σ' hr hw)⟩
  | mv x => exact hk _ _ h
  | pick c a b => exact onBool_mono h fun _ h => hk _ _ h
  | nilc x => exact onPtr_mono h fun _ _ h => hk _ _ h
  | fa off x => exact onPtr_mono h fun _ _ h => hk _ _ h
  | ia size x i =>
    obtain ⟨b, o, n, c, e, h⟩ := onSlice_elim h
    obtain ⟨j, e2, h⟩ := onI64_elim h
    simp only [mop, e, e2, onSlice_mk, onI64_mk]; exact ⟨h.1, hk _ _ h.2⟩
  | bin op x y => exact onSome_mono h fun _ h => hk _ _ h
  | eqs neg k x y => exact onSome_mono h fun _ h => hk _ _ h
  | nt x => exact onBool_mono h fun _ h => hk _ _ h
  | ext i x =>
    obtain ⟨vs, e, h⟩ := onTuple_elim h
    simp only [mop, e, onTuple_mk]; exact onSome_mono h fun _ h => hk _ _ h
  | len t x => exact onSome_mono h fun _ h => hk _ _ h
  | bld z ps => exact onSome_mono h fun _ h => hk _ _ h
  | conv k x => exact onInt_mono h fun _ _ h => hk _ _ h
  | ixs x i => exact onStr_mono h fun _ h => onI64_mono h fun _ h => ⟨h.1, hk _ _ h.2⟩
  | mx u x y => exact onInt_mono h fun _ _ h => onInt_mono h fun _ _ h => hk _ _ h
  | eqa n ks x y => exact onSome_mono h fun _ h => hk _ _ h
  | fld n off x => exact onSome_mono h fun _ h => hk _ _ h
  | new T z => exact fun b hb => hk _ _ (h b hb)
  | box T x => exact fun b hb => hk _ _ (h b hb)
  | lit E n size z ps => exact onSome_mono h fun _ h b hb => hk _ _ (h b hb)
  | ld sz x => cases sz with
    | none => exact onPtr_mono h fun _ _ h => onSome_mono h fun _ h => hk _ _ h
    | some n => exact onPtr_mono h fun _ _ h => onSome_mono h fun _ h => hk _ _ h
  | st sz a x => exact onPtr_mono h fun _ _ h => ⟨h.1, h.2.1, onSome_mono h.2.2 fun _ h => hk _ _ h⟩
  | call f args => obtain ⟨R, h1, h2⟩ := h; exact ⟨R, h1, fun v σ' hR hw => hk _ _ (h2 v σ' hR hw)⟩
  | callv x args => obtain ⟨f, cs, e1, e2, R, h1, h2⟩ := h; exact ⟨f, cs, e1, e2, R, h1, fun v σ' hR hw => hk _ _ (h2 v σ' hR hw)⟩
  | app E size bytes x y => exact appK_mono h hk
  | mkmap num => exact fun b hb => hk _ _ (h b hb)
  | look q z x i => exact onSome_mono h fun _ h => hk _ _ h
  | mset q x i v => exact onSome_mono h fun _ h => hk _ _ h
  | mks E size bytes z x => obtain ⟨j, e, h1, h2⟩ := onI64_el h; simp only [mop, e, onI64_mk]; exact ⟨h1, fun b hb => hk _ _ (h2 b hb)⟩
  | fnl g xs => exact onSome_mono h fun _ h => hk _ _ h
  | bys x => exact onSlice_mono h fun _ _ _ h => onSome_mono h fun _ h => onSome_mono h fun _ h => hk _ _ h
/-- What an operation is to a region that draws: a value of the slots alone; one of the heap as the region found it; a call that only answers; a call that makes; something new; a change of what the region has made; a change. -/
inductive Kn where
  | p | l | c | g | f | w | m | r | u
  deriving DecidableEq
/-- The kinds behind which less is known of the heap as the region found it. -/
def Kn.isM : Kn → Bool
  | .m | .u => true
  | _ => false
theorem notM {k : Kn} (h : ¬ k.isM = true) : k.isM = false := by cases hk : k.isM <;> simp_all
def M.isP : M → Bool
  | .raw (.select _ _) _ => false
  | .raw _ _ | .mv _ | .pick _ _ _ | .nilc _ | .fa _ _ | .ia _ _ _ | .bin _ _ _ | .eqs _ _ _ _ | .nt _ | .ext _ _ | .len _ _ | .bld _ _ | .conv _ _ | .ixs _ _ | .mx _ _ _ | .eqa _ _ _ _ | .fld _ _ _ | .fnl _ _ => true
  | _ => false
def M.isL : M → Bool | .ld _ _ => true | .look _ _ _ _ => true | .bys _ => true | _ => false
def M.isC : M → Bool | .call _ _ => true | _ => false
def M.isR : M → Bool | .ld _ _ => true | .bys _ => true | _ => false
def M.isF : M → Bool | .new _ _ | .box _ _ | .lit _ _ _ _ _ | .mkmap _ => true | _ => false
def M.isW : M → Bool | .st _ _ _ | .app _ _ _ _ _ => true | _ => false
/-- What writes: a store, an append, a call. -/
def M.isWC (m : M) : Bool := m.isW || m.isC
def fits (P : Program) : Kn → M → Bool
  | .p, m => m.isP
  | .l, m => m.isL
  | .c, .call f _ => (P.inits.idxOf? f).isNone
  | .c, .callv _ _ => true
  | .c, _ => false
  | .g, m => m.isC
  | .f, m => m.isF
  | .w, m => m.isWC
  | .r, m => m.isR
  | .u, m => m.isC
  | .m, m => m.raws
/-- What a call has made is laid beside what there is. -/
def mrg (σ₀ σ₁ σ : Hp) : Hp := fun k => match σ₀ k, σ₁ k with | none, some o => some o | _, _ => σ k
/-- What both know alike. -/
noncomputable def meet (σ₀ σ : Hp) : Hp := fun k => open Classical in if σ₀ k = σ k then σ₀ k else none
theorem meet_sub (σ₀ σ : Hp) : Sub (meet σ₀ σ) σ := fun k => by
  unfold meet
  by_cases h : σ₀ k = σ k
  · rw [if_pos h]; exact .inr h
  · rw [if_neg h]; exact .inl rfl
theorem meet_at {σ₀ σ : Hp} {a : Nat} (h : meet σ₀ σ a ≠ none) : meet σ₀ σ a = σ₀ a := by
  unfold meet at h ⊢
  by_cases e : σ₀ a = σ a
  · rw [if_pos e]
  · rw [if_neg e] at h; exact absurd rfl h
def dm (P : Program) (k : Kn) (m : M) (K : Value → Hp → Hp → Prop) (s : Sl) (σ₀ σ : Hp) : Prop :=
  match k with
  | .p => mop P m (fun v _ => K v σ₀ σ) s σ₀
  | .l => mop P m (fun v _ => K v σ₀ σ) s σ₀
  | .c => match m with
    | .call f args => ∃ v, ACalls P f (args.map (ev s)).toArray σ₀ (fun v' σ' => v' = v ∧ σ' = σ₀) ∧ K v σ₀ σ
    | .callv x args => ∃ f cs, ev s x = .func (.func f) #[] cs ∧ okF P f = true ∧ ∃ v, ACalls P f (args.map (ev s) ++ cs.toList).toArray σ₀ (fun v' σ' => v' = v ∧ σ' = σ₀) ∧ K v σ₀ σ
    | _ => False
  | .g => match m with
    | .call f args => ∃ R, ACalls P f (args.map (ev s)).toArray σ₀ R ∧ ∀ v σ₁, R v σ₁ → (∃ w, Sat σ₁ w) → Sub σ₀ σ₁ ∧ ((∀ k, σ₀ k = none → σ₁ k ≠ none → σ k = none) → K v σ₀ (mrg σ₀ σ₁ σ))
    | _ => False
  | .f => mop P m (fun v σ' => K v σ₀ σ') s σ
  | .w => mop P m (fun v σ' => Sub σ₀ σ' ∧ K v σ₀ σ') s σ
  | .r => mop P m (fun v _ => K v σ₀ σ) s σ
  | .u => mop P m (fun v σ' => K v (meet σ₀ σ') σ') s σ
  | .m => mop P m (fun v σ' => K v σ' σ') s σ
theorem dm_mono {k : Kn} {m : M} {K K' : Value → Hp → Hp → Prop} {s : Sl} {σ₀ σ : Hp} (h : dm P k m K s σ₀ σ) (hk : ∀ v σ₀' σ', (k.isM = false → σ₀' = σ₀) → K v σ₀' σ' → K' v σ₀' σ') : dm P k m K' s σ₀ σ := by
  cases k with
  | p => simp only [dm] at h ⊢; exact mop_mono h fun v _ h => hk _ _ _ (fun _ => rfl) h
  | l => simp only [dm] at h ⊢; exact mop_mono h fun v _ h => hk _ _ _ (fun _ => rfl) h
  | f => simp only [dm] at h ⊢; exact mop_mono h fun v _ h => hk _ _ _ (fun _ => rfl) h
  | r => simp only [dm] at h ⊢; exact mop_mono h fun v _ h => hk _ _ _ (fun _ => rfl) h
  | w => simp only [dm] at h ⊢; exact mop_mono h fun v _ h => ⟨h.1, hk _ _ _ (fun _ => rfl) h.2⟩
  | m => simp only [dm] at h ⊢; exact mop_mono h fun v _ h => hk _ _ _ (fun h => by cases h) h
  | u => simp only [dm] at h ⊢; exact mop_mono h fun v _ h => hk _ _ _ (fun h => by cases h) h
  | c =>
    cases m with
    | call f args => obtain ⟨v, h1, h2⟩ := h; exact ⟨v, h1, hk _ _ _ (fun _ => rfl) h2⟩
    | callv x args => obtain ⟨f, cs, e1, e2, v, h1, h2⟩ := h; exact ⟨f, cs, e1, e2, v, h1, hk _ _ _ (fun _ => rfl) h2⟩
    | _ => exact h.elim
  | g =>
    cases m with
    | call f args => obtain ⟨R, h1, h2⟩ := h; exact ⟨R, h1, fun v σ₁ hR hw => ⟨(h2 v σ₁ hR hw).1, fun hd => hk _ _ _ (fun _ => rfl) ((h2 v σ₁ hR hw).2 hd)⟩⟩
    | _ => exact h.elim
theorem isP_raws {m : M} (h : m.isP = true) : m.raws = true := by
  cases m with
  | raw op ty => cases op <;> first | rfl | cases h
  | hop op ty => cases h
  | _ => rfl
theorem fits_raws {k : Kn} {m : M} (h : fits P k m = true) : m.raws = true := by
  cases k with
  | p => exact isP_raws h
  | m => exact h
  | c => cases m <;> first | rfl | cases h
  | _ => cases m <;> first | rfl | cases h
theorem dm_put {k : Kn} {m : M} (hf : fits P k m = true) {K : Value → Hp → Hp → Prop} {s : Sl} {σ₀ σ : Hp} {d : Nat} {v : Value} (h : d ∉ m.rds) : dm P k m K (put s d v) σ₀ σ = dm P k m K s σ₀ σ := by
  have hr := fits_raws hf
  cases k with
  | c =>
    cases m with
    | call f args => simp only [dm, args_put args h]
    | callv x args => simp only [M.rds, List.mem_append, not_or] at h; simp only [dm, ev_put h.1, args_put args h.2]
    | _ => rfl
  | g =>
    cases m with
    | call f args => simp only [dm, args_put args h]
    | _ => rfl
  | _ => simp only [dm, mop_put hr h]
/-- A value of the slots. -/
theorem pv_spec {m : M} (hm : m.isP = true) {φ : Value → Prop} {s : Sl} {σ : Hp} (h : mop P m (fun v _ => φ v) s σ) : ∃ v, φ v ∧ ∀ (ψ : Value → Prop) (σ' : Hp), mop P m (fun v _ => ψ v) s σ' ↔ ψ v := by
  cases m with
  | raw op ty =>
    obtain ⟨v, h1, h2⟩ := h
    refine ⟨v, h2, fun ψ σ' => ⟨fun ⟨v', h3, h4⟩ => ?_, fun h4 => ⟨v, h1, h4⟩⟩⟩
    have := (h1 default).symm.trans (h3 default)
    cases this; exact h4
  | mv x => exact ⟨_, h, fun ψ σ' => Iff.rfl⟩
  | pick c a b => obtain ⟨t, e, h⟩ := onBool_elim h; exact ⟨_, h, fun ψ σ' => by simp only [mop, e, onBool_mk]⟩
  | nilc x => obtain ⟨b, o, e, h⟩ := onPtr_elim h; exact ⟨_, h, fun ψ σ' => by simp only [mop, e, onPtr_mk]⟩
  | fa off x => obtain ⟨b, o, e, h⟩ := onPtr_elim h; exact ⟨_, h, fun ψ σ' => by simp only [mop, e, onPtr_mk]⟩
  | ia size x i =>
    obtain ⟨b, o, n, c, e, h⟩ := onSlice_elim h
    obtain ⟨j, e2, h⟩ := onI64_elim h
    exact ⟨_, h.2, fun ψ σ' => by simp only [mop, e, e2, onSlice_mk, onI64_mk]; exact ⟨fun k => k.2, fun k => ⟨h.1, k⟩⟩⟩
  | bin op x y => obtain ⟨v, e, h⟩ := onSome_elim h; exact ⟨_, h, fun ψ σ' => by simp only [mop, e, onSome_some]⟩
  | eqs neg k x y => obtain ⟨v, e, h⟩ := onSome_elim h; exact ⟨_, h, fun ψ σ' => by simp only [mop, e, onSome_some]⟩
  | nt x => obtain ⟨t, e, h⟩ := onBool_elim h; exact ⟨_, h, fun ψ σ' => by simp only [mop, e, onBool_mk]⟩
  | ext i x =>
    obtain ⟨vs, e, h⟩ := onTuple_elim h
    obtain ⟨v, e2, h⟩ := onSome_elim h
    exact ⟨_, h, fun ψ σ' => by simp only [mop, e, e2, onTuple_mk, onSome_some]⟩
  | len t x => obtain ⟨v, e, h⟩ := onSome_elim h; exact ⟨_, h, fun ψ σ' => by simp only [mop, e, onSome_some]⟩
  | bld z ps => obtain ⟨v, e, h⟩ := onSome_elim h; exact ⟨_, h, fun ψ σ' => by simp only [mop, e, onSome_some]⟩
  | conv k x => obtain ⟨q, v, e, h⟩ := onInt_elim h; exact ⟨_, h, fun ψ σ' => by simp only [mop, e, onInt_mk]⟩
  | ixs x i =>
    obtain ⟨b, e, h⟩ := onStr_elim h
    obtain ⟨j, e2, h⟩ := onI64_elim h
    exact ⟨_, h.2, fun ψ σ' => by simp only [mop, e, e2, onStr_mk, onI64_mk]; exact ⟨fun k => k.2, fun k => ⟨h.1, k⟩⟩⟩
  | mx u x y =>
    obtain ⟨q, v, e, h⟩ := onInt_elim h
    obtain ⟨q', v', e2, h⟩ := onInt_elim h
    exact ⟨_, h, fun ψ σ' => by simp only [mop, e, e2, onInt_mk]⟩
  | eqa n ks x y => obtain ⟨v, e, h⟩ := onSome_elim h; exact ⟨_, h, fun ψ σ' => by simp only [mop, e, onSome_some]⟩
  | fld n off x => obtain ⟨v, e, h⟩ := onSome_elim h; exact ⟨_, h, fun ψ σ' => by simp only [mop, e, onSome_some]⟩
  | fnl g xs => obtain ⟨v, e, h⟩ := onSome_elim h; exact ⟨_, h, fun ψ σ' => by simp only [mop, e, onSome_some]⟩
  | _ => cases hm
theorem lv_spec {m : M} (hm : m.isL = true) {φ : Value → Prop} {s : Sl} {σ : Hp} (h : mop P m (fun v _ => φ v) s σ) : ∃ v, φ v ∧ ∀ (ψ : Value → Prop), mop P m (fun v _ => ψ v) s σ ↔ ψ v := by
  cases m with
  | ld sz x =>
    cases sz with
    | none =>
      obtain ⟨b, o, e, h⟩ := onPtr_elim h
      obtain ⟨v, e2, h⟩ := onSome_elim h
      exact ⟨_, h, fun ψ => by simp only [mop, e, e2, onPtr_mk, onSome_some]⟩
    | some n =>
      obtain ⟨b, o, e, h⟩ := onPtr_elim h
      obtain ⟨v, e2, h⟩ := onSome_elim h
      exact ⟨_, h, fun ψ => by simp only [mop, e, e2, onPtr_mk, onSome_some]⟩
  | look q z x i =>
    obtain ⟨v, e, h⟩ := onSome_elim h
    exact ⟨_, h, fun ψ => by simp only [mop, e, onSome_some]⟩
  | bys x =>
    obtain ⟨b, o, n, c, e, h⟩ := onSlice_elim h
    obtain ⟨vs, e2, h⟩ := onSome_elim h
    obtain ⟨ys, e3, h⟩ := onSome_elim h
    exact ⟨_, h, fun ψ => by simp only [mop, e, e2, e3, onSlice_mk, onSome_some]⟩
  | _ => cases hm
theorem runN_ended {m : Machine} {o : Outcome} {w : World} : ∀ {n k : Nat}, runN P n m = .ended o w → runN P (n + k) m = .ended o w := by
  intro n k h
  rw [runN_add, h]
theorem cv_det {f : FuncId} {args : Array Value} {σ₀ : Hp} {w : World} (hi : P.inits.idxOf? f = none) (hs : Sat σ₀ w) {v v' : Value}
    (h : ACalls P f args σ₀ fun u σ' => u = v ∧ σ' = σ₀) (h' : ACalls P f args σ₀ fun u σ' => u = v' ∧ σ' = σ₀) : v = v' := by
  have get : ∀ {v : Value}, (ACalls P f args σ₀ fun u σ' => u = v ∧ σ' = σ₀) → ∃ n w', runN P n (lone (Frame.enter P f args .normal) [] w) = .ended (.done v) w' := fun {v} h => by
    have hc := (h w hs).mono (R' := fun | .returned u, _ => u = v | _, _ => False) (fun e w' ⟨u, σ', he, _, _, hu, _⟩ => by subst he; exact hu)
    obtain ⟨n, u, w', hrun, rfl⟩ := Calls.done (R := fun u _ => u = v) hc hi
    exact ⟨n, w', hrun⟩
  obtain ⟨n, w1, h1⟩ := get h
  obtain ⟨n', w2, h2⟩ := get h'
  have e1 := runN_ended (k := n') h1
  have e2 := runN_ended (k := n) h2
  rw [Nat.add_comm] at e2
  rw [e1] at e2
  cases e2; rfl
theorem okF_init {f : FuncId} (h : okF P f = true) : P.inits.idxOf? f = none := by
  unfold okF at h
  simp only [Bool.and_eq_true] at h
  simpa using h.1
theorem fits_c {m : M} (h : fits P .c m = true) : (∃ f args, m = .call f args ∧ P.inits.idxOf? f = none) ∨ ∃ x args, m = .callv x args := by
  cases m with
  | call f args => exact .inl ⟨f, args, rfl, by simpa [fits] using h⟩
  | callv x args => exact .inr ⟨x, args, rfl⟩
  | _ => cases h
/-- The kinds that only yield a value. -/
def Kn.isV : Kn → Bool
  | .p | .l | .c => true
  | _ => false
theorem v_spec {k : Kn} {m : M} (hv : k.isV = true) (hf : fits P k m = true) {K : Value → Hp → Hp → Prop} {s : Sl} {σ₀ σ : Hp} {w : World} (hs : k = .c → Sat σ₀ w) (h : dm P k m K s σ₀ σ) :
    ∃ v, ∀ (K' : Value → Hp → Hp → Prop) (σ₀' σ' : Hp), (k ≠ .p → σ₀' = σ₀) → (dm P k m K' s σ₀' σ' ↔ K' v σ₀' σ') := by
  cases k with
  | p =>
    obtain ⟨v, _, hv⟩ := pv_spec hf h
    exact ⟨v, fun K' σ₀' σ' _ => hv (fun v => K' v σ₀' σ') σ₀'⟩
  | l =>
    obtain ⟨v, _, hv⟩ := lv_spec hf h
    exact ⟨v, fun K' σ₀' σ' e => by rw [e (by simp)]; exact hv (fun v => K' v σ₀ σ')⟩
  | c =>
    rcases fits_c hf with ⟨f, args, rfl, hi⟩ | ⟨x, args, rfl⟩
    · obtain ⟨v, h1, h2⟩ := h
      refine ⟨v, fun K' σ₀' σ' e => ?_⟩
      rw [e (by simp)]
      exact ⟨fun ⟨v', h3, h4⟩ => by rw [cv_det hi (hs rfl) h1 h3]; exact h4, fun h4 => ⟨v, h1, h4⟩⟩
    · obtain ⟨f, cs, e1, e2, v, h1, h2⟩ := h
      refine ⟨v, fun K' σ₀' σ' e => ?_⟩
      rw [e (by simp)]
      refine ⟨fun ⟨f', cs', e3, e4, v', h3, h4⟩ => ?_, fun h4 => ⟨f, cs, e1, e2, v, h1, h4⟩⟩
      rw [e1] at e3; cases e3
      rw [cv_det (okF_init e2) (hs rfl) h1 h3]; exact h4
  | _ => cases hv
theorem mop_live {m : M} {K : Value → Hp → Prop} {s : Sl} {σ : Hp} {w : World} (hs : Sat σ w) (h : mop P m K s σ) : ∃ v σ', K v σ' := by
  have hn := hs.none_of_le (Nat.le_refl _)
  cases m with
  | raw op ty => obtain ⟨v, _, h⟩ := h; exact ⟨_, _, h⟩
  | hop op ty =>
    obtain ⟨_, R, h1, h2⟩ := h
    obtain ⟨v, w', σ', _, h3, _, h4⟩ := h1 w hs
    exact ⟨_, _, h2 v σ' h4 ⟨w', h3⟩⟩
  | mv x => exact ⟨_, _, h⟩
  | pick c a b => obtain ⟨_, _, h⟩ := onBool_elim h; exact ⟨_, _, h⟩
  | nilc x => obtain ⟨_, _, _, h⟩ := onPtr_elim h; exact ⟨_, _, h⟩
  | fa off x => obtain ⟨_, _, _, h⟩ := onPtr_elim h; exact ⟨_, _, h⟩
  | ia size x i => obtain ⟨_, _, _, _, _, h⟩ := onSlice_elim h; obtain ⟨_, _, h⟩ := onI64_elim h; exact ⟨_, _, h.2⟩
  | bin op x y => obtain ⟨_, _, h⟩ := onSome_elim h; exact ⟨_, _, h⟩
  | eqs neg k x y => obtain ⟨_, _, h⟩ := onSome_elim h; exact ⟨_, _, h⟩
  | nt x => obtain ⟨_, _, h⟩ := onBool_elim h; exact ⟨_, _, h⟩
  | ext i x => obtain ⟨_, _, h⟩ := onTuple_elim h; obtain ⟨_, _, h⟩ := onSome_elim h; exact ⟨_, _, h⟩
  | len t x => obtain ⟨_, _, h⟩ := onSome_elim h; exact ⟨_, _, h⟩
  | bld z ps => obtain ⟨_, _, h⟩ := onSome_elim h; exact ⟨_, _, h⟩
  | conv k x => obtain ⟨_, _, _, h⟩ := onInt_elim h; exact ⟨_, _, h⟩
  | ixs x i => obtain ⟨_, _, h⟩ := onStr_elim h; obtain ⟨_, _, h⟩ := onI64_elim h; exact ⟨_, _, h.2⟩
  | mx u x y => obtain ⟨_, _, _, h⟩ := onInt_elim h; obtain ⟨_, _, _, h⟩ := onInt_elim h; exact ⟨_, _, h⟩
  | eqa n ks x y => obtain ⟨_, _, h⟩ := onSome_elim h; exact ⟨_, _, h⟩
  | fld n off x => obtain ⟨_, _, h⟩ := onSome_elim h; exact ⟨_, _, h⟩
  | new T z => exact ⟨_, _, h _ hn⟩
  | box T x => exact ⟨_, _, h _ hn⟩
  | lit E n size z ps => obtain ⟨_, _, h⟩ := onSome_elim h; exact ⟨_, _, h _ hn⟩
  | ld sz x => cases sz with
    | none => obtain ⟨_, _, _, h⟩ := onPtr_elim h; obtain ⟨_, _, h⟩ := onSome_elim h; exact ⟨_, _, h⟩
    | some n => obtain ⟨_, _, _, h⟩ := onPtr_elim h; obtain ⟨_, _, h⟩ := onSome_elim h; exact ⟨_, _, h⟩
  | st sz a x => obtain ⟨_, _, _, h⟩ := onPtr_elim h; obtain ⟨_, _, h⟩ := onSome_elim h.2.2; exact ⟨_, _, h⟩
  | call f args =>
    obtain ⟨R, h1, h2⟩ := h
    obtain ⟨e, w', fr, ⟨v, σ', _, hs', _, hR⟩, _⟩ := h1 w hs []
    exact ⟨_, _, h2 v σ' hR ⟨_, hs'⟩⟩
  | callv x args =>
    obtain ⟨f, cs, _, _, R, h1, h2⟩ := h
    obtain ⟨e, w', fr, ⟨v, σ', _, hs', _, hR⟩, _⟩ := h1 w hs []
    exact ⟨_, _, h2 v σ' hR ⟨_, hs'⟩⟩
  | mkmap num => exact ⟨_, _, h _ hn⟩
  | mks E size bytes z x => obtain ⟨j, e, h1, h2⟩ := onI64_el h; exact ⟨_, _, h2 _ hn⟩
  | fnl g xs => obtain ⟨_, _, h⟩ := onSome_elim h; exact ⟨_, _, h⟩
  | bys x => obtain ⟨_, _, _, _, _, h⟩ := onSlice_elim h; obtain ⟨_, _, h⟩ := onSome_elim h; obtain ⟨_, _, h⟩ := onSome_elim h; exact ⟨_, _, h⟩
  | look q z x i => obtain ⟨_, _, h⟩ := onSome_elim h; exact ⟨_, _, h⟩
  | mset q x i v => obtain ⟨_, _, h⟩ := onSome_elim h; exact ⟨_, _, h⟩
  | app E size bytes x y =>
    rcases h with ⟨A0, m, c, hy, hm, h⟩ | ⟨b, off, m, c, ys, hy, hrd, h1, h⟩
    · rcases h with ⟨hx, hK⟩ | ⟨b, n, cap, hx, hle, hK⟩ <;> exact ⟨_, _, hK⟩
    · rcases h with ⟨hm, hx, hK⟩ | ⟨hm, hx, hb, h63, hK⟩ | ⟨g, n, cap, xs, hx, hg, hxl, hle, hb, h63, hK⟩
      · exact ⟨_, _, hK⟩
      · exact ⟨_, _, hK _ _ hn (Nat.le_refl _)⟩
      · by_cases hroom : n + m ≤ cap
        · exact ⟨_, _, hK _ _ (.inl ⟨rfl, rfl, hroom⟩) hroom⟩
        · exact ⟨_, _, hK _ _ (.inr ⟨hn, by omega⟩) (Nat.le_refl _)⟩
theorem dm_live {k : Kn} {m : M} {K : Value → Hp → Hp → Prop} {s : Sl} {σ₀ σ : Hp} {w : World} (hs : Sat σ w) (hsub : Sub σ₀ σ) (h : dm P k m K s σ₀ σ) : ∃ v σ₀' σ', (k.isM = false → σ₀' = σ₀) ∧ K v σ₀' σ' := by
  have hs0 := hs.sub hsub
  cases k with
  | p => simp only [dm] at h; obtain ⟨_, _, h⟩ := mop_live hs0 h; exact ⟨_, _, _, fun _ => rfl, h⟩
  | l => simp only [dm] at h; obtain ⟨_, _, h⟩ := mop_live hs0 h; exact ⟨_, _, _, fun _ => rfl, h⟩
  | f => simp only [dm] at h; obtain ⟨_, _, h⟩ := mop_live hs h; exact ⟨_, _, _, fun _ => rfl, h⟩
  | r => simp only [dm] at h; obtain ⟨_, _, h⟩ := mop_live hs h; exact ⟨_, _, _, fun _ => rfl, h⟩
  | w => simp only [dm] at h; obtain ⟨_, _, h⟩ := mop_live hs h; exact ⟨_, _, _, fun _ => rfl, h.2⟩
  | m => simp only [dm] at h; obtain ⟨_, _, h⟩ := mop_live hs h; exact ⟨_, _, _, (fun h => by cases h), h⟩
  | u => simp only [dm] at h; obtain ⟨_, _, h⟩ := mop_live hs h; exact ⟨_, _, _, (fun h => by cases h), h⟩
  | c =>
    cases m with
    | call f args => obtain ⟨v, h1, h2⟩ := h; exact ⟨_, _, _, fun _ => rfl, h2⟩
    | callv x args => obtain ⟨_, _, _, _, v, h1, h2⟩ := h; exact ⟨_, _, _, fun _ => rfl, h2⟩
    | _ => exact h.elim
  | g =>
    cases m with
    | call f args =>
      obtain ⟨R, h1, h2⟩ := h
      obtain ⟨e, w', fr, ⟨v, σ', _, hs', hf, hR⟩, _⟩ := h1 w hs0 []
      refine ⟨_, _, _, fun _ => rfl, (h2 v σ' hR ⟨_, hs'⟩).2 fun k hk hk' => ?_⟩
      by_cases hlt : k < w.heap.size
      · exact absurd (hf.know k hlt hk) hk'
      · exact hs.none_of_le (by omega)
    | _ => exact h.elim
structure DO where
  mo : MO
  k : Kn
def DO.rds (x : DO) : List Nat := x.mo.m.rds ++ (match x.mo.g with | some (d, _) => [d] | none => [])
def dmv (P : Program) (x : DO) (K : Value → Hp → Hp → Prop) (s : Sl) (σ₀ σ : Hp) : Prop := if gd x.mo.g s = true then dm P x.k x.mo.m K s σ₀ σ else K undef σ₀ σ
def dm1 (P : Program) (x : DO) (K : Sl → Hp → Hp → Prop) (s : Sl) (σ₀ σ : Hp) : Prop := dmv P x (fun v σ₀' σ' => K (putO s x.mo.d v) σ₀' σ') s σ₀ σ
theorem gd_put {g : Option (Nat × Bool)} {s : Sl} {d : Nat} {v : Value} (h : d ∉ (match g with | some (d, _) => [d] | none => [])) : gd g (put s d v) = gd g s := by
  cases g with
  | none => rfl
  | some q =>
    obtain ⟨e, want⟩ := q
    have : e ≠ d := fun h' => h (by simp [h'])
    simp [gd, put, this]
theorem dmv_put {x : DO} (hf : fits P x.k x.mo.m = true) {K : Value → Hp → Hp → Prop} {s : Sl} {σ₀ σ : Hp} {d : Option Nat} {v : Value} (h : ∀ e, d = some e → e ∉ x.rds) : dmv P x K (putO s d v) σ₀ σ = dmv P x K s σ₀ σ := by
  cases d with
  | none => rfl
  | some d =>
    have h := h d rfl
    simp only [DO.rds, List.mem_append, not_or] at h
    simp only [putO, dmv, gd_put h.2, dm_put hf h.1]
theorem dmv_mono {x : DO} {K K' : Value → Hp → Hp → Prop} {s : Sl} {σ₀ σ : Hp} (h : dmv P x K s σ₀ σ) (hk : ∀ v σ₀' σ', (¬ (gd x.mo.g s = true ∧ x.k.isM = true) → σ₀' = σ₀) → K v σ₀' σ' → K' v σ₀' σ') : dmv P x K' s σ₀ σ := by
  unfold dmv at *
  split
  · rename_i hg
    rw [if_pos hg] at h
    exact dm_mono h fun v σ₀' σ' he hK => hk v σ₀' σ' (fun hn => he (notM fun e => hn ⟨hg, e⟩)) hK
  · rename_i hg
    rw [if_neg hg] at h
    exact hk _ _ _ (fun _ => rfl) h
theorem dmv_live {x : DO} {K : Value → Hp → Hp → Prop} {s : Sl} {σ₀ σ : Hp} {w : World} (hs : Sat σ w) (hsub : Sub σ₀ σ) (h : dmv P x K s σ₀ σ) : ∃ v σ₀' σ', (¬ (gd x.mo.g s = true ∧ x.k.isM = true) → σ₀' = σ₀) ∧ K v σ₀' σ' := by
  unfold dmv at h
  split at h
  · rename_i hg
    obtain ⟨v, a, b, e, hK⟩ := dm_live hs hsub h
    exact ⟨v, a, b, fun hn => e (notM fun e => hn ⟨hg, e⟩), hK⟩
  · exact ⟨_, _, _, fun _ => rfl, h⟩
theorem dv_spec {x : DO} {s : Sl} (hv : gd x.mo.g s = true → x.k.isV = true) (hf : fits P x.k x.mo.m = true) {K : Value → Hp → Hp → Prop} {σ₀ σ : Hp} {w : World} (hs : x.k = .c → Sat σ₀ w) (h : dmv P x K s σ₀ σ) :
    ∃ v, ∀ (K' : Value → Hp → Hp → Prop) (σ₀' σ' : Hp), (gd x.mo.g s = true → x.k ≠ .p → σ₀' = σ₀) → (dmv P x K' s σ₀' σ' ↔ K' v σ₀' σ') := by
  by_cases hg : gd x.mo.g s = true
  · simp only [dmv, hg, if_true] at h ⊢
    obtain ⟨v, hv⟩ := v_spec (hv hg) hf hs h
    exact ⟨v, fun K' σ₀' σ' e => hv K' σ₀' σ' (e trivial)⟩
  · exact ⟨undef, fun K' σ₀' σ' _ => by simp only [dmv, hg, if_false]; exact Iff.rfl⟩
def Apart (x y : DO) : Prop := (∀ d, x.mo.d = some d → d ∉ y.rds) ∧ (∀ d, y.mo.d = some d → d ∉ x.rds) ∧ (∀ d, x.mo.d = some d → y.mo.d ≠ some d)
theorem putO_comm (s : Sl) {a b : Option Nat} (u v : Value) (h : ∀ d, a = some d → b ≠ some d) : putO (putO s a u) b v = putO (putO s b v) a u := by
  cases a with
  | none => rfl
  | some d =>
    cases b with
    | none => rfl
    | some e =>
      have hne : d ≠ e := fun e' => h d rfl (by rw [e'])
      funext i
      simp only [putO, put]
      by_cases h1 : i = d
      · subst h1; simp [hne]
      · by_cases h2 : i = e
        · subst h2; simp [h1]
        · simp [h1, h2]
variable {x y : DO} {K : Sl → Hp → Hp → Prop} {s : Sl} {σ₀ σ : Hp} {w : World}
theorem swap_vy (ha : Apart x y) (hfx : fits P x.k x.mo.m = true) (hfy : fits P y.k y.mo.m = true) (hv : gd x.mo.g s = true → x.k.isV = true) (hm : gd x.mo.g s = true → gd y.mo.g s = true → y.k.isM = true → x.k = .p) (hs : Sat σ w) (hsub : Sub σ₀ σ)
    (h : dm1 P x (dm1 P y K) s σ₀ σ) : dm1 P y (dm1 P x K) s σ₀ σ := by
  obtain ⟨v, hv⟩ := dv_spec hv hfx (fun _ => hs.sub hsub) h
  have h2 : dm1 P y K (putO s x.mo.d v) σ₀ σ := (hv (fun v σ₀' σ' => dm1 P y K (putO s x.mo.d v) σ₀' σ') σ₀ σ (fun _ _ => rfl)).1 h
  unfold dm1 at h2
  rw [dmv_put hfy ha.1] at h2
  unfold dm1
  refine dmv_mono h2 fun u σ₀' σ' he hK => ?_
  rw [dmv_put hfx ha.2.1]
  refine (hv _ σ₀' σ' fun hg hp => he fun ⟨hgy, hky⟩ => hp (hm hg hgy hky)).2 ?_
  rw [← putO_comm s v u ha.2.2]; exact hK
theorem swap_yv (ha : Apart y x) (hfx : fits P x.k x.mo.m = true) (hfy : fits P y.k y.mo.m = true) (hv : gd x.mo.g s = true → x.k.isV = true) (hm : gd x.mo.g s = true → gd y.mo.g s = true → y.k.isM = true → x.k = .p) (hs : Sat σ w) (hsub : Sub σ₀ σ)
    (h : dm1 P y (dm1 P x K) s σ₀ σ) : dm1 P x (dm1 P y K) s σ₀ σ := by
  unfold dm1 at h
  obtain ⟨u, σ₁, σ', he, hx⟩ := dmv_live hs hsub h
  rw [dmv_put hfx ha.1] at hx
  have hval : ∃ v, ∀ (K' : Value → Hp → Hp → Prop) (σ₀' σ' : Hp), (gd x.mo.g s = true → x.k ≠ .p → σ₀' = σ₀) → (dmv P x K' s σ₀' σ' ↔ K' v σ₀' σ') := by
    by_cases hc : gd x.mo.g s = true ∧ x.k ≠ .p
    · have e : σ₁ = σ₀ := he fun ⟨hgy, hky⟩ => hc.2 (hm hc.1 hgy hky)
      subst e
      exact dv_spec hv hfx (fun _ => hs.sub hsub) hx
    · have hcc : x.k = .c → gd x.mo.g s = true → False := fun e hg => hc ⟨hg, by rw [e]; simp⟩
      by_cases hg : gd x.mo.g s = true
      · have hp : x.k = .p := Classical.byContradiction fun hn => hc ⟨hg, hn⟩
        obtain ⟨v, hv⟩ := dv_spec (w := w) hv hfx (fun e => by rw [hp] at e; cases e) hx
        exact ⟨v, fun K' σ₀' σ' _ => hv K' σ₀' σ' fun _ hn => absurd hp hn⟩
      · exact ⟨undef, fun K' σ₀' σ' _ => by simp only [dmv, hg, if_false]; exact Iff.rfl⟩
  obtain ⟨v, hv⟩ := hval
  unfold dm1
  refine (hv _ σ₀ σ fun _ _ => rfl).2 ?_
  rw [dmv_put hfy ha.2.1]
  refine dmv_mono h fun u σ₀' σ' he hK => ?_
  rw [dmv_put hfx ha.1] at hK
  have := (hv _ σ₀' σ' fun hg hp => he fun ⟨hgy, hky⟩ => hp (hm hg hgy hky)).1 hK
  rw [← putO_comm s u v ha.2.2]; exact this
theorem f_spec {m : M} (hm : m.isF = true) {K : Value → Hp → Prop} {s : Sl} {σ : Hp} (h : mop P m K s σ) : ∃ (mk : Nat → Value) (o : Blk), ∀ (K' : Value → Hp → Prop) (σ' : Hp), mop P m K' s σ' ↔ ∀ b, σ' b = none → K' (mk b) (upd σ' b o) := by
  cases m with
  | new T z => exact ⟨_, _, fun K' σ' => Iff.rfl⟩
  | box T x => exact ⟨_, _, fun K' σ' => Iff.rfl⟩
  | lit E n size z ps =>
    obtain ⟨cs, e, h⟩ := onSome_elim h
    exact ⟨fun b => .slice (some ⟨b, 0, none⟩) n n, .row cs cs.length E, fun K' σ' => by simp only [mop, e, onSome_some]⟩
  | mkmap num => exact ⟨fun b => .map (some b), _, fun K' σ' => Iff.rfl⟩
  | _ => cases hm
theorem swap_ff (ha : Apart x y) (hfx : fits P x.k x.mo.m = true) (hfy : fits P y.k y.mo.m = true) (hgx : gd x.mo.g s = true) (hgy : gd y.mo.g s = true) (hkx : x.k = .f) (hky : y.k = .f) (hs : Sat σ w)
    (h : dm1 P x (dm1 P y K) s σ₀ σ) : dm1 P y (dm1 P x K) s σ₀ σ := by
  have hcx : ∀ (K : Value → Hp → Hp → Prop) σ₀ σ, dmv P x K s σ₀ σ = mop P x.mo.m (fun v σ' => K v σ₀ σ') s σ := fun K σ₀ σ => by simp only [dmv, hgx, if_true, hkx, dm]
  have hcy : ∀ (K : Value → Hp → Hp → Prop) σ₀ σ, dmv P y K s σ₀ σ = mop P y.mo.m (fun v σ' => K v σ₀ σ') s σ := fun K σ₀ σ => by simp only [dmv, hgy, if_true, hky, dm]
  have hfx' : x.mo.m.isF = true := by rw [hkx] at hfx; exact hfx
  have hfy' : y.mo.m.isF = true := by rw [hky] at hfy; exact hfy
  unfold dm1 at h ⊢
  rw [hcx] at h
  obtain ⟨mk1, o1, h1⟩ := f_spec hfx' h
  have h := (h1 _ _).1 h
  have hy0 := h _ (hs.none_of_le (Nat.le_refl _))
  rw [dmv_put hfy ha.1, hcy] at hy0
  obtain ⟨mk2, o2, h2⟩ := f_spec hfy' hy0
  rw [hcy]
  refine (h2 _ _).2 fun b2 hb2 => ?_
  rw [dmv_put hfx ha.2.1, hcx]
  refine (h1 _ _).2 fun b1 hb1 => ?_
  have hne : b1 ≠ b2 := fun e => by subst e; rw [upd_same] at hb1; cases hb1
  rw [upd_ne _ _ hne] at hb1
  have := h b1 hb1
  rw [dmv_put hfy ha.1, hcy] at this
  have := (h2 _ _).1 this b2 (by rw [upd_ne _ _ (Ne.symm hne)]; exact hb2)
  rw [upd_comm _ _ _ (Ne.symm hne), ← putO_comm s _ _ ha.2.2]; exact this
theorem wr_upd {σ σ1 : Hp} {b tb off : Nat} {vs : List Value} {o : Blk} (hb : σ b = none) (h : wr σ tb off vs = some σ1) : wr (upd σ b o) tb off vs = some (upd σ1 b o) ∧ σ1 b = none := by
  have hne : tb ≠ b := fun e => by
    subst e; unfold wr at h; rw [hb] at h; cases h
  unfold wr at h ⊢
  rw [upd_ne _ _ hne]
  cases hx : σ tb with
  | none => rw [hx] at h; cases h
  | some q =>
    rw [hx] at h
    cases q with
    | cells cs t =>
      dsimp only at h ⊢
      split at h
      · rename_i hle; cases h; rw [if_pos hle]; exact ⟨by rw [upd_comm _ _ _ (Ne.symm hne)], by rw [upd_ne _ _ (Ne.symm hne)]; exact hb⟩
      · cases h
    | row cs r t =>
      dsimp only at h ⊢
      split at h
      · rename_i hle; cases h; rw [if_pos hle]; exact ⟨by rw [upd_comm _ _ _ (Ne.symm hne)], by rw [upd_ne _ _ (Ne.symm hne)]; exact hb⟩
      · cases h
    | dead => cases h
    | ro x => cases h
    | mp l => cases h
    | im l => cases h
theorem rdn_upd_none {σ : Hp} {b tb off n : Nat} {ys : List Value} {o : Blk} (hb : σ b = none) (h : rdn σ tb off n = some ys) : rdn (upd σ b o) tb off n = some ys := by
  have hne : tb ≠ b := fun e => by
    subst e; unfold rdn at h; rw [hb] at h; cases h
  unfold rdn at h ⊢
  rw [upd_ne _ _ hne]; exact h
/-- A block that the call does not know stays known. -/
theorem acalls_by {f : FuncId} {args : Array Value} {σ : Hp} {l : Nat} {Y : Blk} {R : Value → Hp → Prop} (hl : σ l = none) (h : ACalls P f args σ R) :
    ACalls P f args (upd σ l Y) fun v σ'' => ∃ σ', R v σ' ∧ σ' l = none ∧ (∃ w, Sat σ' w) ∧ σ'' = upd σ' l Y := fun w hs => by
  have hs0 : Sat σ w := fun b o hb => hs b o (by rw [upd_ne _ _ (fun e => by subst e; rw [hl] at hb; cases hb)]; exact hb)
  refine (h w hs0).mono ?_
  rintro e w' ⟨v, σ', he, h1, h2, h3⟩
  have hlt : l < w.heap.size := hs.lt (by rw [upd_same]; simp)
  have hn : σ' l = none := h2.know l hlt hl
  refine ⟨v, upd σ' l Y, he, fun b o hb => ?_, ⟨h2.os, h2.tape, h2.output, h2.size, fun k hk hkn => ?_, fun k hk hkn => ?_⟩, σ', h3, hn, ⟨w', h1⟩, rfl⟩
  · by_cases e : b = l
    · subst e
      rw [h2.block b hlt hl]
      rw [upd_same] at hb; cases hb
      exact hs b Y (upd_same _ _ _)
    · rw [upd_ne _ _ e] at hb; exact h1 b o hb
  · have : k ≠ l := fun e => by subst e; rw [upd_same] at hkn; cases hkn
    rw [upd_ne _ _ this] at hkn
    exact h2.block k hk hkn
  · have : k ≠ l := fun e => by subst e; rw [upd_same] at hkn; cases hkn
    rw [upd_ne _ _ this] at hkn ⊢
    exact h2.know k hk hkn
theorem w_upd {m : M} (hm : m.isWC = true) {K1 K2 : Value → Hp → Prop} {s : Sl} {σ : Hp} {b : Nat} {o : Blk} (hb : σ b = none) (h : mop P m K1 s σ) (hk : ∀ v σ1, K1 v σ1 → σ1 b = none → K2 v (upd σ1 b o)) : mop P m K2 s (upd σ b o) := by
  cases m with
  | call f args =>
    obtain ⟨R, h1, h2⟩ := h
    exact ⟨_, acalls_by hb h1, fun v σ'' ⟨σ', hr, hn, hw, e⟩ _ => by subst e; exact hk v σ' (h2 v σ' hr hw) hn⟩
  | st sz a x =>
    obtain ⟨tb, off, e, h1, h2, h⟩ := onPtr_elim h
    obtain ⟨σ1, hw, hK⟩ := onSome_elim h
    obtain ⟨hw2, hn⟩ := wr_upd (o := o) hb hw
    simp only [mop, e, onPtr_mk, hw2, onSome_some]
    exact ⟨h1, h2, hk _ _ hK hn⟩
  | app E size bytes x y =>
    rcases h with ⟨A0, m, c, hy, hm, h⟩ | ⟨b0, off, m, c, ys, hy, hrd, h1, h⟩
    · rcases h with ⟨hx, hK⟩ | ⟨b', n, cap, hx, hle, hK⟩
      · exact .inl ⟨A0, m, c, hy, hm, .inl ⟨hx, hk _ _ hK hb⟩⟩
      · exact .inl ⟨A0, m, c, hy, hm, .inr ⟨b', n, cap, hx, hle, hk _ _ hK hb⟩⟩
    · have hrd' := rdn_upd_none (o := o) hb hrd
      rcases h with ⟨hm, hx, hK⟩ | ⟨hm, hx, hb2, h63, hK⟩ | ⟨g, n, cap, xs, hx, hg, hxl, hle, hb2, h63, hK⟩
      · exact .inr ⟨b0, off, m, c, ys, hy, hrd', h1, .inl ⟨hm, hx, hk _ _ hK hb⟩⟩
      · refine .inr ⟨b0, off, m, c, ys, hy, hrd', h1, .inr (.inl ⟨hm, hx, hb2, h63, fun b' c' h2 h3 => ?_⟩)⟩
        have hne : b' ≠ b := fun e => by subst e; rw [upd_same] at h2; cases h2
        rw [upd_ne _ _ hne] at h2
        rw [upd_comm _ _ _ (Ne.symm hne)]
        exact hk _ _ (hK b' c' h2 h3) (by rw [upd_ne _ _ (Ne.symm hne)]; exact hb)
      · have hgb : g ≠ b := fun e => by obtain ⟨tl, hg⟩ := hg; subst e; rw [hb] at hg; cases hg
        refine .inr ⟨b0, off, m, c, ys, hy, hrd', h1, .inr (.inr ⟨g, n, cap, xs, hx, by rw [upd_ne _ _ hgb]; exact hg, hxl, hle, hb2, h63, fun b' c' h2 h3 => ?_⟩)⟩
        have hne : b' ≠ b := fun e => by
          rcases h2 with ⟨h2, _⟩ | ⟨h2, _⟩
          · exact hgb (h2.symm.trans e)
          · subst e; rw [upd_same] at h2; cases h2
        have h2' : b' = g ∧ c' = cap ∧ n + m ≤ cap ∨ σ b' = none ∧ cap < n + m := h2.imp id fun h => ⟨by have h := h.1; rw [upd_ne _ _ hne] at h; exact h, h.2⟩
        rw [upd_comm _ _ _ (Ne.symm hgb), upd_comm _ _ _ (Ne.symm hne)]
        exact hk _ _ (hK b' c' h2' h3) (by rw [upd_ne _ _ (Ne.symm hne), upd_ne _ _ (Ne.symm hgb)]; exact hb)
  | _ => cases hm
theorem swap_wf (ha : Apart x y) (hfx : fits P x.k x.mo.m = true) (hfy : fits P y.k y.mo.m = true) (hgx : gd x.mo.g s = true) (hgy : gd y.mo.g s = true) (hkx : x.k = .w) (hky : y.k = .f) (hs : Sat σ w) (hsub : Sub σ₀ σ)
    (h : dm1 P x (dm1 P y K) s σ₀ σ) : dm1 P y (dm1 P x K) s σ₀ σ := by
  have hcx : ∀ (K : Value → Hp → Hp → Prop) σ₀ σ, dmv P x K s σ₀ σ = mop P x.mo.m (fun v σ' => Sub σ₀ σ' ∧ K v σ₀ σ') s σ := fun K σ₀ σ => by simp only [dmv, hgx, if_true, hkx, dm]
  have hcy : ∀ (K : Value → Hp → Hp → Prop) σ₀ σ, dmv P y K s σ₀ σ = mop P y.mo.m (fun v σ' => K v σ₀ σ') s σ := fun K σ₀ σ => by simp only [dmv, hgy, if_true, hky, dm]
  have hfx' : x.mo.m.isWC = true := by rw [hkx] at hfx; exact hfx
  have hfy' : y.mo.m.isF = true := by rw [hky] at hfy; exact hfy
  unfold dm1 at h ⊢
  rw [hcx] at h
  obtain ⟨v0, σ1, _, hy0⟩ := mop_live hs h
  rw [dmv_put hfy ha.1, hcy] at hy0
  obtain ⟨mk2, o2, h2⟩ := f_spec hfy' hy0
  rw [hcy]
  refine (h2 _ _).2 fun b hb => ?_
  rw [dmv_put hfx ha.2.1, hcx]
  refine w_upd hfx' hb h fun v σ1 hK hn => ?_
  obtain ⟨hsub1, hK⟩ := hK
  rw [dmv_put hfy ha.1, hcy] at hK
  have := (h2 _ _).1 hK b hn
  refine ⟨fun i => ?_, by rw [← putO_comm s _ _ ha.2.2]; exact this⟩
  by_cases e : i = b
  · subst e; left; rcases hsub i with h | h
    · exact h
    · exact h.trans hb
  · rw [upd_ne _ _ e]; exact hsub1 i
/-- A call, asked of what the region found, holds over what there is now. -/
theorem acalls_frame {f : FuncId} {args : Array Value} {R : Value → Hp → Prop} (hsub : Sub σ₀ σ) (h : ACalls P f args σ₀ R) (hgrow : ∀ v σ₁, R v σ₁ → (∃ w, Sat σ₁ w) → Sub σ₀ σ₁) :
    ACalls P f args σ fun v σ' => ∃ σ₁, R v σ₁ ∧ (∃ w, Sat σ₁ w) ∧ (∀ k, σ₀ k = none → σ₁ k ≠ none → σ k = none) ∧ σ' = mrg σ₀ σ₁ σ := fun w hs => by
  refine (h w (hs.sub hsub)).mono ?_
  rintro e w' ⟨v, σ₁, he, hs', hf, hR⟩
  have hg := hgrow v σ₁ hR ⟨_, hs'⟩
  have hdis : ∀ k, σ₀ k = none → σ₁ k ≠ none → σ k = none := fun k hk hk' => by
    by_cases hlt : k < w.heap.size
    · exact absurd (hf.know k hlt hk) hk'
    · exact hs.none_of_le (by omega)
  refine ⟨v, mrg σ₀ σ₁ σ, he, fun b o hb => ?_, ⟨hf.os, hf.tape, hf.output, hf.size, fun k hk hn => ?_, fun k hk hn => ?_⟩, σ₁, hR, ⟨_, hs'⟩, hdis, rfl⟩
  · simp only [mrg] at hb
    split at hb
    · rename_i o' _ h1; cases hb; exact hs' b _ h1
    · rename_i hnot
      cases h0 : σ₀ b with
      | none =>
        have h1 : σ₁ b = none := by
          cases h1 : σ₁ b with
          | none => rfl
          | some o' => exact absurd h1 (hnot o' h0)
        have hlt := hs.lt (b := b) (by rw [hb]; simp)
        rw [hf.block b hlt h0]; exact hs b o hb
      | some o0 =>
        have e1 : σ b = some o0 := by
          rcases hsub b with e | e
          · rw [e] at h0; cases h0
          · rw [← e]; exact h0
        have e2 : σ₁ b = some o0 := by
          rcases hg b with e | e
          · rw [e] at h0; cases h0
          · rw [← e]; exact h0
        rw [e1] at hb; cases hb
        exact hs' b _ e2
  · have h0 : σ₀ k = none := by
      rcases hsub k with e | e
      · exact e
      · rw [e]; exact hn
    exact hf.block k hk h0
  · have h0 : σ₀ k = none := by
      rcases hsub k with e | e
      · exact e
      · rw [e]; exact hn
    have h1 := hf.know k hk h0
    simp only [mrg, h0, h1]; exact hn
theorem swap_gf (ha : Apart x y) (hfx : fits P x.k x.mo.m = true) (hfy : fits P y.k y.mo.m = true) (hgx : gd x.mo.g s = true) (hgy : gd y.mo.g s = true) (hkx : x.k = .g) (hky : y.k = .f) (hs : Sat σ w) (hsub : Sub σ₀ σ)
    (h : dm1 P x (dm1 P y K) s σ₀ σ) : dm1 P y (dm1 P x K) s σ₀ σ := by
  have hcy : ∀ (K : Value → Hp → Hp → Prop) σ₀ σ, dmv P y K s σ₀ σ = mop P y.mo.m (fun v σ' => K v σ₀ σ') s σ := fun K σ₀ σ => by simp only [dmv, hgy, if_true, hky, dm]
  have hfx' : x.mo.m.isC = true := by rw [hkx] at hfx; exact hfx
  have hfy' : y.mo.m.isF = true := by rw [hky] at hfy; exact hfy
  obtain ⟨f, args, hm⟩ : ∃ f args, x.mo.m = .call f args := by
    cases hx : x.mo.m <;> rw [hx] at hfx' <;> first | exact ⟨_, _, rfl⟩ | cases hfx'
  have hcx : ∀ (K : Value → Hp → Hp → Prop) σ₀ σ, dmv P x K s σ₀ σ = ∃ R, ACalls P f (args.map (ev s)).toArray σ₀ R ∧ ∀ v σ₁, R v σ₁ → (∃ w, Sat σ₁ w) → Sub σ₀ σ₁ ∧ ((∀ k, σ₀ k = none → σ₁ k ≠ none → σ k = none) → K v σ₀ (mrg σ₀ σ₁ σ)) := fun K σ₀ σ => by
    simp only [dmv, hgx, if_true, hkx, hm, dm]
  unfold dm1 at h ⊢
  rw [hcx] at h
  obtain ⟨R, hR, h⟩ := h
  obtain ⟨v0, σ', ⟨σ₁, hR1, hS1, hd1, _⟩⟩ := mop_live (P := P) (m := .call f args) (s := s) (K := fun v σ' => ∃ σ₁, R v σ₁ ∧ (∃ w, Sat σ₁ w) ∧ (∀ k, σ₀ k = none → σ₁ k ≠ none → σ k = none) ∧ σ' = mrg σ₀ σ₁ σ) hs
    ⟨_, acalls_frame hsub hR (fun v σ₁ a b => (h v σ₁ a b).1), fun v σ' a _ => a⟩
  have hy0 := (h v0 σ₁ hR1 hS1).2 hd1
  rw [dmv_put hfy ha.1, hcy] at hy0
  obtain ⟨mk2, o2, h2⟩ := f_spec hfy' hy0
  rw [hcy]
  refine (h2 _ _).2 fun b hb => ?_
  rw [dmv_put hfx ha.2.1, hcx]
  refine ⟨R, hR, fun v σ₂ a hS => ⟨(h v σ₂ a hS).1, fun hd => ?_⟩⟩
  have hb0 : σ₀ b = none := by
    rcases hsub b with e | e
    · exact e
    · rw [e]; exact hb
  have hb2 : σ₂ b = none := Classical.byContradiction fun e => by
    have := hd b hb0 e
    rw [upd_same] at this; cases this
  have hd' : ∀ k, σ₀ k = none → σ₂ k ≠ none → σ k = none := fun k k0 k2 => by
    have := hd k k0 k2
    by_cases e : k = b
    · subst e; exact hb
    · rwa [upd_ne _ _ e] at this
  have hK := (h v σ₂ a hS).2 hd'
  rw [dmv_put hfy ha.1, hcy] at hK
  have hmb : mrg σ₀ σ₂ σ b = none := by unfold mrg; rw [hb0, hb2]; exact hb
  have := (h2 _ _).1 hK b hmb
  have e : mrg σ₀ σ₂ (upd σ b o2) = upd (mrg σ₀ σ₂ σ) b o2 := by
    funext k
    by_cases e : k = b
    · subst e; rw [upd_same]; unfold mrg; rw [hb0, hb2, upd_same]
    · rw [upd_ne _ _ e]; unfold mrg; rw [upd_ne _ _ e]
  rw [e, ← putO_comm s _ _ ha.2.2]
  exact this
/-- What only reads, reads at one place that its slots tell. -/
theorem r_spec {m : M} (hm : m.isR = true) {s : Sl} : (∀ (K : Value → Hp → Prop) (σ' : Hp), ¬ mop P m K s σ') ∨ ∃ (a : Nat) (val : Option Blk → Option Value), val none = none ∧ ∀ (K : Value → Hp → Prop) (σ' : Hp), mop P m K s σ' ↔ ∃ v, val (σ' a) = some v ∧ K v σ' := by
  cases m with
  | ld sz x =>
    by_cases hx : ∃ b o, ev s x = .pointer (some ⟨b, o, none⟩)
    · obtain ⟨b, o, e⟩ := hx
      right
      cases sz with
      | none =>
        refine ⟨b, fun q => rd (fun _ => q) b o, rfl, fun K σ' => ?_⟩
        have e2 : rd (fun _ => σ' b) b o = rd σ' b o := rfl
        simp only [mop, e, onPtr_mk, e2]
        cases rd σ' b o <;> simp [onSome]
      | some n =>
        refine ⟨b, fun q => (rdn (fun _ => q) b o n).map fun vs => .agg vs.toArray, rfl, fun K σ' => ?_⟩
        have e2 : rdn (fun _ => σ' b) b o n = rdn σ' b o n := rfl
        simp only [mop, e, onPtr_mk, e2]
        cases rdn σ' b o n <;> simp [onSome]
    · left
      intro K σ' h
      cases sz <;> (obtain ⟨b, o, e, _⟩ := onPtr_elim h; exact hx ⟨b, o, e⟩)
  | bys x =>
    by_cases hx : ∃ b o n c, ev s x = .slice (some ⟨b, o, none⟩) n c
    · obtain ⟨b, o, n, c, e⟩ := hx
      right
      refine ⟨b, fun q => ((rdn (fun _ => q) b o n).bind u8s).map fun ys => .string (strOfNums ys), rfl, fun K σ' => ?_⟩
      have e2 : rdn (fun _ => σ' b) b o n = rdn σ' b o n := rfl
      simp only [mop, e, onSlice_mk, e2]
      cases rdn σ' b o n with
      | none => simp [onSome]
      | some vs => cases hu : u8s vs <;> simp [onSome, hu]
    · left
      intro K σ' h
      obtain ⟨b, o, n, c, e, _⟩ := onSlice_elim h
      exact hx ⟨b, o, n, c, e⟩
  | _ => cases hm
theorem l_spec {m : M} (hm : m.isL = true) {s : Sl} : (∀ (K : Value → Hp → Prop) (σ' : Hp), ¬ mop P m K s σ') ∨ (∃ v, ∀ (K : Value → Hp → Prop) (σ' : Hp), mop P m K s σ' ↔ K v σ') ∨
    ∃ (a : Nat) (val : Option Blk → Option Value), val none = none ∧ ∀ (K : Value → Hp → Prop) (σ' : Hp), mop P m K s σ' ↔ ∃ v, val (σ' a) = some v ∧ K v σ' := by
  by_cases hr : m.isR = true
  · rcases r_spec (P := P) (s := s) hr with h | h
    · exact .inl h
    · exact .inr (.inr h)
  · cases m with
    | look q z x i =>
      by_cases hx : ∃ b, ev s x = .map (some b)
      · obtain ⟨b, e⟩ := hx
        refine .inr (.inr ⟨b, fun o => o.bind (bread q z (ev s i)), rfl, fun K σ' => ?_⟩)
        simp only [mop, e, mreadV]
        cases (σ' b).bind (bread q z (ev s i)) <;> simp [onSome]
      · have hc : ∀ σ', mreadV σ' (ev s x) q z (ev s i) = mreadV (fun _ => none) (ev s x) q z (ev s i) := fun σ' => by
          unfold mreadV
          split
          · rfl
          · rename_i b e; exact absurd ⟨b, e⟩ hx
          · rfl
        cases hv : mreadV (fun _ => none) (ev s x) q z (ev s i) with
        | none => exact .inl fun K σ' h => by simp only [mop, hc σ', hv, onSome] at h
        | some v => exact .inr (.inl ⟨v, fun K σ' => by simp only [mop, hc σ', hv, onSome_some]⟩)
    | ld sz x => exact absurd rfl hr
    | bys x => exact absurd rfl hr
    | _ => cases hm
theorem swap_fr (ha : Apart x y) (hfx : fits P x.k x.mo.m = true) (hfy : fits P y.k y.mo.m = true) (hgx : gd x.mo.g s = true) (hgy : gd y.mo.g s = true) (hkx : x.k = .f) (hky : y.k = .r) (hs : Sat σ w)
    (h : dm1 P x (dm1 P y K) s σ₀ σ) : dm1 P y (dm1 P x K) s σ₀ σ := by
  have hcx : ∀ (K : Value → Hp → Hp → Prop) σ₀ σ, dmv P x K s σ₀ σ = mop P x.mo.m (fun v σ' => K v σ₀ σ') s σ := fun K σ₀ σ => by simp only [dmv, hgx, if_true, hkx, dm]
  have hcy : ∀ (K : Value → Hp → Hp → Prop) σ₀ σ, dmv P y K s σ₀ σ = mop P y.mo.m (fun v _ => K v σ₀ σ) s σ := fun K σ₀ σ => by simp only [dmv, hgy, if_true, hky, dm]
  have hfx' : x.mo.m.isF = true := by rw [hkx] at hfx; exact hfx
  have hfy' : y.mo.m.isR = true := by rw [hky] at hfy; exact hfy
  unfold dm1 at h ⊢
  rw [hcx] at h
  obtain ⟨mk1, o1, h1⟩ := f_spec hfx' h
  have h := (h1 _ _).1 h
  rw [hcy]
  rcases r_spec (P := P) (s := s) hfy' with hno | ⟨a, val, hv0, hval⟩
  · have hy0 := h _ (hs.none_of_le (Nat.le_refl _))
    rw [dmv_put hfy ha.1, hcy] at hy0
    exact absurd hy0 (hno _ _)
  · obtain ⟨b0, hb0, hne0⟩ : ∃ b0, σ b0 = none ∧ a ≠ b0 := by
      by_cases e : a = w.heap.size
      · exact ⟨w.heap.size + 1, hs.none_of_le (by omega), by omega⟩
      · exact ⟨w.heap.size, hs.none_of_le (Nat.le_refl _), e⟩
    have hy0 := h b0 hb0
    rw [dmv_put hfy ha.1, hcy] at hy0
    obtain ⟨v, hv, _⟩ := (hval _ _).1 hy0
    rw [upd_ne _ _ hne0] at hv
    refine (hval _ _).2 ⟨v, hv, ?_⟩
    rw [dmv_put hfx ha.2.1, hcx]
    refine (h1 _ _).2 fun b hb => ?_
    have hne : a ≠ b := fun e => by rw [e, hb, hv0] at hv; cases hv
    have hy := h b hb
    rw [dmv_put hfy ha.1, hcy] at hy
    obtain ⟨v', hv', hK⟩ := (hval _ _).1 hy
    rw [upd_ne _ _ hne, hv] at hv'
    cases hv'
    rw [← putO_comm s _ _ ha.2.2]; exact hK
theorem swap_rf (ha : Apart x y) (hfx : fits P x.k x.mo.m = true) (hfy : fits P y.k y.mo.m = true) (hgx : gd x.mo.g s = true) (hgy : gd y.mo.g s = true) (hkx : x.k = .r) (hky : y.k = .f) (hs : Sat σ w)
    (h : dm1 P x (dm1 P y K) s σ₀ σ) : dm1 P y (dm1 P x K) s σ₀ σ := by
  have hcx : ∀ (K : Value → Hp → Hp → Prop) σ₀ σ, dmv P x K s σ₀ σ = mop P x.mo.m (fun v _ => K v σ₀ σ) s σ := fun K σ₀ σ => by simp only [dmv, hgx, if_true, hkx, dm]
  have hcy : ∀ (K : Value → Hp → Hp → Prop) σ₀ σ, dmv P y K s σ₀ σ = mop P y.mo.m (fun v σ' => K v σ₀ σ') s σ := fun K σ₀ σ => by simp only [dmv, hgy, if_true, hky, dm]
  have hfx' : x.mo.m.isR = true := by rw [hkx] at hfx; exact hfx
  have hfy' : y.mo.m.isF = true := by rw [hky] at hfy; exact hfy
  unfold dm1 at h ⊢
  rw [hcx] at h
  rcases r_spec (P := P) (s := s) hfx' with hno | ⟨a, val, hv0, hval⟩
  · exact absurd h (hno _ _)
  · obtain ⟨v, hv, h⟩ := (hval _ _).1 h
    rw [dmv_put hfy ha.1, hcy] at h
    obtain ⟨mk2, o2, h2⟩ := f_spec hfy' h
    have h := (h2 _ _).1 h
    rw [hcy]
    refine (h2 _ _).2 fun b hb => ?_
    have hne : a ≠ b := fun e => by rw [e, hb, hv0] at hv; cases hv
    rw [dmv_put hfx ha.2.1, hcx]
    refine (hval _ _).2 ⟨v, by rw [upd_ne _ _ hne]; exact hv, ?_⟩
    rw [← putO_comm s _ _ ha.2.2]; exact h b hb
theorem swap_rr (ha : Apart x y) (hfx : fits P x.k x.mo.m = true) (hfy : fits P y.k y.mo.m = true) (hgx : gd x.mo.g s = true) (hgy : gd y.mo.g s = true) (hkx : x.k = .r) (hky : y.k = .r)
    (h : dm1 P x (dm1 P y K) s σ₀ σ) : dm1 P y (dm1 P x K) s σ₀ σ := by
  have hcx : ∀ (K : Value → Hp → Hp → Prop) σ₀ σ, dmv P x K s σ₀ σ = mop P x.mo.m (fun v _ => K v σ₀ σ) s σ := fun K σ₀ σ => by simp only [dmv, hgx, if_true, hkx, dm]
  have hcy : ∀ (K : Value → Hp → Hp → Prop) σ₀ σ, dmv P y K s σ₀ σ = mop P y.mo.m (fun v _ => K v σ₀ σ) s σ := fun K σ₀ σ => by simp only [dmv, hgy, if_true, hky, dm]
  have hfx' : x.mo.m.isR = true := by rw [hkx] at hfx; exact hfx
  have hfy' : y.mo.m.isR = true := by rw [hky] at hfy; exact hfy
  unfold dm1 at h ⊢
  rw [hcx] at h
  rcases r_spec (P := P) (s := s) hfx' with hno | ⟨a, val, _, hval⟩
  · exact absurd h (hno _ _)
  · obtain ⟨v, hv, h⟩ := (hval _ _).1 h
    rw [dmv_put hfy ha.1, hcy] at h
    rcases r_spec (P := P) (s := s) hfy' with hno | ⟨a2, val2, _, hval2⟩
    · exact absurd h (hno _ _)
    · obtain ⟨v2, hv2, h⟩ := (hval2 _ _).1 h
      rw [hcy]
      refine (hval2 _ _).2 ⟨v2, hv2, ?_⟩
      rw [dmv_put hfx ha.2.1, hcx]
      refine (hval _ _).2 ⟨v, hv, ?_⟩
      rw [← putO_comm s _ _ ha.2.2]; exact h
theorem sat_more (hs : Sat σ w) (a : Nat) : ∃ w', Sat σ w' ∧ a < w'.heap.size := by
  refine ⟨{ w with heap := w.heap ++ Array.replicate (a + 1) default }, fun b o hb => ?_, by simp; omega⟩
  have hlt := hs.lt (b := b) (by rw [hb]; simp)
  show o.at (w.heap ++ Array.replicate (a + 1) default)[b]?
  rw [Array.getElem?_append_left hlt]
  exact hs b o hb
theorem swap_gr (ha : Apart x y) (hfx : fits P x.k x.mo.m = true) (hfy : fits P y.k y.mo.m = true) (hgx : gd x.mo.g s = true) (hgy : gd y.mo.g s = true) (hkx : x.k = .g) (hky : y.k = .r) (hs : Sat σ w) (hsub : Sub σ₀ σ)
    (h : dm1 P x (dm1 P y K) s σ₀ σ) : dm1 P y (dm1 P x K) s σ₀ σ := by
  have hcy : ∀ (K : Value → Hp → Hp → Prop) σ₀ σ, dmv P y K s σ₀ σ = mop P y.mo.m (fun v _ => K v σ₀ σ) s σ := fun K σ₀ σ => by simp only [dmv, hgy, if_true, hky, dm]
  have hfx' : x.mo.m.isC = true := by rw [hkx] at hfx; exact hfx
  have hfy' : y.mo.m.isR = true := by rw [hky] at hfy; exact hfy
  obtain ⟨f, args, hm⟩ : ∃ f args, x.mo.m = .call f args := by
    cases hx : x.mo.m <;> rw [hx] at hfx' <;> first | exact ⟨_, _, rfl⟩ | cases hfx'
  have hcx : ∀ (K : Value → Hp → Hp → Prop) σ₀ σ, dmv P x K s σ₀ σ = ∃ R, ACalls P f (args.map (ev s)).toArray σ₀ R ∧ ∀ v σ₁, R v σ₁ → (∃ w, Sat σ₁ w) → Sub σ₀ σ₁ ∧ ((∀ k, σ₀ k = none → σ₁ k ≠ none → σ k = none) → K v σ₀ (mrg σ₀ σ₁ σ)) := fun K σ₀ σ => by
    simp only [dmv, hgx, if_true, hkx, hm, dm]
  unfold dm1 at h ⊢
  rw [hcx] at h
  obtain ⟨R, hR, h⟩ := h
  rw [hcy]
  rcases r_spec (P := P) (s := s) hfy' with hno | ⟨a, val, hv0, hval⟩
  · obtain ⟨v0, σ', ⟨σ₁, hR1, hS1, hd1, _⟩⟩ := mop_live (P := P) (m := .call f args) (s := s) (K := fun v σ' => ∃ σ₁, R v σ₁ ∧ (∃ w, Sat σ₁ w) ∧ (∀ k, σ₀ k = none → σ₁ k ≠ none → σ k = none) ∧ σ' = mrg σ₀ σ₁ σ) hs
      ⟨_, acalls_frame hsub hR (fun v σ₁ a b => (h v σ₁ a b).1), fun v σ' a _ => a⟩
    have hy0 := (h v0 σ₁ hR1 hS1).2 hd1
    rw [dmv_put hfy ha.1, hcy] at hy0
    exact absurd hy0 (hno _ _)
  · obtain ⟨w', hs', hlt⟩ := sat_more hs a
    obtain ⟨e, w'', fr, ⟨v0, σ₁, _, hs1, hf, hR1⟩, _⟩ := hR w' (hs'.sub hsub) []
    have hd1 : ∀ k, σ₀ k = none → σ₁ k ≠ none → σ k = none := fun k hk hk' => by
      by_cases hlt : k < w'.heap.size
      · exact absurd (hf.know k hlt hk) hk'
      · exact hs'.none_of_le (by omega)
    have hy0 := (h v0 σ₁ hR1 ⟨_, hs1⟩).2 hd1
    rw [dmv_put hfy ha.1, hcy] at hy0
    obtain ⟨v, hv, _⟩ := (hval _ _).1 hy0
    have ea : mrg σ₀ σ₁ σ a = σ a := by
      unfold mrg
      cases h0 : σ₀ a with
      | none => rw [hf.know a hlt h0]
      | some o => rfl
    rw [ea] at hv
    refine (hval _ _).2 ⟨v, hv, ?_⟩
    rw [dmv_put hfx ha.2.1, hcx]
    refine ⟨R, hR, fun v2 σ₂ hR2 hS => ⟨(h v2 σ₂ hR2 hS).1, fun hd => ?_⟩⟩
    have hK := (h v2 σ₂ hR2 hS).2 hd
    rw [dmv_put hfy ha.1, hcy] at hK
    obtain ⟨v', hv', hK⟩ := (hval _ _).1 hK
    have eb : mrg σ₀ σ₂ σ a = σ a := by
      unfold mrg
      cases h0 : σ₀ a with
      | none =>
        cases h2 : σ₂ a with
        | none => rfl
        | some o => rw [hd a h0 (by rw [h2]; simp), hv0] at hv; cases hv
      | some o => rfl
    rw [eb, hv] at hv'
    cases hv'
    rw [← putO_comm s _ _ ha.2.2]; exact hK
theorem swap_ul (ha : Apart x y) (hfx : fits P x.k x.mo.m = true) (hfy : fits P y.k y.mo.m = true) (hgx : gd x.mo.g s = true) (hgy : gd y.mo.g s = true) (hkx : x.k = .u) (hky : y.k = .l) (hs : Sat σ w)
    (h : dm1 P x (dm1 P y K) s σ₀ σ) : dm1 P y (dm1 P x K) s σ₀ σ := by
  have hcx : ∀ (K : Value → Hp → Hp → Prop) σ₀ σ, dmv P x K s σ₀ σ = mop P x.mo.m (fun v σ' => K v (meet σ₀ σ') σ') s σ := fun K σ₀ σ => by simp only [dmv, hgx, if_true, hkx, dm]
  have hcy : ∀ (K : Value → Hp → Hp → Prop) σ₀ σ, dmv P y K s σ₀ σ = mop P y.mo.m (fun v _ => K v σ₀ σ) s σ₀ := fun K σ₀ σ => by simp only [dmv, hgy, if_true, hky, dm]
  have hfy' : y.mo.m.isL = true := by rw [hky] at hfy; exact hfy
  unfold dm1 at h ⊢
  rw [hcx] at h
  rw [hcy]
  obtain ⟨v0, σ1, h0⟩ := mop_live hs h
  rw [dmv_put hfy ha.1, hcy] at h0
  rcases l_spec (P := P) (s := s) hfy' with hno | ⟨v, hval⟩ | ⟨a, val, hv0, hval⟩
  · exact absurd h0 (hno _ _)
  · refine (hval _ _).2 ?_
    rw [dmv_put hfx ha.2.1, hcx]
    refine mop_mono h fun u σ' h2 => ?_
    rw [dmv_put hfy ha.1, hcy] at h2
    have hK := (hval _ _).1 h2
    rw [← putO_comm s _ _ ha.2.2]; exact hK
  · obtain ⟨v, hv, _⟩ := (hval _ _).1 h0
    have hne : meet σ₀ σ1 a ≠ none := fun e => by rw [e, hv0] at hv; cases hv
    rw [meet_at hne] at hv
    refine (hval _ _).2 ⟨v, hv, ?_⟩
    rw [dmv_put hfx ha.2.1, hcx]
    refine mop_mono h fun u σ' h2 => ?_
    rw [dmv_put hfy ha.1, hcy] at h2
    obtain ⟨v', hv', hK⟩ := (hval _ _).1 h2
    have hne' : meet σ₀ σ' a ≠ none := fun e => by rw [e, hv0] at hv'; cases hv'
    rw [meet_at hne', hv] at hv'
    cases hv'
    rw [← putO_comm s _ _ ha.2.2]; exact hK
/-- Some world holds it. -/
def Satb (σ : Hp) : Prop := (∃ N, ∀ k, N ≤ k → σ k = none) ∧ ∀ k o, σ k = some o → ∃ x, o.at (some x)
theorem Sat.satb (h : Sat σ w) : Satb σ := by
  refine ⟨⟨w.heap.size, fun k hk => h.none_of_le hk⟩, fun k o hk => ?_⟩
  have := h k o hk
  cases hx : w.heap[k]? with
  | none => rw [hx] at this; have := Blk.at_some this; cases this
  | some x => rw [hx] at this; exact ⟨x, this⟩
theorem Satb.sat (h : Satb σ) : ∃ w, Sat σ w := by
  obtain ⟨⟨N, hN⟩, hx⟩ := h
  have hc : ∀ k : Nat, ∃ x : Obj, ∀ o, σ k = some o → o.at (some x) := fun k => by
    cases hk : σ k with
    | none => exact ⟨default, fun o h => by cases h⟩
    | some o => obtain ⟨x, hx⟩ := hx k o hk; exact ⟨x, fun o' h => by cases h; exact hx⟩
  let f : Nat → Obj := fun k => Classical.choose (hc k)
  have hf : ∀ k o, σ k = some o → o.at (some (f k)) := fun k => Classical.choose_spec (hc k)
  refine ⟨{ (default : World) with heap := Array.ofFn (n := N) fun i => f i.val }, fun b o hb => ?_⟩
  have hlt : b < N := by
    rcases Nat.lt_or_ge b N with h | h
    · exact h
    · rw [hN b h] at hb; cases hb
  show o.at (Array.ofFn (n := N) fun i => f i.val)[b]?
  rw [Array.getElem?_ofFn, dif_pos hlt]; exact hf b o hb
theorem Satb.upd (h : Satb σ) {b : Nat} {o : Blk} (ho : ∃ x, o.at (some x)) : Satb (Sp.upd σ b o) := by
  obtain ⟨⟨N, hN⟩, hx⟩ := h
  refine ⟨⟨max N (b + 1), fun k hk => by rw [upd_ne _ _ (by omega)]; exact hN k (by omega)⟩, fun k o' hk => ?_⟩
  by_cases e : k = b
  · subst e; rw [upd_same] at hk; cases hk; exact ho
  · rw [upd_ne _ _ e] at hk; exact hx k o' hk
theorem Satb.mrg {σ₁ : Hp} (h : Satb σ) (h1 : Satb σ₁) : Satb (Sp.mrg σ₀ σ₁ σ) := by
  obtain ⟨⟨N, hN⟩, hx⟩ := h
  obtain ⟨⟨N1, hN1⟩, hx1⟩ := h1
  refine ⟨⟨max N N1, fun k hk => ?_⟩, fun k o hk => ?_⟩
  · simp only [Sp.mrg, hN k (by omega), hN1 k (by omega)]; cases σ₀ k <;> rfl
  · simp only [Sp.mrg] at hk
    split at hk
    · rename_i o' _ h1; cases hk; exact hx1 k _ h1
    · exact hx k o hk
theorem Satb.wr {σ1 : Hp} (h : Satb σ) {b off : Nat} {vs : List Value} (hw : Sp.wr σ b off vs = some σ1) : Satb σ1 := by
  unfold Sp.wr at hw
  cases hb : σ b with
  | none => rw [hb] at hw; cases hw
  | some q =>
    rw [hb] at hw
    obtain ⟨x, hx⟩ := h.2 b q hb
    cases q with
    | cells cs t =>
      dsimp only at hw
      split at hw
      · cases hw; exact h.upd ⟨_, rfl⟩
      · cases hw
    | row cs r t =>
      dsimp only at hw
      split at hw
      · rename_i hle
        cases hw
        obtain ⟨rest, hl, _⟩ := hx
        exact h.upd ⟨_, rest, by rw [splice_len hle]; exact hl, rfl⟩
      · cases hw
    | dead => cases hw
    | ro x => cases hw
    | mp l => cases hw
    | im l => cases hw
theorem seg_len {cs vs : List Value} {off n : Nat} (h : seg cs off n = some vs) : vs.length = n := (seg_get h).1
theorem rdn_len {b off n : Nat} {vs : List Value} (h : rdn σ b off n = some vs) : vs.length = n := by
  unfold rdn at h
  split at h
  · exact seg_len h
  · exact seg_len h
  · exact seg_len h
  · cases h
theorem row_real {cs : List Value} {r : Nat} {t : TypeId} (h : cs.length ≤ r) : ∃ x, (Blk.row cs r t).at (some x) :=
  ⟨_, List.replicate (r - cs.length) default, by rw [List.length_replicate]; omega, rfl⟩
theorem turn_real {q : LT} {k v : Value} {o o' : Blk} (h : bturn q k v o = some o') : ∃ x, o'.at (some x) := by
  unfold bturn at h
  split at h <;> (try split at h) <;> cases h <;> exact ⟨_, _, _, rfl, ents_real _ _⟩
theorem mop_mono_sat {m : M} {K K' : Value → Hp → Prop} (hs : Satb σ) (h : mop P m K s σ) (hk : ∀ v σ', Satb σ' → K v σ' → K' v σ') : mop P m K' s σ := by
  cases m with
  | new T z => exact fun b hb => hk _ _ (hs.upd ⟨_, rfl⟩) (h b hb)
  | box T x => exact fun b hb => hk _ _ (hs.upd ⟨_, rfl⟩) (h b hb)
  | lit E n size z ps => exact onSome_mono h fun cs h b hb => hk _ _ (hs.upd (row_real (Nat.le_refl _))) (h b hb)
  | st sz a x =>
    obtain ⟨tb, off, e, h1, h2, h⟩ := onPtr_elim h
    obtain ⟨σ1, hw, hK⟩ := onSome_elim h
    simp only [mop, e, onPtr_mk, hw, onSome_some]
    exact ⟨h1, h2, hk _ _ (hs.wr hw) hK⟩
  | call f args => obtain ⟨R, h1, h2⟩ := h; exact ⟨R, h1, fun v σ' hR hw => hk _ _ (hw.elim fun _ h => h.satb) (h2 v σ' hR hw)⟩
  | callv x args => obtain ⟨f, cs, e1, e2, R, h1, h2⟩ := h; exact ⟨f, cs, e1, e2, R, h1, fun v σ' hR hw => hk _ _ (hw.elim fun _ h => h.satb) (h2 v σ' hR hw)⟩
  | app E size bytes x y =>
    rcases h with ⟨A0, m, c, hy, hm, h⟩ | ⟨b, off, m, c, ys, hy, hrd, h1, h⟩
    · rcases h with ⟨hx, hK⟩ | ⟨b, n, cap, hx, hle, hK⟩
      · exact .inl ⟨A0, m, c, hy, hm, .inl ⟨hx, hk _ _ hs hK⟩⟩
      · exact .inl ⟨A0, m, c, hy, hm, .inr ⟨b, n, cap, hx, hle, hk _ _ hs hK⟩⟩
    · have hyl := rdn_len hrd
      rcases h with ⟨hm, hx, hK⟩ | ⟨hm, hx, hb, h63, hK⟩ | ⟨g, n, cap, xs, hx, hg, hxl, hle, hb, h63, hK⟩
      · exact .inr ⟨b, off, m, c, ys, hy, hrd, h1, .inl ⟨hm, hx, hk _ _ hs hK⟩⟩
      · exact .inr ⟨b, off, m, c, ys, hy, hrd, h1, .inr (.inl ⟨hm, hx, hb, h63, fun b' c' h2 h3 => hk _ _ (hs.upd (row_real (by rw [hyl]; exact Nat.mul_le_mul_right _ h3))) (hK b' c' h2 h3)⟩)⟩
      · refine .inr ⟨b, off, m, c, ys, hy, hrd, h1, .inr (.inr ⟨g, n, cap, xs, hx, hg, hxl, hle, hb, h63, fun b' c' h2 h3 => hk _ _ (Satb.upd (hs.upd ?_) (row_real ?_)) (hK b' c' h2 h3)⟩)⟩
        · exact ⟨default, rfl⟩
        · rw [List.length_append, hxl, hyl, ← Nat.add_mul]; exact Nat.mul_le_mul_right _ h3
  | mkmap num => exact fun b hb => hk _ _ (hs.upd (by cases num <;> exact ⟨_, _, _, rfl, ents_real _ _⟩)) (h b hb)
  | mks E size bytes z x => obtain ⟨j, e, h1, h2⟩ := onI64_el h; simp only [mop, e, onI64_mk]; exact ⟨h1, fun b hb => hk _ _ (hs.upd (row_real (by simp [h1.2.2.2]))) (h2 b hb)⟩
  | fnl g xs => exact onSome_mono h fun _ h => hk _ _ hs h
  | bys x => exact onSlice_mono h fun _ _ _ h => onSome_mono h fun _ h => onSome_mono h fun _ h => hk _ _ hs h
  | look q z x i => exact onSome_mono h fun _ h => hk _ _ hs h
  | mset q x i v =>
    obtain ⟨σ', e, h⟩ := onSome_elim h
    simp only [mop, e, onSome_some]
    obtain ⟨b, o, o', _, _, ho, rfl⟩ := mturn_elim e
    exact hk _ _ (hs.upd (turn_real ho)) h
  | raw op ty => obtain ⟨v, h1, h2⟩ := h; exact ⟨v, h1, hk _ _ hs h2⟩
  | hop op ty =>
    obtain ⟨h0, R, h1, h2⟩ := h
    exact ⟨h0, R, h1, fun v σ' hr hw => hk _ _ (hw.elim fun _ h3 => h3.satb) (h2 v σ' hr hw)⟩
  | mv x => exact hk _ _ hs h
  | pick c a b => exact onBool_mono h fun _ h => hk _ _ hs h
  | nilc x => exact onPtr_mono h fun _ _ h => hk _ _ hs h
  | fa off x => exact onPtr_mono h fun _ _ h => hk _ _ hs h
  | ia size x i =>
    obtain ⟨b, o, n, c, e, h⟩ := onSlice_elim h
    obtain ⟨j, e2, h⟩ := onI64_elim h
    simp only [mop, e, e2, onSlice_mk, onI64_mk]; exact ⟨h.1, hk _ _ hs h.2⟩
  | bin op x y => exact onSome_mono h fun _ h => hk _ _ hs h
  | eqs neg k x y => exact onSome_mono h fun _ h => hk _ _ hs h
  | nt x => exact onBool_mono h fun _ h => hk _ _ hs h
  | ext i x =>
    obtain ⟨vs, e, h⟩ := onTuple_elim h
    simp only [mop, e, onTuple_mk]; exact onSome_mono h fun _ h => hk _ _ hs h
  | len t x => exact onSome_mono h fun _ h => hk _ _ hs h
  | bld z ps => exact onSome_mono h fun _ h => hk _ _ hs h
  | conv k x => exact onInt_mono h fun _ _ h => hk _ _ hs h
  | ixs x i => exact onStr_mono h fun _ h => onI64_mono h fun _ h => ⟨h.1, hk _ _ hs h.2⟩
  | mx u x y => exact onInt_mono h fun _ _ h => onInt_mono h fun _ _ h => hk _ _ hs h
  | eqa n ks x y => exact onSome_mono h fun _ h => hk _ _ hs h
  | fld n off x => exact onSome_mono h fun _ h => hk _ _ hs h
  | ld sz x => cases sz with
    | none => exact onPtr_mono h fun _ _ h => onSome_mono h fun _ h => hk _ _ hs h
    | some n => exact onPtr_mono h fun _ _ h => onSome_mono h fun _ h => hk _ _ hs h
theorem mop_f_none {m : M} (hm : m.isF = true) {K K' : Value → Hp → Prop} (h : mop P m K s σ) (hk : ∀ v σ', (∀ k, σ k ≠ none → σ' k = σ k) → K v σ' → K' v σ') : mop P m K' s σ := by
  have key : ∀ (b : Nat) (o : Blk), σ b = none → ∀ k, σ k ≠ none → upd σ b o k = σ k := fun b o hb k hk => upd_ne _ _ fun e => hk (by rw [e]; exact hb)
  cases m with
  | new T z => exact fun b hb => hk _ _ (key b _ hb) (h b hb)
  | box T x => exact fun b hb => hk _ _ (key b _ hb) (h b hb)
  | lit E n size z ps => exact onSome_mono h fun cs h b hb => hk _ _ (key b _ hb) (h b hb)
  | mkmap num => exact fun b hb => hk _ _ (key b _ hb) (h b hb)
  | _ => cases hm
theorem dm_mono_sat {k : Kn} {m : M} (hf : fits P k m = true) {K K' : Value → Hp → Hp → Prop} (hs : Satb σ) (hsub : Sub σ₀ σ) (h : dm P k m K s σ₀ σ) (hk : ∀ v σ₀' σ', Satb σ' → Sub σ₀' σ' → K v σ₀' σ' → K' v σ₀' σ') : dm P k m K' s σ₀ σ := by
  cases k with
  | p => simp only [dm] at h ⊢; exact mop_mono h fun v _ h => hk _ _ _ hs hsub h
  | l => simp only [dm] at h ⊢; exact mop_mono h fun v _ h => hk _ _ _ hs hsub h
  | r => simp only [dm] at h ⊢; exact mop_mono h fun v _ h => hk _ _ _ hs hsub h
  | u => simp only [dm] at h ⊢; exact mop_mono_sat hs h fun v σ' h1 h => hk _ _ _ h1 (meet_sub _ _) h
  | f =>
    simp only [dm] at h ⊢
    have h := mop_mono_sat (K' := fun v σ' => Satb σ' ∧ K v σ₀ σ') hs h fun v σ' h1 h2 => ⟨h1, h2⟩
    exact mop_f_none hf h fun v σ' hk' h => hk _ _ _ h.1 (fun i => (hsub i).elim .inl fun e => by
      by_cases hn : σ i = none
      · left; rw [e]; exact hn
      · right; rw [hk' i hn]; exact e) h.2
  | w => simp only [dm] at h ⊢; exact mop_mono_sat hs h fun v σ' h1 h => ⟨h.1, hk _ _ _ h1 h.1 h.2⟩
  | m => simp only [dm] at h ⊢; exact mop_mono_sat hs h fun v σ' h1 h => hk _ _ _ h1 (Sub.refl _) h
  | c =>
    cases m with
    | call f args => obtain ⟨v, h1, h2⟩ := h; exact ⟨v, h1, hk _ _ _ hs hsub h2⟩
    | callv x args => obtain ⟨f, cs, e1, e2, v, h1, h2⟩ := h; exact ⟨f, cs, e1, e2, v, h1, hk _ _ _ hs hsub h2⟩
    | _ => exact h.elim
  | g =>
    cases m with
    | call f args =>
      obtain ⟨R, h1, h2⟩ := h
      refine ⟨R, h1, fun v σ₁ hR hw => ⟨(h2 v σ₁ hR hw).1, fun hd => hk _ _ _ (hs.mrg (hw.elim fun _ h => h.satb)) (fun i => ?_) ((h2 v σ₁ hR hw).2 hd)⟩⟩
      cases hi : σ₀ i with
      | none => exact .inl rfl
      | some o =>
        right
        simp only [mrg, hi]
        rcases hsub i with e | e
        · rw [hi] at e; cases e
        · rw [← e, hi]
    | _ => exact h.elim
theorem dm1_mono_sat {x : DO} (hf : fits P x.k x.mo.m = true) {K K' : Sl → Hp → Hp → Prop} (hs : Satb σ) (hsub : Sub σ₀ σ) (h : dm1 P x K s σ₀ σ) (hk : ∀ s' σ₀' σ', Satb σ' → Sub σ₀' σ' → K s' σ₀' σ' → K' s' σ₀' σ') : dm1 P x K' s σ₀ σ := by
  unfold dm1 dmv at *
  split
  · rename_i hg; rw [if_pos hg] at h
    exact dm_mono_sat hf hs hsub h fun v a b h1 h2 h3 => hk _ _ _ h1 h2 h3
  · rename_i hg; rw [if_neg hg] at h
    exact hk _ _ _ hs hsub h
def okKinds : Kn → Kn → Bool
  | .p, _ => true
  | _, .p => true
  | .m, _ => false
  | _, .m => false
  | .u, .l => true
  | .u, _ => false
  | _, .u => false
  | .l, _ => true
  | .c, _ => true
  | _, .l => true
  | _, .c => true
  | .f, .f => true
  | .w, .f => true
  | .g, .f => true
  | .f, .r => true
  | .r, .f => true
  | .g, .r => true
  | .r, .r => true
  | _, _ => false
def notIn (d : Option Nat) (l : List Nat) : Bool := match d with | some d => !l.contains d | none => true
def okPair (x y : DO) : Bool := notIn x.mo.d y.rds && notIn y.mo.d x.rds && (x.mo.d.isNone || x.mo.d != y.mo.d) && okKinds x.k y.k
theorem okPair_apart (h : okPair x y = true) : Apart x y := by
  simp only [okPair, Bool.and_eq_true] at h
  obtain ⟨⟨⟨h1, h2⟩, h3⟩, _⟩ := h
  refine ⟨fun d hd => ?_, fun d hd => ?_, fun d hd e => ?_⟩
  · rw [hd] at h1; simpa [notIn] using h1
  · rw [hd] at h2; simpa [notIn] using h2
  · rw [hd, e] at h3; simp at h3
theorem okM1 : ∀ a b : Kn, okKinds a b = true → b.isM = true → a.isV = true → a = .p := by
  intro a b; cases a <;> cases b <;> simp [okKinds, Kn.isM, Kn.isV]
theorem okM2 : ∀ a b : Kn, okKinds a b = true → a.isM = true → b.isV = true → ¬ (a = .u ∧ b = .l) → b = .p := by
  intro a b; cases a <;> cases b <;> simp [okKinds, Kn.isM, Kn.isV]
theorem swap_all (hok : okPair x y = true) (hfx : fits P x.k x.mo.m = true) (hfy : fits P y.k y.mo.m = true) (hs : Satb σ) (hsub : Sub σ₀ σ)
    (h : dm1 P x (dm1 P y K) s σ₀ σ) : dm1 P y (dm1 P x K) s σ₀ σ := by
  obtain ⟨w, hs⟩ := hs.sat
  have ha := okPair_apart hok
  have hkk : okKinds x.k y.k = true := by simp only [okPair, Bool.and_eq_true] at hok; exact hok.2
  by_cases hgx : gd x.mo.g s = true
  · by_cases hgy : gd y.mo.g s = true
    · by_cases hul : x.k = .u ∧ y.k = .l
      · exact swap_ul ha hfx hfy hgx hgy hul.1 hul.2 hs h
      cases hx : x.k.isV with
      | true =>
        refine swap_vy ha hfx hfy (fun _ => hx) (fun _ _ hm => ?_) hs hsub h
        exact okM1 _ _ hkk hm hx
      | false =>
        cases hy : y.k.isV with
        | true =>
          refine swap_yv ha hfy hfx (fun _ => hy) (fun _ _ hm => ?_) hs hsub h
          exact okM2 _ _ hkk hm hy hul
        | false =>
          have : (x.k = .f ∧ y.k = .f) ∨ (x.k = .w ∧ y.k = .f) ∨ (x.k = .g ∧ y.k = .f) ∨ (x.k = .f ∧ y.k = .r) ∨ (x.k = .r ∧ y.k = .f) ∨ (x.k = .g ∧ y.k = .r) ∨ (x.k = .r ∧ y.k = .r) := by
            cases hxk : x.k <;> rw [hxk] at hkk hx <;> cases hyk : y.k <;> rw [hyk] at hkk hy <;> simp_all [okKinds, Kn.isV]
          rcases this with ⟨h1, h2⟩ | ⟨h1, h2⟩ | ⟨h1, h2⟩ | ⟨h1, h2⟩ | ⟨h1, h2⟩ | ⟨h1, h2⟩ | ⟨h1, h2⟩
          · exact swap_ff ha hfx hfy hgx hgy h1 h2 hs h
          · exact swap_wf ha hfx hfy hgx hgy h1 h2 hs hsub h
          · exact swap_gf ha hfx hfy hgx hgy h1 h2 hs hsub h
          · exact swap_fr ha hfx hfy hgx hgy h1 h2 hs h
          · exact swap_rf ha hfx hfy hgx hgy h1 h2 hs h
          · exact swap_gr ha hfx hfy hgx hgy h1 h2 hs hsub h
          · exact swap_rr ha hfx hfy hgx hgy h1 h2 h
    · exact swap_yv ha hfy hfx (fun h => absurd h hgy) (fun h => absurd h hgy) hs hsub h
  · exact swap_vy ha hfx hfy (fun h => absurd h hgx) (fun h => absurd h hgx) hs hsub h
def dmops (P : Program) : List DO → (Sl → Hp → Hp → Prop) → Sl → Hp → Hp → Prop
  | [], K, s, σ₀, σ => K s σ₀ σ
  | x :: xs, K, s, σ₀, σ => dm1 P x (dmops P xs K) s σ₀ σ
theorem to_front : ∀ (A : List DO) (B : List DO), (∀ a ∈ A, okPair a x = true) → (∀ a ∈ A, fits P a.k a.mo.m = true) → fits P x.k x.mo.m = true → ∀ {s : Sl} {σ₀ σ : Hp}, Satb σ → Sub σ₀ σ →
    dmops P (A ++ x :: B) K s σ₀ σ → dm1 P x (dmops P (A ++ B) K) s σ₀ σ
  | [], B, _, _, _, _, _, _, _, _, h => h
  | a :: A, B, hok, hfa, hfx, s, σ₀, σ, hs, hsub, h => by
    have ih := fun {s : Sl} {σ₀ σ : Hp} => to_front A B (fun b hb => hok b (by simp [hb])) (fun b hb => hfa b (by simp [hb])) hfx (s := s) (σ₀ := σ₀) (σ := σ)
    exact swap_all (hok a (by simp)) (hfa a (by simp)) hfx hs hsub (dm1_mono_sat (hfa a (by simp)) hs hsub h fun s' a b h1 h2 h3 => ih h1 h2 h3)
theorem rd_sub {b off : Nat} {v : Value} (hsub : Sub σ₀ σ) (h : rd σ₀ b off = some v) : rd σ b off = some v := by
  unfold rd at h ⊢
  rcases hsub b with e | e
  · rw [e] at h; cases h
  · rw [← e]; exact h
theorem rdn_sub {b off n : Nat} {v : List Value} (hsub : Sub σ₀ σ) (h : rdn σ₀ b off n = some v) : rdn σ b off n = some v := by
  unfold rdn at h ⊢
  rcases hsub b with e | e
  · rw [e] at h; cases h
  · rw [← e]; exact h
theorem mread_sub {m : Value} {q : LQ} {z k v : Value} (hsub : Sub σ₀ σ) (h : mreadV σ₀ m q z k = some v) : mreadV σ m q z k = some v := by
  unfold mreadV at h ⊢
  split at h
  · exact h
  · obtain ⟨o, ho, hv⟩ := Option.bind_eq_some_iff.1 h
    rcases hsub _ with e | e
    · rw [e] at ho; cases ho
    · rw [← e, ho]; exact hv
  · cases h
/-- Told as the plain operation. -/
theorem dm_mop {k : Kn} {m : M} (hf : fits P k m = true) {K : Value → Hp → Hp → Prop} (hsub : Sub σ₀ σ) (h : dm P k m K s σ₀ σ) : mop P m (fun v σ' => ∃ σ₀', Sub σ₀' σ' ∧ K v σ₀' σ') s σ := by
  cases k with
  | p =>
    simp only [dm] at h
    obtain ⟨v, hK, hv⟩ := pv_spec hf h
    have hpure : ∀ (K' : Value → Hp → Prop), (∃ _ : m.isP = true, K' v σ) → mop P m K' s σ := fun K' ⟨hp, hK'⟩ => by
      have h2 := (hv (fun u => u = v) σ).2 rfl
      cases m with
      | raw op ty => obtain ⟨u, h1, rfl⟩ := h2; exact ⟨_, h1, hK'⟩
      | mv x => have h2 : ev s x = v := h2; simp only [mop, h2]; exact hK'
      | pick c a b => obtain ⟨t, e, h2⟩ := onBool_elim h2; simp only [mop, e, onBool_mk]; rw [h2]; exact hK'
      | nilc x => obtain ⟨b, o, e, h2⟩ := onPtr_elim h2; simp only [mop, e, onPtr_mk]; rw [h2]; exact hK'
      | fa off x => obtain ⟨b, o, e, h2⟩ := onPtr_elim h2; simp only [mop, e, onPtr_mk]; rw [h2]; exact hK'
      | ia size x i =>
        obtain ⟨b, o, n, c, e, h2⟩ := onSlice_elim h2
        obtain ⟨j, e2, h2⟩ := onI64_elim h2
        simp only [mop, e, e2, onSlice_mk, onI64_mk]; rw [h2.2]; exact ⟨h2.1, hK'⟩
      | bin op x y => obtain ⟨u, e, h2⟩ := onSome_elim h2; simp only [mop, e, onSome_some]; rw [h2]; exact hK'
      | eqs neg k x y => obtain ⟨u, e, h2⟩ := onSome_elim h2; simp only [mop, e, onSome_some]; rw [h2]; exact hK'
      | nt x => obtain ⟨t, e, h2⟩ := onBool_elim h2; simp only [mop, e, onBool_mk]; rw [h2]; exact hK'
      | ext i x =>
        obtain ⟨vs, e, h2⟩ := onTuple_elim h2
        obtain ⟨u, e2, h2⟩ := onSome_elim h2
        simp only [mop, e, e2, onTuple_mk, onSome_some]; rw [h2]; exact hK'
      | len t x => obtain ⟨u, e, h2⟩ := onSome_elim h2; simp only [mop, e, onSome_some]; rw [h2]; exact hK'
      | bld z ps => obtain ⟨u, e, h2⟩ := onSome_elim h2; simp only [mop, e, onSome_some]; rw [h2]; exact hK'
      | conv k x => obtain ⟨q, u, e, h2⟩ := onInt_elim h2; simp only [mop, e, onInt_mk]; rw [h2]; exact hK'
      | ixs x i =>
        obtain ⟨b, e, h2⟩ := onStr_elim h2
        obtain ⟨j, e2, h2⟩ := onI64_elim h2
        simp only [mop, e, e2, onStr_mk, onI64_mk]; rw [h2.2]; exact ⟨h2.1, hK'⟩
      | mx u x y =>
        obtain ⟨q, a, e, h2⟩ := onInt_elim h2
        obtain ⟨q', b, e2, h2⟩ := onInt_elim h2
        simp only [mop, e, e2, onInt_mk]; rw [h2]; exact hK'
      | eqa n ks x y => obtain ⟨u, e, h2⟩ := onSome_elim h2; simp only [mop, e, onSome_some]; rw [h2]; exact hK'
      | fld n off x => obtain ⟨u, e, h2⟩ := onSome_elim h2; simp only [mop, e, onSome_some]; rw [h2]; exact hK'
      | fnl g xs => obtain ⟨u, e, h2⟩ := onSome_elim h2; simp only [mop, e, onSome_some]; rw [h2]; exact hK'
      | _ => cases hp
    exact hpure _ ⟨hf, σ₀, hsub, hK⟩
  | l =>
    cases m with
    | ld sz x =>
      cases sz with
      | none =>
        obtain ⟨b, o, e, h⟩ := onPtr_elim h
        obtain ⟨v, e2, h⟩ := onSome_elim h
        simp only [mop, e, onPtr_mk, rd_sub hsub e2, onSome_some]; exact ⟨σ₀, hsub, h⟩
      | some n =>
        obtain ⟨b, o, e, h⟩ := onPtr_elim h
        obtain ⟨v, e2, h⟩ := onSome_elim h
        simp only [mop, e, onPtr_mk, rdn_sub hsub e2, onSome_some]; exact ⟨σ₀, hsub, h⟩
    | look q z x i =>
      obtain ⟨v, e, h⟩ := onSome_elim h
      simp only [mop, mread_sub hsub e, onSome_some]; exact ⟨σ₀, hsub, h⟩
    | bys x =>
      obtain ⟨b, o, n, c, e, h⟩ := onSlice_elim h
      obtain ⟨vs, e2, h⟩ := onSome_elim h
      obtain ⟨ys, e3, h⟩ := onSome_elim h
      simp only [mop, e, e3, onSlice_mk, rdn_sub hsub e2, onSome_some]; exact ⟨σ₀, hsub, h⟩
    | _ => cases hf
  | c =>
    rcases fits_c hf with ⟨f, args, rfl, hi⟩ | ⟨x, args, rfl⟩
    · obtain ⟨v, h1, h2⟩ := h
      refine ⟨_, acalls_frame hsub h1 (fun v' σ₁ hR _ => by rw [hR.2]; exact Sub.refl _), ?_⟩
      rintro v' σ' ⟨σ₁, ⟨rfl, rfl⟩, _, _, rfl⟩ _
      refine ⟨σ₁, ?_, ?_⟩ <;> (have e : mrg σ₁ σ₁ σ = σ := by funext i; simp only [mrg]; split <;> simp_all)
      · rw [e]; exact hsub
      · rw [e]; exact h2
    · obtain ⟨f, cs, e1, e2, v, h1, h2⟩ := h
      refine ⟨f, cs, e1, e2, _, acalls_frame hsub h1 (fun v' σ₁ hR _ => by rw [hR.2]; exact Sub.refl _), ?_⟩
      rintro v' σ' ⟨σ₁, ⟨rfl, rfl⟩, _, _, rfl⟩ _
      refine ⟨σ₁, ?_, ?_⟩ <;> (have e : mrg σ₁ σ₁ σ = σ := by funext i; simp only [mrg]; split <;> simp_all)
      · rw [e]; exact hsub
      · rw [e]; exact h2
  | g =>
    cases m with
    | call f args =>
      obtain ⟨R, h1, h2⟩ := h
      refine ⟨_, acalls_frame hsub h1 (fun v' σ₁ hR hw => (h2 v' σ₁ hR hw).1), ?_⟩
      rintro v' σ' ⟨σ₁, hR, hw, hd, rfl⟩ _
      refine ⟨σ₀, fun i => ?_, (h2 v' σ₁ hR hw).2 hd⟩
      cases hi : σ₀ i with
      | none => exact .inl rfl
      | some o =>
        right
        simp only [mrg, hi]
        rcases hsub i with e | e
        · rw [hi] at e; cases e
        · rw [← e, hi]
    | _ => exact h.elim
  | f =>
    simp only [dm] at h
    exact mop_f_none hf h fun v σ' hk' h => ⟨σ₀, fun i => (hsub i).elim .inl fun e => by
      by_cases hn : σ i = none
      · left; rw [e]; exact hn
      · right; rw [hk' i hn]; exact e, h⟩
  | w => simp only [dm] at h; exact mop_mono h fun v σ' h => ⟨σ₀, h.1, h.2⟩
  | u => simp only [dm] at h; exact mop_mono h fun v σ' h => ⟨_, meet_sub _ _, h⟩
  | r =>
    simp only [dm] at h
    rcases r_spec (P := P) (s := s) hf with hno | ⟨a, val, _, hv⟩
    · exact absurd h (hno _ _)
    · obtain ⟨v, hv1, h⟩ := (hv _ _).1 h
      exact (hv _ _).2 ⟨v, hv1, σ₀, hsub, h⟩
  | m => simp only [dm] at h; exact mop_mono h fun v σ' h => ⟨σ', Sub.refl _, h⟩
/-- Which operations each one waits for, as bits. -/
def bitsOf (acc : List Nat) (o : Oper) : Nat := o.after.toList.foldl (fun b e => if Region.binds .any e = true then b ||| 2 ^ e.on ||| acc.getD e.on 0 else b) 0
def ancL (ops : Array Oper) : Nat → List Nat
  | 0 => []
  | k + 1 => ancL ops k ++ [match ops[k]? with | some o => bitsOf (ancL ops k) o | none => 0]
theorem ancL_len (ops : Array Oper) : ∀ k, (ancL ops k).length = k
  | 0 => rfl
  | k + 1 => by simp [ancL, ancL_len ops k]
theorem bits_test {acc : List Nat} {j : Nat} : ∀ (l : List Edge) (b0 : Nat), (l.foldl (fun b e => if Region.binds .any e = true then b ||| 2 ^ e.on ||| acc.getD e.on 0 else b) b0).testBit j = true →
    b0.testBit j = true ∨ ∃ e ∈ l, Region.binds .any e = true ∧ (j = e.on ∨ (acc.getD e.on 0).testBit j = true)
  | [], b0, h => .inl h
  | e :: l, b0, h => by
    simp only [List.foldl_cons] at h
    rcases bits_test l _ h with h | ⟨e', he, h1, h2⟩
    · split at h
      · rename_i hb
        simp only [Nat.testBit_or, Bool.or_eq_true, Nat.testBit_two_pow] at h
        rcases h with (h | h) | h
        · exact .inl h
        · exact .inr ⟨e, by simp, hb, .inl (by have h := of_decide_eq_true h; exact h.symm)⟩
        · exact .inr ⟨e, by simp, hb, .inr h⟩
      · exact .inl h
    · exact .inr ⟨e', by simp [he], h1, h2⟩
def Preds (ops : Array Oper) (listed : Array Bool) (i : Nat) : Prop := ∀ o, ops[i]? = some o → ∀ e ∈ o.after.toList, Region.binds .any e = true → listed.getD e.on false = true
def Closed (ops : Array Oper) (listed : Array Bool) : Prop := ∀ i, listed.getD i false = true → Preds ops listed i
theorem anc_listed {ops : Array Oper} {listed : Array Bool} (hc : Closed ops listed) {j : Nat} : ∀ (k i : Nat), i < k → ((ancL ops k).getD i 0).testBit j = true → Preds ops listed i → listed.getD j false = true
  | 0, i, h, _, _ => absurd h (by omega)
  | k + 1, i, h, ht, hp => by
    simp only [ancL] at ht
    by_cases hik : i < k
    · rw [List.getD_eq_getElem?_getD, List.getElem?_append_left (by rw [ancL_len]; exact hik), ← List.getD_eq_getElem?_getD] at ht
      exact anc_listed hc k i hik ht hp
    · have e : i = k := by omega
      subst e
      rw [List.getD_eq_getElem?_getD, List.getElem?_append_right (by rw [ancL_len]; exact Nat.le_refl _), ancL_len, Nat.sub_self] at ht
      simp only [List.getElem?_cons_zero, Option.getD_some] at ht
      cases ho : ops[i]? with
      | none => rw [ho] at ht; simp at ht
      | some o =>
        rw [ho] at ht
        rcases bits_test _ _ ht with h0 | ⟨e, he, hb, h1⟩
        · simp at h0
        · have hl := hp o ho e he hb
          rcases h1 with h1 | h1
          · rw [h1]; exact hl
          · have hlt : e.on < i := by
              rcases Nat.lt_or_ge e.on i with h | h
              · exact h
              · rw [List.getD_eq_getElem?_getD, List.getElem?_eq_none (by rw [ancL_len]; exact h)] at h1; simp at h1
            exact anc_listed hc i e.on hlt h1 (hc e.on hl)
def ordered (an : List Nat) (i j : Nat) : Bool := if i < j then (an.getD j 0).testBit i else (an.getD i 0).testBit j
/-- Bytes read as a text, of a row that the region itself makes. -/
def srcF (mos : List MO) (m : M) : Bool := match m with | .bys (.tmp t) => mos.any fun q => q.m.isF && q.d == some t | _ => false
/-- Is it a call that is named as one that writes what the reads beside it do not look at? (4000000 and its number.) -/
def callsW (us : List Nat) (m : M) : Bool := match m with | .call f _ => us.contains (4000000 + f) | _ => false
/-- Is it a call of one of these? -/
def callsOf (us : List Nat) (m : M) : Bool := match m with | .call f _ => us.contains f | _ => false
/-- Is it a read that is named as one of what the region makes? (3000000 and its place.) -/
def late (us : List Nat) (mos : List MO) (i : Nat) : Bool := match mos[i]? with | some q => (match q.d with | some d => us.contains (3000000 + d) | none => false) | none => false
def kindAt (us : List Nat) (an : List Nat) (mos : List MO) (i : Nat) (m : M) : Kn :=
  if m.isP then .p else if m.isL then (if srcF mos m || late us mos i then .r else .l) else if m.isF then .f
  else if (List.range mos.length).all fun j => j == i || (match mos[j]? with | some q => q.m.isP | none => true) || ordered an i j then .m
  else if m.isW || callsW us m then .w
  else if callsOf us m then .u
  else if m.isC && (List.range mos.length).all fun j => j == i || (match mos[j]? with | some q => q.m.isP || q.m.isL || (q.m.isF && decide (i < j)) | none => true) || ordered an i j then .g
  else .c
def drawOk (P : Program) (ops : Array Oper) (an : List Nat) (xs : List DO) : Bool :=
  xs.length == ops.size && (List.range ops.size).all fun i =>
    match ops[i]?, xs[i]? with
    | some o, some x => fits P x.k x.mo.m && o.after.toList.all (fun e => decide (e.on < i) || !Region.binds .any e) && (List.range i).all fun j =>
        (an.getD i 0).testBit j || (match xs[j]? with | some y => okPair y x | none => false)
    | _, _ => false
def compDraw (P : Program) (us : List Nat) (n : Nat) (ops : Array Oper) : Option (List DO) :=
  ((List.range ops.size).mapM (compAt P n ops)).bind fun mos =>
    let an := ancL ops ops.size
    let xs := mos.zipIdx.map fun p => (⟨p.1, kindAt us an mos p.2 p.1.m⟩ : DO)
    if drawOk P ops an xs = true then some xs else none
/-- What is left of a list of operations. -/
def left (listed : Array Bool) (N : Nat) : List Nat := (List.range N).filter fun i => !listed.getD i true
theorem mapM_get {α β : Type} {f : α → Option β} : ∀ (l : List α) (r : List β), l.mapM f = some r → ∀ (i : Nat) (a : α), l[i]? = some a → ∃ b, r[i]? = some b ∧ f a = some b
  | [], r, _, i, a, h => by simp at h
  | x :: l, r, hm, i, a, h => by
    simp only [List.mapM_cons, Option.bind_eq_bind, Option.bind_eq_some_iff, Option.pure_def, Option.some.injEq] at hm
    obtain ⟨b, hb, r', hr, rfl⟩ := hm
    cases i with
    | zero => simp only [List.getElem?_cons_zero, Option.some.injEq] at h; subst h; exact ⟨b, rfl, hb⟩
    | succ i => simp only [List.getElem?_cons_succ] at h ⊢; exact mapM_get l r' hr i a h
theorem mem_left {listed : Array Bool} {N i : Nat} : i ∈ left listed N ↔ i < N ∧ listed.getD i true = false := by
  simp [left, List.mem_filter]
/-- The least of what is left, taken out. -/
theorem left_split {listed : Array Bool} {N i : Nat} (hN : listed.size = N) (hi : i ∈ left listed N) : ∃ A B, left listed N = A ++ i :: B ∧ left (listed.setIfInBounds i true) N = A ++ B ∧ (∀ a ∈ A, a < i ∧ listed.getD a true = false) := by
  obtain ⟨hlt, hl⟩ := mem_left.1 hi
  have hr : List.range N = List.range i ++ i :: (List.range (N - i - 1)).map (fun j => i + 1 + j) := by
    conv => lhs; rw [show N = i + ((N - i - 1) + 1) by omega]
    rw [List.range_add, List.range_succ_eq_map]
    simp [Function.comp_def, Nat.add_assoc, Nat.add_comm 1]
  have hne : ∀ j, j ≠ i → (listed.setIfInBounds i true).getD j true = listed.getD j true := fun j hj => by
    simp only [Array.getD_eq_getD_getElem?, Array.getElem?_setIfInBounds, if_neg (Ne.symm hj)]
  have heq : (listed.setIfInBounds i true).getD i true = true := by
    simp only [Array.getD_eq_getD_getElem?, Array.getElem?_setIfInBounds, if_true]
    split <;> rfl
  refine ⟨(List.range i).filter fun j => !listed.getD j true, ((List.range (N - i - 1)).map (fun j => i + 1 + j)).filter fun j => !listed.getD j true, ?_, ?_, fun a ha => ?_⟩
  · unfold left; rw [hr, List.filter_append, List.filter_cons, hl]; rfl
  · unfold left; rw [hr, List.filter_append, List.filter_cons, heq]
    simp only [Bool.not_true, Bool.false_eq_true, if_false]
    congr 1
    · exact List.filter_congr fun j hj => by rw [hne j (by have := List.mem_range.1 hj; omega)]
    · exact List.filter_congr fun j hj => by
        obtain ⟨k, _, rfl⟩ := List.mem_map.1 hj
        rw [hne _ (by omega)]
  · simp only [List.mem_filter, List.mem_range, Bool.not_eq_true'] at ha; exact ha
theorem draw_any {n : Nat} {ops : Array Oper} {xs : List DO} (hm : (List.range ops.size).mapM (compAt P n ops) = some (xs.map (·.mo))) (hok : drawOk P ops (ancL ops ops.size) xs = true) {K : Sl → Hp → Hp → Prop} {Q : Exit → Act → World → Prop} :
    ∀ (fuel : Nat) (listed : Array Bool), listed.size = ops.size → (left listed ops.size).length = fuel → Closed ops listed → ∀ {a : Act} {s : Sl} {σ₀ σ : Hp} {w : World}, Rel n a s → Sat σ w → Sub σ₀ σ →
    dmops P ((left listed ops.size).map fun i => xs.getD i ⟨⟨none, .mv (.tmp 0), none⟩, .p⟩) K s σ₀ σ →
    (∀ a' s' σ₀' σ' w', Rel n a' s' → Sat σ' w' → (∀ w0 σ1, Fr w0 w σ1 σ → Fr w0 w' σ1 σ') → K s' σ₀' σ' → Q .normal a' w') → wpAny P .any ops Q fuel listed a w := by
  have hlen : xs.length = ops.size := by simp only [drawOk, Bool.and_eq_true, beq_iff_eq] at hok; exact hok.1
  have hall : ∀ i o, ops[i]? = some o → ∃ x, xs[i]? = some x ∧ compOp P n ops o = some x.mo ∧ fits P x.k x.mo.m = true ∧ (∀ e ∈ o.after.toList, e.on < i ∨ Region.binds .any e = false) ∧
      (∀ j, j < i → ((ancL ops ops.size).getD i 0).testBit j = true ∨ ∃ y, xs[j]? = some y ∧ okPair y x = true) := fun i o ho => by
    have hi : i < ops.size := (Array.getElem?_eq_some_iff.1 ho).1
    obtain ⟨mo, h1, h2⟩ := mapM_get _ _ hm i i (by simp [hi])
    simp only [drawOk, Bool.and_eq_true] at hok
    have h3 := List.all_eq_true.1 hok.2 i (List.mem_range.2 hi)
    rw [ho] at h3
    have hx : ∃ x, xs[i]? = some x := ⟨xs[i], List.getElem?_eq_getElem (by omega)⟩
    obtain ⟨x, hx⟩ := hx
    rw [hx] at h3
    simp only [Bool.and_eq_true, List.all_eq_true, Bool.or_eq_true, decide_eq_true_eq, Bool.not_eq_true', List.mem_range] at h3
    rw [List.getElem?_map, hx] at h1
    simp only [Option.map_some, Option.some.injEq] at h1
    refine ⟨x, hx, ?_, h3.1.1, h3.1.2, fun j hj => (h3.2 j hj).imp id fun h => ?_⟩
    · simp only [compAt, ho, Option.bind_some] at h2; rw [h2, h1]
    · cases hy : xs[j]? with
      | none => rw [hy] at h; cases h
      | some y => rw [hy] at h; exact ⟨y, rfl, h⟩
  intro fuel
  induction fuel with
  | zero =>
    intro listed hsz hf hc a s σ₀ σ w hr hs hsub h hq
    have hnil : left listed ops.size = [] := List.eq_nil_of_length_eq_zero hf
    rw [hnil] at h
    refine ⟨?_, hq _ _ _ _ _ hr hs (fun _ _ h => h) h⟩
    refine List.filter_eq_nil_iff.2 fun i hi hrdy => ?_
    simp only [Bool.and_eq_true] at hrdy
    have : i ∈ left listed ops.size := mem_left.2 ⟨List.mem_range.1 hi, by simpa using hrdy.1⟩
    rw [hnil] at this; cases this
  | succ fuel ih =>
    intro listed hsz hf hc a s σ₀ σ w hr hs hsub h hq
    refine ⟨fun hnone => ?_, fun i hi => ?_⟩
    · -- something is left, so something is ready
      exfalso
      cases hl : left listed ops.size with
      | nil => rw [hl] at hf; cases hf
      | cons i L =>
        have hi : i ∈ left listed ops.size := by rw [hl]; simp
        obtain ⟨hlt, hul⟩ := mem_left.1 hi
        have ho : ops[i]? = some ops[i] := Array.getElem?_eq_getElem hlt
        obtain ⟨x, _, _, _, hpre, _⟩ := hall i _ ho
        have hin : i ∈ Region.ready .any ops listed := by
          refine List.mem_filter.2 ⟨List.mem_range.2 hlt, ?_⟩
          simp only [hul, ho, Option.map_some, Option.getD_some, Bool.not_false, Bool.true_and]
          rw [← Array.all_toList]
          refine List.all_eq_true.2 fun e he => ?_
          rcases hpre e he with h1 | h1
          · have hel : listed.getD e.on true = true := by
              cases hh : listed.getD e.on true with
              | true => rfl
              | false =>
                obtain ⟨A, B, hAB, _, hA⟩ := left_split hsz hi
                rw [hl] at hAB
                cases A with
                | nil =>
                  have hm : e.on ∈ left listed ops.size := mem_left.2 ⟨by omega, hh⟩
                  have hpw : (left listed ops.size).Pairwise (· < ·) := List.Pairwise.filter _ List.pairwise_lt_range
                  rw [hl] at hm hpw
                  rcases List.mem_cons.1 hm with h2 | h2
                  · omega
                  · have := (List.pairwise_cons.1 hpw).1 _ h2; omega
                | cons b A =>
                  simp only [List.cons_append, List.cons.injEq] at hAB
                  have := hA b (by simp)
                  omega
            have hlt2 : e.on < listed.size := by rw [hsz]; omega
            have : listed.getD e.on false = true := by
              rw [Array.getD_eq_getD_getElem?, Array.getElem?_eq_getElem hlt2] at hel ⊢; exact hel
            rw [this]; simp
          · rw [h1]; rfl
        rw [hnone] at hin; cases hin
    · obtain ⟨hir, hrdy⟩ := List.mem_filter.1 hi
      simp only [Bool.and_eq_true] at hrdy
      have hlt := List.mem_range.1 hir
      have ho : ops[i]? = some ops[i] := Array.getElem?_eq_getElem hlt
      have hil : i ∈ left listed ops.size := mem_left.2 ⟨hlt, by simpa using hrdy.1⟩
      have hpre : Preds ops listed i := fun o ho' e he hb => by
        have h2 := hrdy.2
        rw [ho'] at h2
        simp only [Option.map_some, Option.getD_some] at h2
        rw [← Array.all_toList] at h2
        have := List.all_eq_true.1 h2 e he
        rw [hb] at this; simpa using this
      obtain ⟨A, B, hAB, hAB', hA⟩ := left_split hsz hil
      obtain ⟨x, hx, hcx, hfx, _, hpairs⟩ := hall i _ ho
      have hxd : xs.getD i ⟨⟨none, .mv (.tmp 0), none⟩, .p⟩ = x := by rw [List.getD_eq_getElem?_getD, hx]; rfl
      rw [hAB, List.map_append, List.map_cons, hxd] at h
      have hpair : ∀ y ∈ A.map (fun i => xs.getD i ⟨⟨none, .mv (.tmp 0), none⟩, .p⟩), okPair y x = true ∧ fits P y.k y.mo.m = true := fun y hy => by
        obtain ⟨j, hj, rfl⟩ := List.mem_map.1 hy
        obtain ⟨hji, hjl⟩ := hA j hj
        have hoj : ops[j]? = some ops[j] := Array.getElem?_eq_getElem (by omega)
        obtain ⟨y, hy, _, hfy, _, _⟩ := hall j _ hoj
        have hyd : xs.getD j ⟨⟨none, .mv (.tmp 0), none⟩, .p⟩ = y := by rw [List.getD_eq_getElem?_getD, hy]; rfl
        rw [hyd]
        refine ⟨?_, hfy⟩
        rcases hpairs j hji with hb | ⟨y', hy', hok'⟩
        · have := anc_listed hc ops.size i hlt hb hpre
          have hlt2 : j < listed.size := by omega
          rw [Array.getD_eq_getD_getElem?, Array.getElem?_eq_getElem hlt2] at this hjl
          simp only [Option.getD_some] at this hjl
          rw [this] at hjl; cases hjl
        · rw [hy] at hy'; cases hy'; exact hok'
      have hfront := to_front (P := P) (x := x) (K := K) _ _ (fun y hy => (hpair y hy).1) (fun y hy => (hpair y hy).2) hfx hs.satb hsub h
      have hc' : Closed ops (listed.setIfInBounds i true) := fun k hk o ho' e he hb => by
        have hmono : ∀ k, listed.getD k false = true → (listed.setIfInBounds i true).getD k false = true := fun k hk => by
          rw [Array.getD_eq_getD_getElem?, Array.getElem?_setIfInBounds]
          split
          · split
            · rfl
            · rename_i h1 h2; rw [← h1, Array.getD_eq_getD_getElem?, Array.getElem?_eq_none (by omega)] at hk; cases hk
          · rw [← Array.getD_eq_getD_getElem?]; exact hk
        by_cases e' : k = i
        · subst e'; exact hmono _ (hpre o ho' e he hb)
        · rw [Array.getD_eq_getD_getElem?, Array.getElem?_setIfInBounds, if_neg (Ne.symm e'), ← Array.getD_eq_getD_getElem?] at hk
          exact hmono _ (hc k hk o ho' e he hb)
      have hrest : ∀ {a' : Act} {s' : Sl} {σ₀' σ' : Hp} {w' : World}, Rel n a' s' → Sat σ' w' → Sub σ₀' σ' → (∀ w0 σ1, Fr w0 w σ1 σ → Fr w0 w' σ1 σ') → dmops P (A.map (fun i => xs.getD i ⟨⟨none, .mv (.tmp 0), none⟩, .p⟩) ++ B.map (fun i => xs.getD i ⟨⟨none, .mv (.tmp 0), none⟩, .p⟩)) K s' σ₀' σ' →
          wpAny P .any ops Q fuel (listed.setIfInBounds i true) a' w' := fun {a' s' σ₀' σ' w'} h1 h2 h3 h4 h5 => by
        refine ih _ (by simpa using hsz) ?_ hc' h1 h2 h3 (by rw [hAB', List.map_append]; exact h5) fun a'' s'' σ₀'' σ'' w'' k1 k2 k3 k4 => hq _ _ _ _ _ k1 k2 (fun w0 σ1 h0 => k3 _ _ (h4 _ _ h0)) k4
        rw [hAB] at hf; rw [hAB']
        simp only [List.length_append, List.length_cons] at hf ⊢; omega
      obtain ⟨hcm, hd, hin⟩ := compOp_parts hcx
      unfold wpOp
      simp only [ho]
      rw [gd_wanted hcx hr]
      unfold dm1 dmv at hfront
      split
      · rename_i hg
        rw [if_pos hg] at hfront
        refine .inl (mop_sound hcm hin hr hs (dm_mop hfx hsub hfront) fun v σ' w' hK hs' hf' => ?_)
        obtain ⟨σ₀', hsub', hK⟩ := hK
        rw [hd] at hK
        exact hrest (hr.put _ _) hs' hsub' hf' hK
      · rename_i hg
        rw [if_neg hg] at hfront
        rw [hd] at hfront
        exact hrest (hr.put _ _) hs hsub (fun _ _ h => h) hfront
theorem left_all (N : Nat) : left (Array.replicate N false) N = List.range N := by
  unfold left
  refine List.filter_eq_self.2 fun i hi => ?_
  have := List.mem_range.1 hi
  simp [Array.getD_eq_getD_getElem?, Array.getElem?_replicate, this]
theorem range_getD {α : Type} (xs : List α) (d : α) (N : Nat) (h : xs.length = N) : ((List.range N).map fun i => xs.getD i d) = xs := by
  subst h
  apply List.ext_getElem?
  intro i
  by_cases hi : i < xs.length
  · rw [List.getElem?_map, List.getElem?_range hi]
    simp only [Option.map_some, List.getD_eq_getElem?_getD, List.getElem?_eq_getElem hi, Option.getD_some]
  · rw [List.getElem?_eq_none (by simpa using hi), List.getElem?_eq_none (by simpa using hi)]
theorem draw_sound {us : List Nat} {n id : Nat} {ops : Array Oper} {xs : List DO} (hmix : P.follows .mixedOrders = true) (hc : compDraw P us n ops = some xs) {K : Sl → Hp → Hp → Prop} {Q : Exit → Act → World → Prop}
    {a : Act} {s : Sl} {σ₀ σ : Hp} {w : World} (hr : Rel n a s) (hs : Sat σ w) (h0 : Sub σ₀ σ) (h : dmops P xs K s σ₀ σ)
    (hq : ∀ a' s' σ₀' σ' w', Rel n a' s' → Sat σ' w' → (∀ w0 σ1, Fr w0 w σ1 σ → Fr w0 w' σ1 σ') → K s' σ₀' σ' → Q .normal a' w') : (Code.region id ops true).wp P Q a w := by
  simp only [compDraw, Option.bind_eq_some_iff] at hc
  obtain ⟨mos, hm, hc⟩ := hc
  split at hc
  · rename_i hok
    cases hc
    have hmap : (mos.zipIdx.map fun p => (⟨p.1, kindAt us (ancL ops ops.size) mos p.2 p.1.m⟩ : DO)).map (·.mo) = mos := by
      rw [List.map_map]
      exact (List.map_congr_left (fun _ _ => rfl)).trans (List.zipIdx_map_fst 0 mos)
    have hlen : (mos.zipIdx.map fun p => (⟨p.1, kindAt us (ancL ops ops.size) mos p.2 p.1.m⟩ : DO)).length = ops.size := by
      simp only [drawOk, Bool.and_eq_true, beq_iff_eq] at hok; exact hok.1
    refine wp_region_any hmix (draw_any (n := n) (K := K) (hm.trans (by rw [hmap])) hok ops.size _ (by simp) (by rw [left_all]; simp) ?_ hr (hs.drew _) h0 ?_ fun a' s' σ₀' σ' w' h1 h2 h3 h4 => hq _ _ _ _ _ h1 h2 (fun w0 σ1 h0 => h3 _ _ (h0.drew _)) h4)
    · intro i hi
      rw [Array.getD_eq_getD_getElem?, Array.getElem?_replicate] at hi
      split at hi <;> cases hi
    · rw [left_all, range_getD _ _ _ hlen]; exact h
  · cases hc
end Go.Sp

-- SpC
namespace Go.Sp
open Go.RowKit
set_option linter.unusedSimpArgs false
set_option linter.unusedVariables false
def mops (P : Program) : List MO → (Sl → Hp → Prop) → Sl → Hp → Prop
  | [], K, s, σ => K s σ
  | o :: os, K, s, σ => if gd o.g s = true then mop P o.m (fun v σ' => mops P os K (putO s o.d v) σ') s σ else mops P os K (putO s o.d undef) σ
inductive C where
  | skip
  | reg (mos : List MO)
  | draw (xs : List DO)
  | drawx (xs : List DO)
  | seq (a b : C)
  | cond (x : Operand) (a b : C)
  | block (id : Nat) (c : C)
  | loop (c : C)
  | exit (id : Nat)
  | ret
def thn (K : Sl → Hp → Prop) (Q : Exit → Sl → Hp → Prop) : Exit → Sl → Hp → Prop
  | .normal => K
  | e => Q e
def inBlk (id : Nat) (Q : Exit → Sl → Hp → Prop) : Exit → Sl → Hp → Prop
  | .exit id' => if id' = id then Q .normal else Q (.exit id')
  | e => Q e
def mcode (P : Program) : C → (Exit → Sl → Hp → Prop) → Sl → Hp → Prop
  | .skip, Q, s, σ => Q .normal s σ
  | .reg mos, Q, s, σ => mops P mos (Q .normal) s σ
  | .draw xs, Q, s, σ => dmops P xs (fun s _ σ => Q .normal s σ) s σ σ
  | .drawx xs, Q, s, σ => ∃ σ₀, Sub σ₀ σ ∧ dmops P xs (fun s _ σ => Q .normal s σ) s σ₀ σ
  | .seq a b, Q, s, σ => mcode P a (thn (mcode P b Q) Q) s σ
  | .cond x a b, Q, s, σ => ∃ t, ev s x = .bool t ∧ if t = true then mcode P a Q s σ else mcode P b Q s σ
  | .block id c, Q, s, σ => mcode P c (inBlk id Q) s σ
  | .loop c, Q, s, σ => ∃ (J : Nat → Sl → Hp → Prop) (k : Nat), (∃ σ₁, Sub σ₁ σ ∧ J k s σ₁) ∧ ∀ k s' σ', J k s' σ' → mcode P c (thn (fun s'' σ'' => ∃ k', k' < k ∧ ∃ σ₁, Sub σ₁ σ'' ∧ J k' s'' σ₁) Q) s' σ'
  | .exit id, Q, s, σ => Q (.exit id) s σ
  | .ret, Q, s, σ => Q .ret s σ
def compC (P : Program) (us : List Nat) (n : Nat) : Code → Option C
  | .skip => some .skip
  | .region _ ops draw => if draw then (compDraw P us n ops).map (if us.contains 999999 then .drawx else .draw) else ((List.range ops.size).mapM (compAt P n ops)).map .reg
  | .seq a b => (compC P us n a).bind fun a => (compC P us n b).map fun b => .seq a b
  | .cond x a b => if inR n x then (compC P us n a).bind fun a => (compC P us n b).map fun b => .cond x a b else none
  | .block id c => (compC P us n c).map (.block id)
  | .loop c => (compC P us n c).map .loop
  | .exit id => some (.exit id)
  | .ret => some .ret
  | .label _ => some .skip
  | _ => none
variable {P : Program}
def Post (n : Nat) (w : World) (σ : Hp) (Q : Exit → Sl → Hp → Prop) : Exit → Act → World → Prop := fun e a' w' =>
  ∃ s' σ', Rel n a' s' ∧ Sat σ' w' ∧ (∀ w0 σ0, Fr w0 w σ0 σ → Fr w0 w' σ0 σ') ∧ Q e s' σ'
theorem mops_sound {n : Nat} {ops : Array Oper} : ∀ (l : List Nat) (mos : List MO), l.mapM (compAt P n ops) = some mos → ∀ {a : Act} {s : Sl} {σ : Hp} {w : World}, Rel n a s → Sat σ w → ∀ {K : Sl → Hp → Prop}, mops P mos K s σ →
    ∀ {Q : Exit → Act → World → Prop}, (∀ a' s' σ' w', Rel n a' s' → Sat σ' w' → (∀ w0 σ0, Fr w0 w σ0 σ → Fr w0 w' σ0 σ') → K s' σ' → Q .normal a' w') → wpOps P ops Q l a w := by
  intro l
  induction l with
  | nil =>
    intro mos hm a s σ w hr hs K h Q hq
    simp only [List.mapM_nil, Option.pure_def, Option.some.injEq] at hm
    subst hm
    exact hq _ _ _ _ hr hs (fun _ _ h => h) h
  | cons i l ih =>
    intro mos hm a s σ w hr hs K h Q hq
    simp only [List.mapM_cons, Option.bind_eq_bind, Option.bind_eq_some_iff, Option.pure_def, Option.some.injEq] at hm
    obtain ⟨mo, hmo, mos', hmos', rfl⟩ := hm
    simp only [compAt, Option.bind_eq_some_iff] at hmo
    obtain ⟨o, ho, hmo⟩ := hmo
    obtain ⟨hc, hd, hin⟩ := compOp_parts hmo
    simp only [wpOps, ho]
    rw [gd_wanted hmo hr]
    unfold mops at h
    split
    · rename_i hg
      rw [if_pos hg] at h
      refine .inl (mop_sound hc hin hr hs h fun v σ' w' hK hs' hf => ?_)
      rw [hd] at hK
      exact ih mos' hmos' (hr.put _ _) hs' hK fun a' s' σ'' w'' hr' hs'' hf' hK' => hq _ _ _ _ hr' hs'' (fun w0 σ0 h0 => hf' _ _ (hf _ _ h0)) hK'
    · rename_i hg
      rw [if_neg hg] at h
      rw [hd] at h
      exact ih mos' hmos' (hr.put _ _) hs h hq
theorem mcode_sound {us : List Nat} {n : Nat} (hmix : P.follows .mixedOrders = true) : ∀ (c : Code) (m : C), compC P us n c = some m → ∀ {a : Act} {s : Sl} {σ : Hp} {w : World}, Rel n a s → Sat σ w → ∀ {Q : Exit → Sl → Hp → Prop}, mcode P m Q s σ → c.wp P (Post n w σ Q) a w := by
  intro c
  induction c with
  | skip =>
    intro m hm a s σ w hr hs Q h
    cases hm
    exact wp_skip ⟨s, σ, hr, hs, fun _ _ h => h, h⟩
  | label l =>
    intro m hm a s σ w hr hs Q h
    cases hm
    exact wp_label ⟨s, σ, hr, hs, fun _ _ h => h, h⟩
  | exit id =>
    intro m hm a s σ w hr hs Q h
    cases hm
    exact wp_exit ⟨s, σ, hr, hs, fun _ _ h => h, h⟩
  | ret =>
    intro m hm a s σ w hr hs Q h
    cases hm
    exact wp_ret ⟨s, σ, hr, hs, fun _ _ h => h, h⟩
  | region id ops draw =>
    intro m hm a s σ w hr hs Q h
    simp only [compC] at hm
    split at hm
    · rename_i hd
      simp only [Option.map_eq_some_iff] at hm
      obtain ⟨xs, hxs, hm⟩ := hm
      have hd : draw = true := hd
      subst hd
      split at hm
      · subst hm
        obtain ⟨σ₀, h0, h⟩ := h
        exact draw_sound hmix hxs hr hs h0 h fun a' s' σ₀' σ' w' h1 h2 h3 h4 => ⟨s', σ', h1, h2, h3, h4⟩
      · subst hm
        exact draw_sound hmix hxs hr hs (Sub.refl σ) h fun a' s' σ₀' σ' w' h1 h2 h3 h4 => ⟨s', σ', h1, h2, h3, h4⟩
    · rename_i hd
      simp only [Option.map_eq_some_iff] at hm
      obtain ⟨mos, hmos, rfl⟩ := hm
      have hd : draw = false := by simpa using hd
      subst hd
      exact wp_region (mops_sound _ _ hmos hr hs h fun a' s' σ' w' h1 h2 h3 h4 => ⟨s', σ', h1, h2, h3, h4⟩)
  | seq x y ihx ihy =>
    intro m hm a s σ w hr hs Q h
    simp only [compC, Option.bind_eq_some_iff, Option.map_eq_some_iff] at hm
    obtain ⟨mx, hx, my, hy, rfl⟩ := hm
    refine wp_seq (wp_mono (ihx mx hx hr hs h) ?_)
    rintro e a' w' ⟨s', σ', h1, h2, h3, h4⟩
    cases e with
    | normal =>
      refine wp_mono (ihy my hy h1 h2 h4) ?_
      rintro e a'' w'' ⟨s'', σ'', k1, k2, k3, k4⟩
      exact ⟨s'', σ'', k1, k2, fun w0 σ0 h0 => k3 _ _ (h3 _ _ h0), k4⟩
    | _ => exact ⟨s', σ', h1, h2, h3, h4⟩
  | cond x y z ihy ihz =>
    intro m hm a s σ w hr hs Q h
    simp only [compC] at hm
    split at hm
    · rename_i hin
      simp only [Option.bind_eq_some_iff, Option.map_eq_some_iff] at hm
      obtain ⟨my, hy, mz, hz, rfl⟩ := hm
      obtain ⟨t, ht, h⟩ := h
      refine wp_cond (t := t) ((hr.ev hin).trans ht) ?_
      split
      · rename_i e; rw [if_pos e] at h; exact ihy my hy hr hs h
      · rename_i e; rw [if_neg e] at h; exact ihz mz hz hr hs h
    · cases hm
  | block id c ih =>
    intro m hm a s σ w hr hs Q h
    simp only [compC, Option.map_eq_some_iff] at hm
    obtain ⟨mc, hc, rfl⟩ := hm
    refine wp_block (wp_mono (ih mc hc hr hs h) ?_)
    rintro e a' w' ⟨s', σ', h1, h2, h3, h4⟩
    cases e with
    | exit id' =>
      by_cases e : id' = id
      · subst e; simp only [inBlk, if_true] at h4; simp only [Exit.inBlock, if_true]; exact ⟨s', σ', h1, h2, h3, h4⟩
      · simp only [inBlk, if_neg e] at h4; simp only [Exit.inBlock, if_neg e]; exact ⟨s', σ', h1, h2, h3, h4⟩
    | _ => exact ⟨s', σ', h1, h2, h3, h4⟩
  | loop c ih =>
    intro m hm a s σ w hr hs Q h
    simp only [compC, Option.map_eq_some_iff] at hm
    obtain ⟨mc, hc, rfl⟩ := hm
    obtain ⟨J, k, ⟨σ₁, hs1, h0⟩, hround⟩ := h
    refine wp_loop_ghost (fun n' a' w' => ∃ s' σ', Rel n a' s' ∧ Sat σ' w' ∧ (∀ w0 σ0, Fr w0 w σ0 σ → Fr w0 w' σ0 σ') ∧ J n' s' σ') k ⟨s, σ₁, hr, hs.sub hs1, fun _ _ h => h.sub hs1, h0⟩ ?_
    rintro n' a' w' ⟨s', σ', h1, h2, h3, h4⟩
    refine wp_mono (ih mc hc h1 h2 (hround n' s' σ' h4)) ?_
    rintro e a'' w'' ⟨s'', σ'', k1, k2, k3, k4⟩
    cases e with
    | normal =>
      obtain ⟨n'', hlt, σ₃, hs3, hJ⟩ := k4
      exact ⟨n'', hlt, s'', σ₃, k1, k2.sub hs3, fun w0 σ0 h0 => (k3 _ _ (h3 _ _ h0)).sub hs3, hJ⟩
    | _ => exact ⟨s'', σ'', k1, k2, fun w0 σ0 h0 => k3 _ _ (h3 _ _ h0), k4⟩
  | _ => intro m hm; cases hm
/-- The results, as they stand in slots and cells. -/
inductive RV where
  | tmp (t : Nat)
  | one (a : Nat)
  | agg (a sz : Nat)
def compRV (P : Program) (n : Nat) : ResultVar → Option RV
  | .tmp t => if t < n then some (.tmp t) else none
  | .cell a t =>
    if a < n then
      match P.underlying t with
      | some (.array _ _) => (P.info? t).map fun i => .agg a i.size
      | _ =>
        match P.underlying t, P.info? t with
        | some (.struct _), some i => some (.agg a i.size)
        | some (.array _ _), _ => none
        | some _, _ => some (.one a)
        | none, _ => none
    else none
def rval (s : Sl) (σ : Hp) : RV → Option Value
  | .tmp t => some (s t)
  | .one a => match s a with | .pointer (some ⟨b, off, none⟩) => rd σ b off | _ => none
  | .agg a sz => match s a with | .pointer (some ⟨b, off, none⟩) => (rdn σ b off sz).map fun vs => .agg vs.toArray | _ => none
def rvals (s : Sl) (σ : Hp) : List RV → Option (List Value)
  | [] => some []
  | r :: rs => (rval s σ r).bind fun v => (rvals s σ rs).map fun vs => v :: vs
def whole : List Value → Value
  | [v] => v
  | vs => .tuple vs.toArray
end Go.Sp

-- SpD
namespace Go.Sp
open Go.RowKit
set_option linter.unusedSimpArgs false
set_option linter.unusedVariables false
variable {P : Program}
def resOf (tmps : Array Value) : ResultVar → Sem Value
  | .tmp t => pure (tmps.getD t undef)
  | .cell a t => do loadVar t (← asAddr (tmps.getD a undef))
theorem results_eq (fn : Func) (tmps : Array Value) : results fn tmps = (do let vs ← fn.results.mapM (resOf tmps); pure (if h : vs.size = 1 then vs[0] else .tuple vs)) := rfl
theorem rval_run {n : Nat} {a : Act} {s : Sl} {σ : Hp} {w : World} (hr : Rel n a s) (hs : Sat σ w) {r : ResultVar} {rv : RV} (hc : compRV P n r = some rv) {v : Value} (hv : rval s σ rv = some v) : (resOf a.tmps r).run P w = .ok v w := by
  cases r with
  | tmp t =>
    simp only [compRV] at hc
    split at hc
    · rename_i ht
      cases hc
      simp only [rval, Option.some.injEq] at hv
      subst hv
      simp only [resOf, Sem.run_pure, hr.2.2 t ht]
    · cases hc
  | cell ad t =>
    simp only [compRV] at hc
    split at hc
    · rename_i ht
      have hsa := hr.2.2 ad ht
      split at hc
      · rename_i m e hu
        simp only [Option.map_eq_some_iff] at hc
        obtain ⟨i, hi, rfl⟩ := hc
        simp only [rval] at hv
        split at hv
        · rename_i b off hp
          simp only [Option.map_eq_some_iff] at hv
          obtain ⟨vs, hvs, rfl⟩ := hv
          obtain ⟨hl, hg⟩ := rdn_cells hs hvs
          simp only [resOf, hsa, hp, asAddr, Sem.run_bind, Sem.run_pure, Result.andThen_ok, loadVar_arr hu hi hl hg]
        · cases hv
      · split at hc
        · rename_i fs i hu hi
          cases hc
          simp only [rval] at hv
          split at hv
          · rename_i b off hp
            simp only [Option.map_eq_some_iff] at hv
            obtain ⟨vs, hvs, rfl⟩ := hv
            obtain ⟨hl, hg⟩ := rdn_cells hs hvs
            simp only [resOf, hsa, hp, asAddr, Sem.run_bind, Sem.run_pure, Result.andThen_ok, loadVar_agg hu hi hl hg]
          · cases hv
        · cases hc
        · rename_i d hn2 hu hn1
          cases hc
          simp only [rval] at hv
          split at hv
          · rename_i b off hp
            have := loadVar_one (P := P) hu (fun fs e => by subst e; cases hh : P.info? t with
              | none => rw [Program.underlying, hh] at hu; cases hu
              | some i => exact hn1 fs i hh rfl) (fun m e ee => hn2 m e ee) (rd_cell hs hv)
            simp only [resOf, hsa, hp, asAddr, Sem.run_bind, Sem.run_pure, Result.andThen_ok, this]
          · cases hv
        · cases hc
    · cases hc
theorem rvals_run {n : Nat} {a : Act} {s : Sl} {σ : Hp} {w : World} (hr : Rel n a s) (hs : Sat σ w) : ∀ (rs : List ResultVar) (rvs : List RV), rs.mapM (compRV P n) = some rvs → ∀ vs, rvals s σ rvs = some vs → (rs.mapM (resOf a.tmps)).run P w = .ok vs w := by
  intro rs
  induction rs with
  | nil =>
    intro rvs h vs hv
    simp only [List.mapM_nil, Option.pure_def, Option.some.injEq] at h
    subst h
    simp only [rvals, Option.some.injEq] at hv
    subst hv
    simp
  | cons r rs ih =>
    intro rvs h vs hv
    simp only [List.mapM_cons, Option.bind_eq_bind, Option.bind_eq_some_iff, Option.pure_def, Option.some.injEq] at h
    obtain ⟨rv, hrv, rvs', hrvs', rfl⟩ := h
    simp only [rvals, Option.bind_eq_some_iff, Option.map_eq_some_iff] at hv
    obtain ⟨v, hv, vs', hvs', rfl⟩ := hv
    simp only [List.mapM_cons, Sem.run_bind, rval_run hr hs hrv hv, Result.andThen_ok, ih rvs' hrvs' vs' hvs', Sem.run_pure]
def init (args : List Value) : Sl := fun i => args.getD i undef
/-- The end of a function: its results, and what is still known of the heap. -/
def fin (rvs : List RV) (R : Value → Hp → Prop) : Exit → Sl → Hp → Prop
  | .normal, s, σ => ∃ vs σ', rvals s σ rvs = some vs ∧ Sub σ' σ ∧ R (whole vs) σ'
  | .ret, s, σ => ∃ vs σ', rvals s σ rvs = some vs ∧ Sub σ' σ ∧ R (whole vs) σ'
  | _, _, _ => False
theorem whole_eq (vs : List Value) : (if h : vs.toArray.size = 1 then vs.toArray[0] else Value.tuple vs.toArray) = whole vs := by
  cases vs with
  | nil => rfl
  | cons v vs => cases vs with
    | nil => rfl
    | cons u vs => rfl
structure FnOk (P : Program) (f n : Nat) (m : C) (rvs : List RV) : Prop where
  ok : ∃ us fn c, P.funcs[f]? = some fn ∧ fn.body = some c ∧ fn.ntmps = n ∧ P.follows .mixedOrders = true ∧ compC P us n c = some m ∧ fn.results.toList.mapM (compRV P n) = some rvs
theorem acalls_of {f n : Nat} {m : C} {rvs : List RV} (hf : FnOk P f n m rvs) {args : List Value} {σ : Hp} {R : Value → Hp → Prop} (ha : args.length ≤ n) (h : mcode P m (fin rvs R) (init args) σ) : ACalls P f args.toArray σ R := by
  obtain ⟨us, fn, c, hfn, hb, rfl, hmix, hc, hrv⟩ := hf.ok
  intro w hs
  have hr : Rel fn.ntmps { tmps := args.toArray ++ Array.replicate (fn.ntmps - args.toArray.size) undef, defers := [] } (init args) := by
    refine ⟨by simp; omega, rfl, fun i hi => ?_⟩
    simp only [init, Array.getD_eq_getD_getElem?, List.getD_eq_getElem?_getD, Array.getElem?_append, List.getElem?_toArray, List.size_toArray]
    split
    · rfl
    · rename_i hlt
      rw [List.getElem?_eq_none (by omega)]
      simp only [Array.getElem?_replicate]
      split <;> rfl
  refine calls_of_wp hfn hb (wp_mono (mcode_sound hmix c m hc hr hs h) ?_)
  rintro e a' w' ⟨s', σ', h1, h2, h3, h4⟩
  have key : (∃ vs σ'', rvals s' σ' rvs = some vs ∧ Sub σ'' σ' ∧ R (whole vs) σ'') → a'.defers = [] ∧ ∃ v, (results fn a'.tmps).run P w' = .ok v w' ∧ ∃ v_1 σ'_1, Ending.returned v = .returned v_1 ∧ Sat σ'_1 w' ∧ Fr w w' σ σ'_1 ∧ R v_1 σ'_1 := by
    rintro ⟨vs, σ'', hvs, hsub, hR⟩
    refine ⟨h1.2.1, whole vs, ?_, whole vs, σ'', rfl, h2.sub hsub, (h3 _ _ (Fr.refl w σ)).sub hsub, hR⟩
    rw [results_eq, Sem.run_bind, Array.mapM_eq_mapM_toList]
    have := rvals_run h1 h2 fn.results.toList rvs hrv vs hvs
    have e : (List.toArray <$> (fn.results.toList.mapM (resOf a'.tmps))).run P w' = .ok vs.toArray w' := by simp [this]
    rw [e]
    exact congrArg (fun v => Result.ok v w') (whole_eq vs)
  cases e with
  | normal => exact key h4
  | ret => exact key h4
  | _ => exact h4.elim
end Go.Sp

-- SpE
namespace Go.Sp
open Go.RowKit
set_option linter.unusedSimpArgs false
set_option linter.unusedVariables false
/-- An equation whose proof is to be kept. -/
theorem nr {α : Sort _} {a b : α} (h : a = b) : a = b := h
theorem cl_int (k : IntKind) (n : Int) : cl (.int k n) = [.int k n] := nr rfl
theorem cl_bool (b : Bool) : cl (.bool b) = [.bool b] := nr rfl
theorem cl_string (s : ByteArray) : cl (.string s) = [.string s] := nr rfl
theorem cl_pointer (a : Option Addr) : cl (.pointer a) = [.pointer a] := nr rfl
theorem cl_slice (a : Option Addr) (n c : Nat) : cl (.slice a n c) = [.slice a n c] := nr rfl
theorem cl_agg (cs : List Value) : cl (.agg cs.toArray) = cs := nr rfl
theorem one_int (k : IntKind) (n : Int) : one (.int k n) = true := nr rfl
theorem one_bool (b : Bool) : one (.bool b) = true := nr rfl
theorem one_string (s : ByteArray) : one (.string s) = true := nr rfl
theorem one_pointer (a : Option Addr) : one (.pointer a) = true := nr rfl
theorem one_slice (a : Option Addr) (n c : Nat) : one (.slice a n c) = true := nr rfl
theorem init_zero (a : Value) (l : List Value) : init (a :: l) 0 = a := nr rfl
theorem init_succ (a : Value) (l : List Value) (i : Nat) : init (a :: l) (i + 1) = init l i := nr rfl
theorem ev_tmp (s : Sl) (t : Nat) : ev s (.tmp t) = s t := nr rfl
theorem ev_const (s : Sl) (v : Value) : ev s (.const v) = v := nr rfl
def gdv (v : Value) (want : Bool) : Bool := match v with | .bool b => b == want | _ => false
def onPtrO {α : Type} (v : Value) (k : Nat → Nat → Option α) : Option α := match v with | .pointer (some ⟨b, o, none⟩) => k b o | _ => none
theorem onPtrO_mk {α : Type} (b o : Nat) (k : Nat → Nat → Option α) : onPtrO (.pointer (some ⟨b, o, none⟩)) k = k b o := nr rfl
theorem gd_some (s : Sl) (d : Nat) (b : Bool) : gd (some (d, b)) s = gdv (s d) b := by unfold gd gdv; rfl
theorem rd_same (σ : Hp) (b off : Nat) (cs : List Value) (t : TypeId) : rd (upd σ b (.cells cs t)) b off = cs[off]? := by simp [rd, upd]
theorem rd_row (σ : Hp) (b off : Nat) (cs : List Value) (r : Nat) (t : TypeId) : rd (upd σ b (.row cs r t)) b off = cs[off]? := by simp [rd, upd]
theorem rd_ne (σ : Hp) {b c : Nat} (off : Nat) (o : Blk) (h : ¬ b = c) : rd (upd σ c o) b off = rd σ b off := by simp [rd, upd, h]
theorem rdn_same (σ : Hp) (b off n : Nat) (cs : List Value) (t : TypeId) : rdn (upd σ b (.cells cs t)) b off n = seg cs off n := by simp [rdn, upd]
theorem rdn_row (σ : Hp) (b off n : Nat) (cs : List Value) (r : Nat) (t : TypeId) : rdn (upd σ b (.row cs r t)) b off n = seg cs off n := by simp [rdn, upd]
theorem rdn_ne (σ : Hp) {b c : Nat} (off n : Nat) (o : Blk) (h : ¬ b = c) : rdn (upd σ c o) b off n = rdn σ b off n := by simp [rdn, upd, h]
theorem wr_same (σ : Hp) (b off : Nat) (cs vs : List Value) (t : TypeId) : wr (upd σ b (.cells cs t)) b off vs = if off + vs.length ≤ cs.length then some (upd σ b (.cells (splice cs off vs) t)) else none := by simp [wr, upd_same, upd_upd]
theorem wr_row (σ : Hp) (b off : Nat) (cs vs : List Value) (r : Nat) (t : TypeId) : wr (upd σ b (.row cs r t)) b off vs = if off + vs.length ≤ cs.length then some (upd σ b (.row (splice cs off vs) r t)) else none := by simp [wr, upd_same, upd_upd]
theorem wr_ne (σ : Hp) {b c : Nat} (off : Nat) (vs : List Value) (o : Blk) (h : ¬ b = c) : wr (upd σ c o) b off vs = (wr σ b off vs).map fun σ' => upd σ' c o := by
  unfold wr
  rw [upd_ne _ _ h]
  cases σ b with
  | none => rfl
  | some x =>
    cases x with
    | cells cs t => dsimp only; split <;> simp [upd_comm _ _ _ (Ne.symm h)]
    | row cs r t => dsimp only; split <;> simp [upd_comm _ _ _ (Ne.symm h)]
    | dead => rfl
    | ro x => rfl
    | mp l => rfl
    | im l => rfl
theorem none_upd (σ : Hp) (a b : Nat) (o : Blk) : (upd σ a o b = none) ↔ ((¬ b = a ∧ ¬ a = b) ∧ σ b = none) := by
  unfold upd
  by_cases h : b = a
  · simp [h]
  · simp only [h, if_false, not_false_eq_true, true_and]; exact ⟨fun k => ⟨fun e => h e.symm, k⟩, fun k => k.2⟩
theorem fin_normal (rvs : List RV) (R : Value → Hp → Prop) (s : Sl) (σ : Hp) : fin rvs R .normal s σ = onSome (rvals s σ rvs) fun vs => ∃ σ', Sub σ' σ ∧ R (whole vs) σ' := by
  unfold fin onSome
  cases h : rvals s σ rvs with
  | none => simp [h]
  | some vs => simp [h]
theorem fin_ret (rvs : List RV) (R : Value → Hp → Prop) (s : Sl) (σ : Hp) : fin rvs R .ret s σ = onSome (rvals s σ rvs) fun vs => ∃ σ', Sub σ' σ ∧ R (whole vs) σ' := by
  unfold fin onSome
  cases h : rvals s σ rvs with
  | none => simp [h]
  | some vs => simp [h]
theorem rval_tmp (s : Sl) (σ : Hp) (t : Nat) : rval s σ (.tmp t) = some (s t) := nr rfl
theorem rval_one (s : Sl) (σ : Hp) (a : Nat) : rval s σ (.one a) = onPtrO (s a) fun b off => rd σ b off := by unfold rval onPtrO; rfl
theorem rval_agg (s : Sl) (σ : Hp) (a n : Nat) : rval s σ (.agg a n) = onPtrO (s a) fun b off => (rdn σ b off n).map fun vs => .agg vs.toArray := by unfold rval onPtrO; rfl
theorem rvals_nil (s : Sl) (σ : Hp) : rvals s σ [] = some [] := nr rfl
theorem rvals_cons (s : Sl) (σ : Hp) (r : RV) (rs : List RV) : rvals s σ (r :: rs) = (rval s σ r).bind fun v => (rvals s σ rs).map fun vs => v :: vs := nr rfl
theorem whole_one (v : Value) : whole [v] = v := nr rfl
theorem whole_nil : whole [] = .tuple #[] := nr rfl
theorem whole_two (v u : Value) (vs : List Value) : whole (v :: u :: vs) = .tuple (v :: u :: vs).toArray := nr rfl
theorem Sub.drop {τ σ : Hp} {b : Nat} {o : Blk} (h : τ b = none) (k : Sub τ σ) : Sub τ (upd σ b o) := fun i => by
  by_cases e : i = b
  · subst e; exact .inl h
  · rw [upd_ne _ _ e]; exact k i
theorem Sub.both {τ σ : Hp} {b : Nat} {o : Blk} (k : Sub τ σ) : Sub (upd τ b o) (upd σ b o) := fun i => by
  by_cases e : i = b
  · subst e; right; simp [upd]
  · rw [upd_ne _ _ e, upd_ne _ _ e]; exact k i
end Go.Sp

-- SpG
namespace Go.Sp
open Go.RowKit
set_option linter.unusedSimpArgs false
set_option linter.unusedVariables false
variable {P : Program}
/-- A call by its contract. -/
theorem call_k {f : FuncId} {args : Array Value} {σ : Hp} {R K : Value → Hp → Prop} (h : ACalls P f args σ R) (hk : ∀ v σ', R v σ' → K v σ') : ∃ R, ACalls P f args σ R ∧ ∀ v σ', R v σ' → (∃ w, Sat σ' w) → K v σ' :=
  ⟨R, h, fun v σ' hr _ => hk v σ' hr⟩
/-- A block that the call does not know stays known. -/
theorem ACalls.beside {f : FuncId} {args : Array Value} {σ : Hp} {l : Nat} {Y : Blk} {R : Value → Hp → Prop} (hl : σ l = none) (h : ACalls P f args σ R) :
    ACalls P f args (upd σ l Y) fun v σ'' => ∃ σ', R v σ' ∧ σ' l = none ∧ σ'' = upd σ' l Y := fun w hs => by
  have hs0 : Sat σ w := fun b o hb => hs b o (by rw [upd_ne _ _ (fun e => by subst e; rw [hl] at hb; cases hb)]; exact hb)
  refine (h w hs0).mono ?_
  rintro e w' ⟨v, σ', he, h1, h2, h3⟩
  have hlt : l < w.heap.size := hs.lt (by rw [upd_same]; simp)
  have hn : σ' l = none := h2.know l hlt hl
  refine ⟨v, upd σ' l Y, he, fun b o hb => ?_, ⟨h2.os, h2.tape, h2.output, h2.size, fun k hk hkn => ?_, fun k hk hkn => ?_⟩, σ', h3, hn, rfl⟩
  · by_cases e : b = l
    · subst e
      rw [h2.block b hlt hl]
      rw [upd_same] at hb; cases hb
      exact hs b Y (upd_same _ _ _)
    · rw [upd_ne _ _ e] at hb; exact h1 b o hb
  · have : k ≠ l := fun e => by subst e; rw [upd_same] at hkn; cases hkn
    rw [upd_ne _ _ this] at hkn
    exact h2.block k hk hkn
  · have : k ≠ l := fun e => by subst e; rw [upd_same] at hkn; cases hkn
    rw [upd_ne _ _ this] at hkn ⊢
    exact h2.know k hk hkn
/-- A block overwritten. -/
def set (σ : Hp) (b : Nat) (o : Blk) : Hp := upd σ b o
theorem set_same (σ : Hp) (b : Nat) (o o' : Blk) : set (upd σ b o) b o' = upd σ b o' := upd_upd _ _ _ _
theorem set_ne (σ : Hp) {b c : Nat} (o o' : Blk) (h : ¬ b = c) : set (upd σ c o) b o' = upd (set σ b o') c o := (upd_comm _ _ _ (Ne.symm h))
theorem none_set (σ : Hp) (a b : Nat) (o : Blk) : (set σ a o b = none) ↔ ((¬ b = a ∧ ¬ a = b) ∧ σ b = none) := none_upd σ a b o
theorem evN : type_of% (And.intro @none_upd (And.intro @none_set (And.intro @not_false_eq_true (And.intro @true_and @and_true)))) := And.intro @none_upd (And.intro @none_set (And.intro @not_false_eq_true (And.intro @true_and @and_true)))
theorem set_set (σ : Hp) (b : Nat) (o o' : Blk) : set (set σ b o) b o' = set σ b o' := upd_upd _ _ _ _
theorem Sub.set {σ τ : Hp} (h : Sub σ τ) {g : Nat} (hg : σ g = none) (o : Blk) : Sub σ (set τ g o) := Sub.drop hg h
theorem upd_at (σ : Hp) (b : Nat) (o : Blk) (k : Nat) : upd σ b o k = if k = b then some o else σ k := rfl
end Go.Sp
