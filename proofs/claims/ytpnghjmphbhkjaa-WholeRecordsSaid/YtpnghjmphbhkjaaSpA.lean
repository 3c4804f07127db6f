/- Heaps of which a part is known: what a world holds of them, and what a piece of code does to them. -/
import Derived.Orders
import Derived.WalkKit
namespace Go.Sp
/-- Entries of a map, in order of birth. -/
def ents {κ : Type} (enc : κ → Value) : Nat → List (κ × Value) → List MapEntry
  | _, [] => []
  | n, p :: r => { key := enc p.1, val := p.2, born := n } :: ents enc (n + 1) r
/-- A map's entries hold l, in this order; each was born behind the one before. -/
structure Ents {κ : Type} (enc : κ → Value) (l : List (κ × Value)) (es : Array MapEntry) (clock : Nat) : Prop where
  kv : es.toList.map (fun e => (e.key, e.val)) = l.map (fun p => (enc p.1, p.2))
  born : es.toList.Pairwise (fun a b => a.born < b.born)
  clock : ∀ e ∈ es.toList, e.born < clock
theorem ents_kv {κ : Type} (enc : κ → Value) : ∀ (l : List (κ × Value)) (n : Nat), (ents enc n l).map (fun e => (e.key, e.val)) = l.map (fun p => (enc p.1, p.2))
  | [], _ => rfl
  | p :: r, n => by simp only [ents, List.map_cons, ents_kv enc r (n + 1)]
theorem ents_born {κ : Type} (enc : κ → Value) : ∀ (l : List (κ × Value)) (n : Nat), (ents enc n l).Pairwise (fun a b => a.born < b.born) ∧ ∀ e ∈ ents enc n l, n ≤ e.born ∧ e.born < n + l.length
  | [], _ => ⟨List.Pairwise.nil, fun e h => by cases h⟩
  | p :: r, n => by
    obtain ⟨h1, h2⟩ := ents_born enc r (n + 1)
    refine ⟨List.pairwise_cons.2 ⟨fun e he => by have := (h2 e he).1; show n < e.born; omega, h1⟩, fun e he => ?_⟩
    rcases List.mem_cons.1 he with rfl | he
    · exact ⟨Nat.le_refl _, by show n < n + (p :: r).length; simp⟩
    · have := h2 e he
      simp only [List.length_cons]; omega
theorem ents_real {κ : Type} (enc : κ → Value) (l : List (κ × Value)) : Ents enc l (ents enc 0 l).toArray l.length :=
  ⟨ents_kv enc l 0, (ents_born enc l 0).1, fun e he => by have := ((ents_born enc l 0).2 e he).2; omega⟩
def mget {κ : Type} [DecidableEq κ] : List (κ × Value) → κ → Option Value
  | [], _ => none
  | p :: r, k => if k = p.1 then some p.2 else mget r k
def mput {κ : Type} [DecidableEq κ] : List (κ × Value) → κ → Value → List (κ × Value)
  | [], k, v => [(k, v)]
  | p :: r, k, v => if k = p.1 then (k, v) :: r else p :: mput r k v
def mdel {κ : Type} [DecidableEq κ] : List (κ × Value) → κ → List (κ × Value)
  | [], _ => []
  | p :: r, k => if k = p.1 then r else p :: mdel r k
/-- A block that is known: all its cells; the first of its cells (a row that may have room behind them); that it is there, no more; or as it is, to be read alone. -/
inductive Blk where
  | cells (cs : List Value) (t : TypeId)
  | row (cs : List Value) (room : Nat) (t : TypeId)
  | dead
  | ro (o : Obj)
  | mp (l : List (ByteArray × Value))
  | im (l : List (Int × Value))
abbrev Hp := Nat → Option Blk
def upd (σ : Hp) (b : Nat) (o : Blk) : Hp := fun k => if k = b then some o else σ k
def Blk.at : Blk → Option Obj → Prop
  | .cells cs t, x => x = some (.cells cs.toArray t (0, 0))
  | .row cs room t, x => ∃ rest : List Value, cs.length + rest.length = room ∧ x = some (.cells (cs ++ rest).toArray t (0, 0))
  | .dead, x => x.isSome = true
  | .ro o, x => x = some o
  | .mp l, x => ∃ es c, x = some (.map es c) ∧ Ents Value.string l es c
  | .im l, x => ∃ es c, x = some (.map es c) ∧ Ents (Value.int .i64) l es c
def Sat (σ : Hp) (w : World) : Prop := ∀ b o, σ b = some o → o.at w.heap[b]?
/-- From w to w': of blocks that σ does not know nothing has turned, and σ' knows no old block more. -/
structure Fr (w w' : World) (σ σ' : Hp) : Prop where
  os : w'.os = w.os
  tape : w'.tape = w.tape
  output : w'.output = w.output
  size : w.heap.size ≤ w'.heap.size
  block : ∀ k, k < w.heap.size → σ k = none → w'.heap[k]? = w.heap[k]?
  know : ∀ k, k < w.heap.size → σ k = none → σ' k = none
/-- σ'' knows no more than σ'. -/
def Sub (σ'' σ' : Hp) : Prop := ∀ k, σ'' k = none ∨ σ'' k = σ' k
theorem Fr.refl (w : World) (σ : Hp) : Fr w w σ σ := ⟨rfl, rfl, rfl, Nat.le_refl _, fun _ _ _ => rfl, fun _ _ h => h⟩
theorem Fr.trans {w w1 w2 : World} {σ σ1 σ2 : Hp} (h : Fr w w1 σ σ1) (k : Fr w1 w2 σ1 σ2) : Fr w w2 σ σ2 :=
  ⟨k.os.trans h.os, k.tape.trans h.tape, k.output.trans h.output, Nat.le_trans h.size k.size,
   fun i hi hn => (k.block i (Nat.lt_of_lt_of_le hi h.size) (h.know i hi hn)).trans (h.block i hi hn),
   fun i hi hn => k.know i (Nat.lt_of_lt_of_le hi h.size) (h.know i hi hn)⟩
theorem Fr.sub {w w' : World} {σ σ' σ'' : Hp} (h : Fr w w' σ σ') (s : Sub σ'' σ') : Fr w w' σ σ'' :=
  ⟨h.os, h.tape, h.output, h.size, h.block, fun k hk hn => (s k).elim id fun e => e.trans (h.know k hk hn)⟩
theorem Sat.sub {w : World} {σ σ' : Hp} (h : Sat σ w) (s : Sub σ' σ) : Sat σ' w := fun b o hb => by
  rcases s b with e | e
  · rw [e] at hb; cases hb
  · exact h b o (e ▸ hb)
theorem Sub.refl (σ : Hp) : Sub σ σ := fun _ => .inr rfl
theorem Sub.trans {a b c : Hp} (h : Sub a b) (k : Sub b c) : Sub a c := fun i => by
  rcases h i with e | e
  · exact .inl e
  · rcases k i with f | f
    · exact .inl (e.trans f)
    · exact .inr (e.trans f)
theorem Blk.at_some {o : Blk} {x : Option Obj} (h : o.at x) : x.isSome = true := by
  cases o with
  | cells cs t => have h : x = _ := h; rw [h]; rfl
  | row cs room t => obtain ⟨r, _, h⟩ := h; rw [h]; rfl
  | dead => exact h
  | ro o => have h : x = _ := h; rw [h]; rfl
  | mp l => obtain ⟨_, _, h, _⟩ := h; rw [h]; rfl
  | im l => obtain ⟨_, _, h, _⟩ := h; rw [h]; rfl
theorem Sat.lt {σ : Hp} {w : World} (h : Sat σ w) {b : Nat} (hb : σ b ≠ none) : b < w.heap.size := by
  cases hs : σ b with
  | none => exact absurd hs hb
  | some o =>
    have := Blk.at_some (h b o hs)
    rcases Nat.lt_or_ge b w.heap.size with hlt | hge
    · exact hlt
    · rw [Array.getElem?_eq_none hge] at this; cases this
theorem Sat.none_of_le {σ : Hp} {w : World} (h : Sat σ w) {b : Nat} (hb : w.heap.size ≤ b) : σ b = none := by
  cases hs : σ b with
  | none => rfl
  | some o => exact absurd (h.lt (b := b) (by rw [hs]; simp)) (by omega)
theorem upd_same (σ : Hp) (b : Nat) (o : Blk) : upd σ b o b = some o := by simp [upd]
theorem upd_ne (σ : Hp) {b k : Nat} (o : Blk) (h : k ≠ b) : upd σ b o k = σ k := by simp [upd, h]
theorem upd_self {σ : Hp} {b : Nat} {o : Blk} (h : σ b = some o) : upd σ b o = σ := by
  funext k; by_cases e : k = b
  · subst e; simp [upd, h]
  · simp [upd, e]
theorem upd_upd (σ : Hp) (b : Nat) (o o' : Blk) : upd (upd σ b o) b o' = upd σ b o' := by
  funext k; by_cases e : k = b <;> simp [upd, e]
theorem upd_comm (σ : Hp) {b c : Nat} (o o' : Blk) (h : b ≠ c) : upd (upd σ b o) c o' = upd (upd σ c o') b o := by
  funext k; by_cases e : k = b
  · subst e; simp [upd, h]
  · simp [upd, e]
/-- A new block. -/
def World.push (w : World) (o : Obj) : World := { w with heap := w.heap.push o }
theorem Sat.push {σ : Hp} {w : World} (h : Sat σ w) (o : Blk) (x : Obj) (hx : o.at (some x)) : Sat (upd σ w.heap.size o) (World.push w x) := fun b o' hb => by
  show o'.at (w.heap.push x)[b]?
  rw [Array.getElem?_push]
  by_cases e : b = w.heap.size
  · subst e; rw [upd_same] at hb; cases hb; rw [if_pos rfl]; exact hx
  · rw [upd_ne _ _ e] at hb; rw [if_neg e]; exact h b o' hb
theorem Fr.push {w w' : World} {σ σ' : Hp} (h : Fr w w' σ σ') (o : Blk) (x : Obj) : Fr w (World.push w' x) σ (upd σ' w'.heap.size o) :=
  ⟨h.os, h.tape, h.output, by show _ ≤ (w'.heap.push x).size; rw [Array.size_push]; exact Nat.le_succ_of_le h.size,
   fun k hk hn => by
    show (w'.heap.push x)[k]? = _
    rw [Array.getElem?_push, if_neg (by have := h.size; omega)]; exact h.block k hk hn,
   fun k hk hn => by rw [upd_ne _ _ (by have := h.size; omega)]; exact h.know k hk hn⟩
/-- A block's cells are other ones. -/
def World.put (w : World) (b : Nat) (x : Obj) : World := { w with heap := w.heap.setIfInBounds b x }
theorem Sat.put {σ : Hp} {w : World} (h : Sat σ w) {b : Nat} (hb : b < w.heap.size) (o : Blk) (x : Obj) (hx : o.at (some x)) : Sat (upd σ b o) (World.put w b x) := fun k o' hk => by
  show o'.at (w.heap.setIfInBounds b x)[k]?
  rw [Array.getElem?_setIfInBounds]
  by_cases e : k = b
  · subst e; rw [upd_same] at hk; cases hk; rw [if_pos rfl, if_pos hb]; exact hx
  · rw [upd_ne _ _ e] at hk; rw [if_neg (fun h => e h.symm)]; exact h k o' hk
theorem Fr.put {w w' : World} {σ σ' : Hp} (h : Fr w w' σ σ') {b : Nat} (hb : σ' b ≠ none) (o : Blk) (x : Obj) : Fr w (World.put w' b x) σ (upd σ' b o) :=
  ⟨h.os, h.tape, h.output, by show _ ≤ (w'.heap.setIfInBounds b x).size; rw [Array.size_setIfInBounds]; exact h.size,
   fun k hk hn => by
    show (w'.heap.setIfInBounds b x)[k]? = _
    rw [Array.getElem?_setIfInBounds, if_neg (fun e => hb (by rw [e]; exact h.know k hk hn))]; exact h.block k hk hn,
   fun k hk hn => by rw [upd_ne _ _ (fun e => hb (by rw [← e]; exact h.know k hk hn))]; exact h.know k hk hn⟩
/-- Only counts of the world have turned. -/
theorem Sat.drew {σ : Hp} {w : World} (h : Sat σ w) (n : Nat) : Sat σ { w with drawn := n } := h
theorem Fr.drew {w w' : World} {σ σ' : Hp} (h : Fr w w' σ σ') (n : Nat) : Fr w { w' with drawn := n } σ σ' := ⟨h.os, h.tape, h.output, h.size, h.block, h.know⟩
/-- The slots of a frame, as a function. -/
abbrev Sl := Nat → Value
def put (s : Sl) (d : Nat) (v : Value) : Sl := fun i => if i = d then v else s i
def Rel (n : Nat) (a : Act) (s : Sl) : Prop := a.tmps.size = n ∧ a.defers = [] ∧ ∀ i, i < n → a.tmps.getD i undef = s i
def ev (s : Sl) : Operand → Value
  | .tmp t => s t
  | .const v => v
  | .global g => .pointer (some ⟨g, 0, none⟩)
  | .func f => .func (.func f) #[] #[]
def inR (n : Nat) : Operand → Bool
  | .tmp t => decide (t < n)
  | _ => true
theorem Rel.ev {n : Nat} {a : Act} {s : Sl} (h : Rel n a s) {x : Operand} (hx : inR n x = true) : a.eval x = Sp.ev s x := by
  cases x with
  | tmp t => exact h.2.2 t (by simpa [inR] using hx)
  | _ => rfl
def putO (s : Sl) : Option Nat → Value → Sl
  | some d, v => put s d v
  | none, _ => s
def inO (n : Nat) : Option Nat → Bool
  | some d => decide (d < n)
  | none => true
theorem Rel.put {n : Nat} {a : Act} {s : Sl} (h : Rel n a s) (d : Option Nat) (v : Value) : Rel n (a.put d v) (putO s d v) := by
  cases d with
  | none => exact h
  | some d =>
    obtain ⟨h1, h2, h3⟩ := h
    refine ⟨by simp [Act.put, h1], by simpa [Act.put] using h2, fun i hi => ?_⟩
    have := h3 i hi
    simp only [Act.put, putO, Sp.put, Array.getD_eq_getD_getElem?, Array.getElem?_setIfInBounds] at this ⊢
    by_cases e : i = d
    · subst e; simp [h1, hi]
    · have e' : ¬ d = i := fun h => e h.symm
      simp [e, e', this]
/-- A call's meaning over known parts of the heap. -/
def ACalls (P : Program) (f : FuncId) (args : Array Value) (σ : Hp) (R : Value → Hp → Prop) : Prop :=
  ∀ w, Sat σ w → Calls P f args w fun e w' => ∃ v σ', e = .returned v ∧ Sat σ' w' ∧ Fr w w' σ σ' ∧ R v σ'
theorem ACalls.mono {P : Program} {f : FuncId} {args : Array Value} {σ : Hp} {R R' : Value → Hp → Prop} (h : ACalls P f args σ R) (hr : ∀ v σ', R v σ' → R' v σ') : ACalls P f args σ R' :=
  fun w hw => (h w hw).mono fun _ _ ⟨v, σ', a, b, c, d⟩ => ⟨v, σ', a, b, c, hr _ _ d⟩
end Go.Sp
