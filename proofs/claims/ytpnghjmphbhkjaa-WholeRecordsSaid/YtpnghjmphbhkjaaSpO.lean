/- Arguments opened by their types: whatever reads as data of a type is of a kind (Kd), and its weights bound its lengths. No condition but the reading itself. -/
import Derived.Test.YtpnghjmphbhkjaaSpJ
import Derived.WalkKit
import Derived.ChangeShapes
import Derived.WideShapes
import Derived.ProofKit
import Derived.SizedLaws
import Derived.ChangeArms
import Derived.Lib.SmallJoins
namespace Go.Sp.Open
open Go.RowKit Go.ChangeShapes Go.WideShapes
/-- How a value of a type lies in cells: so many, and these. -/
structure Kd (α : Type) where
  sz : Nat
  K : World → α → List Value → Prop
def Kd.int (k : IntKind) : Kd Int := ⟨1, fun _ n cs => cs = [.int k n]⟩
def Kd.bool : Kd Bool := ⟨1, fun _ b cs => cs = [.bool b]⟩
def Kd.string : Kd ByteArray := ⟨1, fun _ s cs => cs = [.string s]⟩
/-- A slice that is not looked into. -/
def Kd.shut : Kd Value := ⟨1, fun _ v cs => cs = [v] ∧ ∃ a n c, v = .slice a n c⟩
def Kd.pair {α β : Type} (a : Kd α) (b : Kd β) : Kd (α × β) := ⟨a.sz + b.sz, fun w x cs => ∃ c1 c2, cs = c1 ++ c2 ∧ a.K w x.1 c1 ∧ b.K w x.2 c2⟩
def Kd.C {α : Type} (d : Kd α) (w : World) (A : Option Addr) (xs : List α) : Prop := ∀ j x, xs[j]? = some x → ∃ a, A = some a ∧ ∃ cs, cs.length = d.sz ∧ d.K w x cs ∧ ∀ i u, cs[i]? = some u → w.cell? (a.add (j * d.sz + i)) = some u
def Kd.slice {α : Type} (d : Kd α) : Kd (List α) := ⟨1, fun w xs cs => ∃ A c, cs = [.slice A xs.length c] ∧ xs.length ≤ c ∧ d.C w A xs⟩
/-- The kind of a structure of mine, out of its cells. -/
def Kd.of {α : Type} (n : Nat) (f : α → List Value) : Kd α := ⟨n, fun _ x cs => cs = f x⟩

def Small {H : Type} (P : Program) (t : TypeId) (d : DataW H) : Prop := ∀ n ∈ d.weights P t, n ≤ 140737488351232
def Opens (P : Program) (t : TypeId) {α : Type} (d : Kd α) (G : α → Prop) : Prop :=
  ∀ (H : Type) (enc : TypeId × Value → H) (w : World) (base : Nat) (spare : Nat → Bool) (held : Bool) (fuel : Nat) (cs : List Value) (x : DataW H × List MemPlace),
    DataW.trod enc P w base spare held fuel t cs = some x → Small P t x.1 → ∃ a : α, d.K w a cs ∧ G a

theorem opens_int {P : Program} {t : TypeId} {k : IntKind} (ht : P.underlying t = some (.int k)) : Opens P t (Kd.int k) (fun n => (Lit.int k n).wf = true) := by
  intro H enc w base spare held fuel cs x h _
  obtain ⟨n, rfl, _, hw⟩ := DataW.trod_int ht h
  exact ⟨n, rfl, hw⟩
theorem opens_bool {P : Program} {t : TypeId} (ht : P.underlying t = some .bool) : Opens P t Kd.bool (fun _ => True) := by
  intro H enc w base spare held fuel cs x h _
  obtain ⟨b, rfl, _⟩ := DataW.trod_bool ht h
  exact ⟨b, rfl, trivial⟩
theorem opens_string {P : Program} {t : TypeId} (ht : P.underlying t = some .string) : Opens P t Kd.string (fun s => s.size ≤ 140737488351232) := by
  intro H enc w base spare held fuel cs x h hs
  obtain ⟨s, rfl, rfl, _⟩ := DataW.trod_string ht h
  refine ⟨s, rfl, ?_⟩
  have := hs s.data.toList.length (by simp [DataW.weights])
  rwa [Array.length_toList] at this
theorem mem_weightsAll {H : Type} {P : Program} {e : TypeId} {d : DataW H} : ∀ {l : List (DataW H)}, d ∈ l → ∀ n ∈ d.weights P e, n ∈ DataW.weightsAll P e l
  | _ :: l, h, n, hn => by
    unfold DataW.weightsAll
    rcases List.mem_cons.1 h with h | h
    · subst h
      exact List.mem_append_left _ hn
    · exact List.mem_append_right _ (mem_weightsAll h n hn)
theorem mapM_get {α : Type} {f : Nat → Option α} : ∀ {l : List Nat} {cs : List α}, l.mapM f = some cs → cs.length = l.length ∧ ∀ (j i : Nat), l[j]? = some i → f i = cs[j]?
  | [], cs, h => by
    simp at h
    subst h
    exact ⟨rfl, fun j i hj => by simp at hj⟩
  | a :: l, cs, h => by
    rw [List.mapM_cons] at h
    cases ha : f a with
    | none => simp [ha] at h
    | some c =>
      cases hl : l.mapM f with
      | none => simp [ha, hl] at h
      | some r =>
        simp [ha, hl] at h
        subst h
        obtain ⟨h1, h2⟩ := mapM_get hl
        refine ⟨by simp [h1], fun j i hj => ?_⟩
        cases j with
        | zero => simp at hj; subst hj; simpa using ha
        | succ j => simp at hj; simpa using h2 j i hj
theorem cells_get {w : World} {base : Nat} {a : Addr} {n : Nat} {cs : List Value} (h : w.cells? base a n = some cs) : cs.length = n ∧ ∀ j u, cs[j]? = some u → w.cell? (a.add j) = some u := by
  unfold World.cells? at h
  split at h
  · obtain ⟨h1, h2⟩ := mapM_get h
    simp only [List.length_range] at h1
    refine ⟨h1, fun j u hu => ?_⟩
    have hj : j < n := by have := (List.getElem?_eq_some_iff.1 hu).1; omega
    rw [h2 j j (by simp [hj]), hu]
  · cases h
theorem gather {α : Type} {Q : Nat → α → Prop} : ∀ {n : Nat}, (∀ i, i < n → ∃ a, Q i a) → ∃ xs : List α, xs.length = n ∧ ∀ i p, xs[i]? = some p → Q i p
  | 0, _ => ⟨[], rfl, fun i p hp => by simp at hp⟩
  | n + 1, one => by
    obtain ⟨xs, h1, h2⟩ := gather (n := n) (fun i hi => one i (by omega))
    obtain ⟨p, hp⟩ := one n (by omega)
    refine ⟨xs ++ [p], by simp [h1], fun i q hq => ?_⟩
    by_cases hi : i < n
    · rw [List.getElem?_append_left (by omega)] at hq
      exact h2 i q hq
    · have hi2 : i = n := by
        have := (List.getElem?_eq_some_iff.1 hq).1
        simp at this
        omega
      subst hi2
      rw [List.getElem?_append_right (by omega), h1] at hq
      simp at hq
      subst hq
      exact hp
theorem add_add (a : Addr) (i j : Nat) : (a.add i).add j = a.add (i + j) := by
  unfold Addr.add
  by_cases h : i = 0 <;> by_cases h2 : j = 0 <;> simp_all <;> omega
theorem opens_shut {P : Program} {t e : TypeId} (ht : P.underlying t = some (.slice e)) : Opens P t Kd.shut (fun v => one v = true) := by
  intro H enc w base spare held fuel cs x h hs
  rcases DataW.trod_slice ht h with ⟨rfl, rfl⟩ | ⟨a, len, cap, elems, rest, n, _, rfl, rfl, _, hl, hm, hlen, hel, _, _⟩
  · exact ⟨.slice none 0 0, ⟨rfl, _, _, _, rfl⟩, rfl⟩
  · exact ⟨.slice (some a) len cap, ⟨rfl, _, _, _, rfl⟩, rfl⟩
theorem opens_slice {P : Program} {t e : TypeId} {α : Type} {d : Kd α} {G : α → Prop} (B : Nat) (ht : P.underlying t = some (.slice e)) (hc : P.cellsOf e = d.sz) (hB : P.bytesOf e = B) (he : Opens P e d G) :
    Opens P t (Kd.slice d) (fun xs => xs.length * B ≤ 140737488351232 ∧ ∀ x ∈ xs, G x) := by
  intro H enc w base spare held fuel cs x h hs
  rcases DataW.trod_slice ht h with ⟨rfl, rfl⟩ | ⟨a, len, cap, elems, rest, n, _, rfl, rfl, _, hl, hm, hlen, hel, _, _⟩
  · exact ⟨[], ⟨none, 0, rfl, Nat.le_refl _, fun j x hx => by simp at hx⟩, by simp, fun x hx => by cases hx⟩
  · have hw : ((elems.map (·.1)).length + (rest.map (·.1)).length) * P.bytesOf e ≤ 140737488351232 := hs _ (by simp [DataW.weights, ht])
    have each : ∀ y ∈ elems, Small P e y.1 := fun y hy m hm2 => hs m (by
      simp only [DataW.weights, ht]
      exact List.mem_cons_of_mem _ (List.mem_append_left _ (mem_weightsAll (List.mem_map_of_mem hy) m hm2)))
    have one : ∀ i, i < len → ∃ a' : α, (∃ c, c.length = d.sz ∧ d.K w a' c ∧ ∀ j u, c[j]? = some u → w.cell? (a.add (i * d.sz + j)) = some u) ∧ G a' := by
      intro i hi
      have h1 := hel i hi
      rw [List.getElem?_eq_getElem (by omega)] at h1
      obtain ⟨c, hc1, hc2⟩ := Option.bind_eq_some_iff.1 h1
      obtain ⟨hl1, hcell⟩ := cells_get hc1
      obtain ⟨a', hk, hg⟩ := he H enc w base spare held n c _ hc2 (each _ (List.getElem_mem _))
      refine ⟨a', ⟨c, by rw [hl1, hc], hk, fun j u hu => ?_⟩, hg⟩
      rw [← add_add, ← hc]
      exact hcell j u hu
    obtain ⟨xs, hx1, hx2⟩ := gather one
    refine ⟨xs, ⟨some a, cap, by rw [hx1], by omega, fun j p hp => ⟨a, rfl, (hx2 j p hp).1⟩⟩, ?_, fun x hx => ?_⟩
    · rw [hB] at hw
      simp only [List.length_map] at hw
      exact Nat.le_trans (Nat.mul_le_mul_right _ (by omega)) hw
    · obtain ⟨i, hi, rfl⟩ := List.getElem_of_mem hx
      exact (hx2 i _ (List.getElem?_eq_getElem hi)).2
theorem opens_iso {P : Program} {t : TypeId} {α β : Type} {d : Kd α} {d' : Kd β} {G : α → Prop} {G' : β → Prop} (f : α → β) (hK : ∀ w a cs, d.K w a cs → d'.K w (f a) cs) (hG : ∀ a, G a → G' (f a)) (h : Opens P t d G) : Opens P t d' G' := by
  intro H enc w base spare held fuel cs x hx hs
  obtain ⟨a, hk, hg⟩ := h H enc w base spare held fuel cs x hx hs
  exact ⟨f a, hK w a cs hk, hG a hg⟩
theorem opens_rel {P : Program} {t : TypeId} {α β : Type} {d : Kd α} {d' : Kd β} {G : α → Prop} {G' : β → Prop} (h : Opens P t d G) (hr : ∀ w a cs, d.K w a cs → G a → ∃ b, d'.K w b cs ∧ G' b) : Opens P t d' G' := by
  intro H enc w base spare held fuel cs x hx hs
  obtain ⟨a, hk, hg⟩ := h H enc w base spare held fuel cs x hx hs
  exact hr w a cs hk hg
/-- The fields of a struct from the offset o on. -/
def OpensF (P : Program) (fs : List Field) (o : Nat) {α : Type} (d : Kd α) (G : α → Prop) : Prop :=
  ∀ (H : Type) (enc : TypeId × Value → H) (w : World) (base : Nat) (spare : Nat → Bool) (held : Bool) (n : Nat) (cs : List Value) (xs : List (DataW H × List MemPlace)),
    cs.length = o + d.sz → xs.length = fs.length → (∀ (i : Nat) (f : Field), fs[i]? = some f → DataW.trod enc P w base spare held n f.type ((cs.drop f.offset).take (P.cellsOf f.type)) = xs[i]?) →
    (∀ m ∈ DataW.weightsEach P (fs.map (·.type)) (xs.map (·.1)), m ≤ 140737488351232) → ∃ a : α, d.K w a (cs.drop o) ∧ G a
theorem opensF_one {P : Program} {f : Field} {o : Nat} {α : Type} {d : Kd α} {G : α → Prop} (ho : f.offset = o) (hc : P.cellsOf f.type = d.sz) (h : Opens P f.type d G) : OpensF P [f] o d G := by
  intro H enc w base spare held n cs xs hl hx hf hw
  match xs, hx with
  | [y], _ =>
    have h0 : DataW.trod enc P w base spare held n f.type ((cs.drop f.offset).take (P.cellsOf f.type)) = some y := by simpa using hf 0 f rfl
    rw [ho, hc, List.take_of_length_le (by rw [List.length_drop]; omega)] at h0
    exact h H enc w base spare held n _ _ h0 (fun m hm => hw m (by simp [DataW.weightsEach, hm]))
theorem opensF_cons {P : Program} {f : Field} {fs : List Field} {o : Nat} {α β : Type} {a : Kd α} {b : Kd β} {G : α → Prop} {G' : β → Prop} (ho : f.offset = o) (hc : P.cellsOf f.type = a.sz) (h : Opens P f.type a G) (hr : OpensF P fs (o + a.sz) b G') :
    OpensF P (f :: fs) o (Kd.pair a b) (fun x => G x.1 ∧ G' x.2) := by
  intro H enc w base spare held n cs xs hl hx hf hw
  have hl' : cs.length = o + (a.sz + b.sz) := hl
  match xs, hx with
  | y :: ys, hx =>
    have h0 : DataW.trod enc P w base spare held n f.type ((cs.drop f.offset).take (P.cellsOf f.type)) = some y := by simpa using hf 0 f rfl
    rw [ho, hc] at h0
    obtain ⟨x0, hk0, hg0⟩ := h H enc w base spare held n _ _ h0 (fun m hm => hw m (by simp [DataW.weightsEach, hm]))
    obtain ⟨x1, hk1, hg1⟩ := hr H enc w base spare held n cs ys (by omega) (by simpa using hx) (fun i g hi => by simpa using hf (i + 1) g (by simpa using hi)) (fun m hm => hw m (by simp only [List.map_cons, DataW.weightsEach]; exact List.mem_append_right _ hm))
    refine ⟨(x0, x1), ⟨(cs.drop o).take a.sz, cs.drop (o + a.sz), ?_, hk0, hk1⟩, hg0, hg1⟩
    rw [← List.drop_drop]
    exact (List.take_append_drop _ _).symm
theorem opens_struct {P : Program} {t : TypeId} {fs : Array Field} {α : Type} {d : Kd α} {G : α → Prop} (ht : P.underlying t = some (.struct fs)) (hc : P.cellsOf t = d.sz) (h : OpensF P fs.toList 0 d G) : Opens P t d G := by
  intro H enc w base spare held fuel cs x hx hs
  obtain ⟨xs, n, _, rfl, hl, hlen, hf⟩ := DataW.trod_struct ht hx
  obtain ⟨a, hk, hg⟩ := h H enc w base spare held n cs xs (by rw [hl, hc]; omega) (by simpa using hlen) (fun i f hi => hf i f (by simpa using hi)) (fun m hm => hs m (by simpa [DataW.weights, ht] using hm))
  exact ⟨a, by simpa using hk, hg⟩
theorem opens_mono {P : Program} {t : TypeId} {α : Type} {d : Kd α} {G G' : α → Prop} (h : Opens P t d G) (hg : ∀ x, G x → G' x) : Opens P t d G' := by
  intro H enc w base spare held fuel cs x hx hs
  obtain ⟨a, hk, h1⟩ := h H enc w base spare held fuel cs x hx hs
  exact ⟨a, hk, hg a h1⟩
/-- Argument j's weights out of the row's. -/
theorem small_arg {H : Type} {P : Program} {ts : List TypeId} {ds : List (DataW H)} (hsz : (DataW.weightsEach P ts ds).all (· ≤ reachBytes) = true) {j : Nat} {t : TypeId} {d : DataW H} (ht : ts[j]? = some t) (hd : ds[j]? = some d) : Small P t d := by
  intro n hn
  have := List.all_eq_true.1 hsz _ (DataW.weights_mem_each ht hd n hn)
  have h2 : n ≤ reachBytes := by simpa using this
  exact h2
theorem arg_struct {H : Type} {enc : TypeId × Value → H} {P : Program} {w : World} {r : Reach} {b0 base : Nat} {spare : Nat → Bool} {held : Bool} {t : TypeId} {fs : Array Field} {α : Type} {d : Kd α} {G : α → Prop} {v : Value} {x : DataW H} {p : List MemPlace} (ho : Opens P t d G) (ht : P.underlying t = some (.struct fs)) (hv : Value.okWide P w r b0 t v) (h : DataW.Trod enc P w base spare held t v x p) (hs : Small P t x) :
    ∃ (cs : Array Value) (a : α), v = .agg cs ∧ d.K w a cs.toList ∧ G a := by
  obtain ⟨cs, rfl, _⟩ := okWide_struct ht hv
  obtain ⟨fuel, hf⟩ := h
  obtain ⟨a, hk, hg⟩ := ho H enc w base spare held fuel _ _ hf hs
  exact ⟨cs, a, rfl, by simpa [Value.cells] using hk, hg⟩
theorem arg_slice {H : Type} {enc : TypeId × Value → H} {P : Program} {w : World} {r : Reach} {b0 base : Nat} {spare : Nat → Bool} {held : Bool} {t e : TypeId} {α : Type} {d : Kd α} {G : List α → Prop} {v : Value} {x : DataW H} {p : List MemPlace} (ho : Opens P t (Kd.slice d) G) (ht : P.underlying t = some (.slice e)) (hv : Value.okWide P w r b0 t v) (h : DataW.Trod enc P w base spare held t v x p) (hs : Small P t x) :
    ∃ (A : Option Addr) (c : Nat) (xs : List α), v = .slice A xs.length c ∧ xs.length ≤ c ∧ d.C w A xs ∧ G xs := by
  obtain ⟨a, len, cap, rfl⟩ := okWide_slice ht hv
  obtain ⟨fuel, hf⟩ := h
  obtain ⟨xs, ⟨A, c, he, hl, hk⟩, hg⟩ := ho H enc w base spare held fuel _ _ hf hs
  simp [Value.cells] at he
  obtain ⟨rfl, rfl, rfl⟩ := he
  exact ⟨_, _, xs, rfl, hl, hk, hg⟩
/-- All that a world holds, to be read alone. -/
def full (w : World) : Hp := fun k => (w.heap[k]?).map Blk.ro
theorem full_sat (w : World) : Sat (full w) w := fun b o h => by
  unfold full at h
  cases hb : w.heap[b]? with
  | none => rw [hb] at h; cases h
  | some x => rw [hb] at h; cases h; exact rfl
/-- From the known heap to the world. -/
theorem calls_row {P : Program} {f : FuncId} {args : Array Value} {w : World} (h : ACalls P f args (full w) fun v σ' => v = .bool true ∧ σ' = full w) : Calls P f args w fun e w' => e = .returned (.bool true) ∧ Below w.heap.size w w' := by
  refine (h w (full_sat w)).mono ?_
  rintro e w' ⟨v, σ', rfl, hs, hf, rfl, rfl⟩
  refine ⟨rfl, hf.os, hf.tape, hf.output, hf.size, fun k hk => ?_⟩
  have : full w k = some (.ro w.heap[k]) := by unfold full; rw [Array.getElem?_eq_getElem hk]; rfl
  have h1 : w'.heap[k]? = some w.heap[k] := hs k _ this
  rw [h1, Array.getElem?_eq_getElem hk]
theorem ro_rows {α : Type} {n : Nat} {f : α → List Value} {w : World} {A : Option Addr} {c : Nat} {xs : List α} (hn : 0 < n) (h : (Kd.of n f).C w A xs) : RoRows n f (full w) (.slice A xs.length c) xs := by
  refine ⟨A, c, rfl, fun i x hx => ?_⟩
  obtain ⟨a, rfl, cs, hl, rfl, hc⟩ := h i x hx
  have hl : (f x).length = n := hl
  obtain ⟨b, o, sp⟩ := a
  have h0 := hc 0 (f x)[0] (List.getElem?_eq_getElem (by omega))
  have hx0 : ∃ y, xs[0]? = some y := ⟨_, List.getElem?_eq_getElem (by have := (List.getElem?_eq_some_iff.1 hx).1; omega)⟩
  obtain ⟨y, hy⟩ := hx0
  obtain ⟨a2, e2, cs2, hl2, rfl, hc2⟩ := h 0 y hy
  cases e2
  have hl2 : (f y).length = n := hl2
  have h00 := hc2 0 (f y)[0] (List.getElem?_eq_getElem (by omega))
  have hsp : sp = none := by
    cases sp with
    | none => rfl
    | some q =>
      have e : (⟨b, o, some q⟩ : Addr).add (0 * (Kd.of n f).sz + 0) = ⟨b, o, some q⟩ := by simp [Addr.add]
      rw [e] at h00
      simp only [World.cell?, Option.isSome_some, if_true] at h00
      split at h00 <;> cases h00
  subst hsp
  have hb : ∃ c2 t fr, w.heap[b]? = some (.cells c2 t fr) := by
    rw [addr_add] at h0
    unfold World.cell? at h0
    split at h0
    · exact ⟨_, _, _, by assumption⟩
    · cases h0
  obtain ⟨c2, t, fr, hb⟩ := hb
  have hget : ∀ j u, (f x)[j]? = some u → c2[o + (i * n + j)]? = some u := fun j u hu => by
    have := hc j u hu
    rw [addr_add] at this
    simpa [World.cell?, hb, Kd.of] using this
  refine ⟨b, o, rfl, ?_⟩
  have e : full w b = some (.ro (.cells c2 t fr)) := by unfold full; rw [hb]; rfl
  unfold rdn
  rw [e]
  show seg c2.toList (o + i * n) n = some (f x)
  have hlast := hget (n - 1) (f x)[n - 1] (List.getElem?_eq_getElem (by omega))
  have hsz := (Array.getElem?_eq_some_iff.1 hlast).1
  unfold seg
  rw [if_pos (by simp; omega)]
  congr 1
  apply List.ext_getElem?
  intro j
  by_cases hj : j < n
  · rw [List.getElem?_take_of_lt hj, List.getElem?_drop]
    have := hget j (f x)[j] (List.getElem?_eq_getElem (by omega))
    rw [List.getElem?_eq_getElem (l := f x) (by omega), ← this]
    simp [Nat.add_assoc]
  · rw [List.getElem?_eq_none (by simp; omega), List.getElem?_eq_none (by omega)]
theorem u8_range {n : Int} (h : (Lit.int .u8 n).wf = true) : 0 ≤ n ∧ n ≤ 255 := by
  have e1 : IntKind.u8.min = 0 := by decide
  have e2 : IntKind.u8.max = 255 := by decide
  simp [Lit.wf] at h
  omega
end Go.Sp.Open
