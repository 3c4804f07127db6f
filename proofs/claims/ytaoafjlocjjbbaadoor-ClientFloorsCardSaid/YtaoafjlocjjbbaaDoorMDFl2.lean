/- Texts of mine, part 2 of 6, laid together: The rules by which a text is worked out, bundled. Arguments opened by their types: whatever reads as data of a type is of a kind (Kd), and its weights bound its lengths. No condition but the reading itself. The texts of functions, compiled. More words on slices that hold lists. Words on blocks that are new, that stay, and that are laid off. The texts of functions, compiled. Sessions: what only com No condition. -/
import Derived.Test.YtaoafjlocjjbbaaDoorMDFl1
import Derived.WalkKit
import Derived.ChangeShapes
import Derived.WideShapes
import Derived.ProofKit
import Derived.SizedLaws
import Derived.ChangeArms
import Derived.Lib.SmallJoins
import Derived.Test.YtaoafjlocjjbbaaDoorProg
import Derived.KernelRfl
import Derived.Below
-- SpJ
namespace Go.Sp
set_option maxRecDepth 100000
theorem evP : type_of% (And.intro @codeF_drawx (And.intro @opF_callv (And.intro @dopF_cv (And.intro @ev_func (And.intro @opF_mkmap (And.intro @opF_look (And.intro @opF_mset (And.intro @opF_fnl (And.intro @opF_bys (And.intro @opsF_nil (And.intro @opsF_none (And.intro @opsF_some (And.intro @opF_raw (And.intro @opF_mv (And.intro @opF_pick (And.intro @opF_nilc (And.intro @opF_fa (And.intro @opF_ia (And.intro @opF_bin (And.intro @opF_eqs (And.intro @opF_nt (And.intro @opF_ext (And.intro @opF_len (And.intro @opF_bld (And.intro @opF_conv (And.intro @opF_ixs (And.intro @opF_mx (And.intro @opF_eqa (And.intro @opF_fld (And.intro @opF_new (And.intro @opF_box (And.intro @opF_lit (And.intro @opF_ld (And.intro @opF_lds (And.intro @opF_st (And.intro @opF_call (And.intro @opF_app (And.intro @dopsF_nil (And.intro @dopsF_none (And.intro @dopsF_some (And.intro @dopF_p (And.intro @dopF_l (And.intro @dopF_f (And.intro @dopF_r (And.intro @dopF_u (And.intro @dopF_w (And.intro @dopF_m (And.intro @dopF_c (And.intro @dopF_g (And.intro @codeF_skip (And.intro @codeF_reg (And.intro @codeF_draw (And.intro @codeF_seq (And.intro @codeF_cond (And.intro @codeF_block (And.intro @codeF_loop (And.intro @codeF_exit (And.intro @codeF_ret (And.intro @thn_normal (And.intro @thn_exit (And.intro @thn_ret (And.intro @inBlk_normal (And.intro @inBlk_ret (And.intro @inBlk_exit (And.intro @fin_normalF (And.intro @fin_retF (And.intro @finF_eq (And.intro @putO_get (And.intro @putO_no (And.intro @ev_tmp (And.intro @ev_const (And.intro @init_zero (@init_succ))))))))))))))))))))))))))))))))))))))))))))))))))))))))))))))))))))))))) := And.intro @codeF_drawx (And.intro @opF_callv (And.intro @dopF_cv (And.intro @ev_func (And.intro @opF_mkmap (And.intro @opF_look (And.intro @opF_mset (And.intro @opF_fnl (And.intro @opF_bys (And.intro @opsF_nil (And.intro @opsF_none (And.intro @opsF_some (And.intro @opF_raw (And.intro @opF_mv (And.intro @opF_pick (And.intro @opF_nilc (And.intro @opF_fa (And.intro @opF_ia (And.intro @opF_bin (And.intro @opF_eqs (And.intro @opF_nt (And.intro @opF_ext (And.intro @opF_len (And.intro @opF_bld (And.intro @opF_conv (And.intro @opF_ixs (And.intro @opF_mx (And.intro @opF_eqa (And.intro @opF_fld (And.intro @opF_new (And.intro @opF_box (And.intro @opF_lit (And.intro @opF_ld (And.intro @opF_lds (And.intro @opF_st (And.intro @opF_call (And.intro @opF_app (And.intro @dopsF_nil (And.intro @dopsF_none (And.intro @dopsF_some (And.intro @dopF_p (And.intro @dopF_l (And.intro @dopF_f (And.intro @dopF_r (And.intro @dopF_u (And.intro @dopF_w (And.intro @dopF_m (And.intro @dopF_c (And.intro @dopF_g (And.intro @codeF_skip (And.intro @codeF_reg (And.intro @codeF_draw (And.intro @codeF_seq (And.intro @codeF_cond (And.intro @codeF_block (And.intro @codeF_loop (And.intro @codeF_exit (And.intro @codeF_ret (And.intro @thn_normal (And.intro @thn_exit (And.intro @thn_ret (And.intro @inBlk_normal (And.intro @inBlk_ret (And.intro @inBlk_exit (And.intro @fin_normalF (And.intro @fin_retF (And.intro @finF_eq (And.intro @putO_get (And.intro @putO_no (And.intro @ev_tmp (And.intro @ev_const (And.intro @init_zero (@init_succ))))))))))))))))))))))))))))))))))))))))))))))))))))))))))))))))))))))))
theorem evQ : type_of% (And.intro @meet_self (And.intro @meet_same (And.intro @mapF_eq (And.intro @ml_same (And.intro @ml_ne (And.intro @lookv_t (And.intro @lookv_f (And.intro @lf_rune_eq (And.intro @lf_ifn_nil (And.intro @lf_ifn_some (And.intro @u8s_nil (And.intro @u8s_cons (And.intro @cl_map (And.intro @one_map (And.intro @Option.getD_none.{0} (And.intro @Option.isSome_none.{0} (And.intro @Option.map_some.{0,0} (And.intro @List.map_cons.{0,0} (And.intro @List.map_nil.{0,0} (And.intro @runF_eq (And.intro @someF_eq (And.intro @ptrF_eq (And.intro @boolF_eq (And.intro @sliceF_eq (And.intro @i64F_eq (And.intro @tupleF_eq (And.intro @intF_eq (And.intro @strF_eq (And.intro @condF_true (And.intro @condF_false (And.intro @guardF_bool (And.intro @guardF_not (And.intro @guardF_undef (And.intro @onPtrO_mk (And.intro @cl_int (And.intro @cl_bool (And.intro @cl_string (And.intro @cl_pointer (And.intro @cl_slice (And.intro @cl_agg (And.intro @one_int (And.intro @one_bool (And.intro @one_string (And.intro @one_pointer (And.intro @one_slice (And.intro @rd_same (And.intro @rd_row (And.intro @rd_ne (And.intro @rdn_same (And.intro @rdn_row (And.intro @rdn_ne (And.intro @wr_same (And.intro @wr_row (And.intro @wr_ne (And.intro @rval_tmp (And.intro @rval_one (And.intro @rval_agg (And.intro @rvals_nil (And.intro @rvals_cons (And.intro @whole_one (And.intro @whole_nil (And.intro @whole_two (And.intro @seg_zero (And.intro @seg_cons (And.intro @seg_skip (And.intro @upd_upd (And.intro @set_same (And.intro @set_ne (And.intro @set_set (And.intro @none_upd (And.intro @none_set (And.intro @and_imp (And.intro @not_false_eq_true (And.intro @not_true_eq_false (And.intro @List.length_cons.{0} (And.intro @List.length_nil.{0} (And.intro @List.all_cons.{0} (And.intro @List.all_nil.{0} (And.intro @List.take_succ_cons.{0} (And.intro @List.take_zero.{0} (And.intro @List.take_nil.{0} (And.intro @List.drop_succ_cons.{0} (And.intro @List.drop_zero.{0} (And.intro @List.drop_nil.{0} (And.intro @List.cons_append.{0} (And.intro @List.nil_append.{0} (And.intro @List.append_nil.{0} (And.intro @List.getElem?_cons_succ.{0} (And.intro @List.getElem?_cons_zero.{0} (And.intro @List.getElem?_toArray.{0} (And.intro @List.map_cons.{0,0} (And.intro @List.map_nil.{0,0} (And.intro @Option.bind_some.{0,0} (And.intro @Option.map_some.{0,0} (And.intro @Bool.and_true (And.intro @Bool.true_and (And.intro @Bool.and_false (And.intro @Bool.false_and (And.intro @Bool.or_true (And.intro @Bool.true_or (And.intro @Bool.or_false (And.intro @Bool.false_or (And.intro @Bool.and_self (And.intro @Nat.zero_add (And.intro @Nat.add_zero (And.intro @true_and (And.intro @and_true (And.intro @Bool.not_true (And.intro @Bool.not_false (And.intro @beq_self_eq_true.{0} (And.intro @Bool.bne_true (And.intro @Bool.bne_false (And.intro @Option.isNone_none.{0} (And.intro @Option.isNone_some.{0} (And.intro @Bool.false_eq_true (((And.intro @decide_true (And.intro @decide_false (And.intro @Bool.true_bne (And.intro @Bool.false_bne (And.intro @bne_self_eq_false.{0} (And.intro @Bool.true_beq (And.intro @Bool.false_beq (And.intro @beq_true (And.intro @beq_false (And.intro @Int.toNat_natCast (And.intro @Int.natCast_nonneg (And.intro @int_beq (And.intro @int_bne (And.intro @str_beq (And.intro @decide_not (And.intro @Int.natCast_zero (@Int.cast_ofNat_Int)))))))))))))))))))))))))))))))))))))))))))))))))))))))))))))))))))))))))))))))))))))))))))))))))))))))))))))))))))))))))))))))))))))) := And.intro @meet_self (And.intro @meet_same (And.intro @mapF_eq (And.intro @ml_same (And.intro @ml_ne (And.intro @lookv_t (And.intro @lookv_f (And.intro @lf_rune_eq (And.intro @lf_ifn_nil (And.intro @lf_ifn_some (And.intro @u8s_nil (And.intro @u8s_cons (And.intro @cl_map (And.intro @one_map (And.intro @Option.getD_none.{0} (And.intro @Option.isSome_none.{0} (And.intro @Option.map_some.{0,0} (And.intro @List.map_cons.{0,0} (And.intro @List.map_nil.{0,0} (And.intro @runF_eq (And.intro @someF_eq (And.intro @ptrF_eq (And.intro @boolF_eq (And.intro @sliceF_eq (And.intro @i64F_eq (And.intro @tupleF_eq (And.intro @intF_eq (And.intro @strF_eq (And.intro @condF_true (And.intro @condF_false (And.intro @guardF_bool (And.intro @guardF_not (And.intro @guardF_undef (And.intro @onPtrO_mk (And.intro @cl_int (And.intro @cl_bool (And.intro @cl_string (And.intro @cl_pointer (And.intro @cl_slice (And.intro @cl_agg (And.intro @one_int (And.intro @one_bool (And.intro @one_string (And.intro @one_pointer (And.intro @one_slice (And.intro @rd_same (And.intro @rd_row (And.intro @rd_ne (And.intro @rdn_same (And.intro @rdn_row (And.intro @rdn_ne (And.intro @wr_same (And.intro @wr_row (And.intro @wr_ne (And.intro @rval_tmp (And.intro @rval_one (And.intro @rval_agg (And.intro @rvals_nil (And.intro @rvals_cons (And.intro @whole_one (And.intro @whole_nil (And.intro @whole_two (And.intro @seg_zero (And.intro @seg_cons (And.intro @seg_skip (And.intro @upd_upd (And.intro @set_same (And.intro @set_ne (And.intro @set_set (And.intro @none_upd (And.intro @none_set (And.intro @and_imp (And.intro @not_false_eq_true (And.intro @not_true_eq_false (And.intro @List.length_cons.{0} (And.intro @List.length_nil.{0} (And.intro @List.all_cons.{0} (And.intro @List.all_nil.{0} (And.intro @List.take_succ_cons.{0} (And.intro @List.take_zero.{0} (And.intro @List.take_nil.{0} (And.intro @List.drop_succ_cons.{0} (And.intro @List.drop_zero.{0} (And.intro @List.drop_nil.{0} (And.intro @List.cons_append.{0} (And.intro @List.nil_append.{0} (And.intro @List.append_nil.{0} (And.intro @List.getElem?_cons_succ.{0} (And.intro @List.getElem?_cons_zero.{0} (And.intro @List.getElem?_toArray.{0} (And.intro @List.map_cons.{0,0} (And.intro @List.map_nil.{0,0} (And.intro @Option.bind_some.{0,0} (And.intro @Option.map_some.{0,0} (And.intro @Bool.and_true (And.intro @Bool.true_and (And.intro @Bool.and_false (And.intro @Bool.false_and (And.intro @Bool.or_true (And.intro @Bool.true_or (And.intro @Bool.or_false (And.intro @Bool.false_or (And.intro @Bool.and_self (And.intro @Nat.zero_add (And.intro @Nat.add_zero (And.intro @true_and (And.intro @and_true (And.intro @Bool.not_true (And.intro @Bool.not_false (And.intro @beq_self_eq_true.{0} (And.intro @Bool.bne_true (And.intro @Bool.bne_false (And.intro @Option.isNone_none.{0} (And.intro @Option.isNone_some.{0} (And.intro @Bool.false_eq_true (((And.intro @decide_true (And.intro @decide_false (And.intro @Bool.true_bne (And.intro @Bool.false_bne (And.intro @bne_self_eq_false.{0} (And.intro @Bool.true_beq (And.intro @Bool.false_beq (And.intro @beq_true (And.intro @beq_false (And.intro @Int.toNat_natCast (And.intro @Int.natCast_nonneg (And.intro @int_beq (And.intro @int_bne (And.intro @str_beq (And.intro @decide_not (And.intro @Int.natCast_zero (@Int.cast_ofNat_Int)))))))))))))))))))))))))))))))))))))))))))))))))))))))))))))))))))))))))))))))))))))))))))))))))))))))))))))))))))))))))))))))))))))
end Go.Sp

-- SpO
namespace Go.Sp.Open
open Go.RowKit Go.ChangeShapes Go.WideShapes
/-- How a value of a type lies in cells: so many, and these. -/
structure Kd (α : Type) where
  sz : Nat
  K : World → α → List Value → Prop
def Kd.int (k : IntKind) : Kd Int := ⟨1, fun _ n cs => cs = [.int k n]⟩
def Kd.bool : Kd Bool := ⟨1, fun _ b cs => cs = [.bool b]⟩
def Kd.string : Kd ByteArray := ⟨1, fun _ s cs => cs = [.string s]⟩
/-- A slice that is not looked into. -/
def Kd.shut : Kd Value := ⟨1, fun _ v cs => cs = [v] ∧ ∃ a n c, v = .slice a n c⟩
def Kd.pair {α β : Type} (a : Kd α) (b : Kd β) : Kd (α × β) := ⟨a.sz + b.sz, fun w x cs => ∃ c1 c2, cs = c1 ++ c2 ∧ a.K w x.1 c1 ∧ b.K w x.2 c2⟩
def Kd.C {α : Type} (d : Kd α) (w : World) (A : Option Addr) (xs : List α) : Prop := ∀ j x, xs[j]? = some x → ∃ a, A = some a ∧ ∃ cs, cs.length = d.sz ∧ d.K w x cs ∧ ∀ i u, cs[i]? = some u → w.cell? (a.add (j * d.sz + i)) = some u
def Kd.slice {α : Type} (d : Kd α) : Kd (List α) := ⟨1, fun w xs cs => ∃ A c, cs = [.slice A xs.length c] ∧ xs.length ≤ c ∧ d.C w A xs⟩
/-- The kind of a structure of mine, out of its cells. -/
def Kd.of {α : Type} (n : Nat) (f : α → List Value) : Kd α := ⟨n, fun _ x cs => cs = f x⟩

def Small {H : Type} (P : Program) (t : TypeId) (d : DataW H) : Prop := ∀ n ∈ d.weights P t, n ≤ 140737488351232
def Opens (P : Program) (t : TypeId) {α : Type} (d : Kd α) (G : α → Prop) : Prop :=
  ∀ (H : Type) (enc : TypeId × Value → H) (w : World) (base : Nat) (spare : Nat → Bool) (held : Bool) (fuel : Nat) (cs : List Value) (x : DataW H × List MemPlace),
    DataW.trod enc P w base spare held fuel t cs = some x → Small P t x.1 → ∃ a : α, d.K w a cs ∧ G a

theorem opens_int {P : Program} {t : TypeId} {k : IntKind} (ht : P.underlying t = some (.int k)) : Opens P t (Kd.int k) (fun n => (Lit.int k n).wf = true) := by
  intro H enc w base spare held fuel cs x h _
  obtain ⟨n, rfl, _, hw⟩ := DataW.trod_int ht h
  exact ⟨n, rfl, hw⟩
theorem opens_bool {P : Program} {t : TypeId} (ht : P.underlying t = some .bool) : Opens P t Kd.bool (fun _ => True) := by
  intro H enc w base spare held fuel cs x h _
  obtain ⟨b, rfl, _⟩ := DataW.trod_bool ht h
  exact ⟨b, rfl, trivial⟩
theorem opens_string {P : Program} {t : TypeId} (ht : P.underlying t = some .string) : Opens P t Kd.string (fun s => s.size ≤ 140737488351232) := by
  intro H enc w base spare held fuel cs x h hs
  obtain ⟨s, rfl, rfl, _⟩ := DataW.trod_string ht h
  refine ⟨s, rfl, ?_⟩
  have := hs s.data.toList.length (by simp [DataW.weights])
  rwa [Array.length_toList] at this
theorem mem_weightsAll {H : Type} {P : Program} {e : TypeId} {d : DataW H} : ∀ {l : List (DataW H)}, d ∈ l → ∀ n ∈ d.weights P e, n ∈ DataW.weightsAll P e l
  | _ :: l, h, n, hn => by
    unfold DataW.weightsAll
    rcases List.mem_cons.1 h with h | h
    · subst h
      exact List.mem_append_left _ hn
    · exact List.mem_append_right _ (mem_weightsAll h n hn)
theorem mapM_get {α : Type} {f : Nat → Option α} : ∀ {l : List Nat} {cs : List α}, l.mapM f = some cs → cs.length = l.length ∧ ∀ (j i : Nat), l[j]? = some i → f i = cs[j]?
  | [], cs, h => by
    simp at h
    subst h
    exact ⟨rfl, fun j i hj => by simp at hj⟩
  | a :: l, cs, h => by
    rw [List.mapM_cons] at h
    cases ha : f a with
    | none => simp [ha] at h
    | some c =>
      cases hl : l.mapM f with
      | none => simp [ha, hl] at h
      | some r =>
        simp [ha, hl] at h
        subst h
        obtain ⟨h1, h2⟩ := mapM_get hl
        refine ⟨by simp [h1], fun j i hj => ?_⟩
        cases j with
        | zero => simp at hj; subst hj; simpa using ha
        | succ j => simp at hj; simpa using h2 j i hj
theorem cells_get {w : World} {base : Nat} {a : Addr} {n : Nat} {cs : List Value} (h : w.cells? base a n = some cs) : cs.length = n ∧ ∀ j u, cs[j]? = some u → w.cell? (a.add j) = some u := by
  unfold World.cells? at h
  split at h
  · obtain ⟨h1, h2⟩ := mapM_get h
    simp only [List.length_range] at h1
    refine ⟨h1, fun j u hu => ?_⟩
    have hj : j < n := by have := (List.getElem?_eq_some_iff.1 hu).1; omega
    rw [h2 j j (by simp [hj]), hu]
  · cases h
theorem gather {α : Type} {Q : Nat → α → Prop} : ∀ {n : Nat}, (∀ i, i < n → ∃ a, Q i a) → ∃ xs : List α, xs.length = n ∧ ∀ i p, xs[i]? = some p → Q i p
  | 0, _ => ⟨[], rfl, fun i p hp => by simp at hp⟩
  | n + 1, one => by
    obtain ⟨xs, h1, h2⟩ := gather (n := n) (fun i hi => one i (by omega))
    obtain ⟨p, hp⟩ := one n (by omega)
    refine ⟨xs ++ [p], by simp [h1], fun i q hq => ?_⟩
    by_cases hi : i < n
    · rw [List.getElem?_append_left (by omega)] at hq
      exact h2 i q hq
    · have hi2 : i = n := by
        have := (List.getElem?_eq_some_iff.1 hq).1
        simp at this
        omega
      subst hi2
      rw [List.getElem?_append_right (by omega), h1] at hq
      simp at hq
      subst hq
      exact hp
theorem add_add (a : Addr) (i j : Nat) : (a.add i).add j = a.add (i + j) := by
  unfold Addr.add
  by_cases h : i = 0 <;> by_cases h2 : j = 0 <;> simp_all <;> omega
theorem opens_shut {P : Program} {t e : TypeId} (ht : P.underlying t = some (.slice e)) : Opens P t Kd.shut (fun v => one v = true) := by
  intro H enc w base spare held fuel cs x h hs
  rcases DataW.trod_slice ht h with ⟨rfl, rfl⟩ | ⟨a, len, cap, elems, rest, n, _, rfl, rfl, _, hl, hm, hlen, hel, _, _⟩
  · exact ⟨.slice none 0 0, ⟨rfl, _, _, _, rfl⟩, rfl⟩
  · exact ⟨.slice (some a) len cap, ⟨rfl, _, _, _, rfl⟩, rfl⟩
theorem opens_slice {P : Program} {t e : TypeId} {α : Type} {d : Kd α} {G : α → Prop} (B : Nat) (ht : P.underlying t = some (.slice e)) (hc : P.cellsOf e = d.sz) (hB : P.bytesOf e = B) (he : Opens P e d G) :
    Opens P t (Kd.slice d) (fun xs => xs.length * B ≤ 140737488351232 ∧ ∀ x ∈ xs, G x) := by
  intro H enc w base spare held fuel cs x h hs
  rcases DataW.trod_slice ht h with ⟨rfl, rfl⟩ | ⟨a, len, cap, elems, rest, n, _, rfl, rfl, _, hl, hm, hlen, hel, _, _⟩
  · exact ⟨[], ⟨none, 0, rfl, Nat.le_refl _, fun j x hx => by simp at hx⟩, by simp, fun x hx => by cases hx⟩
  · have hw : ((elems.map (·.1)).length + (rest.map (·.1)).length) * P.bytesOf e ≤ 140737488351232 := hs _ (by simp [DataW.weights, ht])
    have each : ∀ y ∈ elems, Small P e y.1 := fun y hy m hm2 => hs m (by
      simp only [DataW.weights, ht]
      exact List.mem_cons_of_mem _ (List.mem_append_left _ (mem_weightsAll (List.mem_map_of_mem hy) m hm2)))
    have one : ∀ i, i < len → ∃ a' : α, (∃ c, c.length = d.sz ∧ d.K w a' c ∧ ∀ j u, c[j]? = some u → w.cell? (a.add (i * d.sz + j)) = some u) ∧ G a' := by
      intro i hi
      have h1 := hel i hi
      rw [List.getElem?_eq_getElem (by omega)] at h1
      obtain ⟨c, hc1, hc2⟩ := Option.bind_eq_some_iff.1 h1
      obtain ⟨hl1, hcell⟩ := cells_get hc1
      obtain ⟨a', hk, hg⟩ := he H enc w base spare held n c _ hc2 (each _ (List.getElem_mem _))
      refine ⟨a', ⟨c, by rw [hl1, hc], hk, fun j u hu => ?_⟩, hg⟩
      rw [← add_add, ← hc]
      exact hcell j u hu
    obtain ⟨xs, hx1, hx2⟩ := gather one
    refine ⟨xs, ⟨some a, cap, by rw [hx1], by omega, fun j p hp => ⟨a, rfl, (hx2 j p hp).1⟩⟩, ?_, fun x hx => ?_⟩
    · rw [hB] at hw
      simp only [List.length_map] at hw
      exact Nat.le_trans (Nat.mul_le_mul_right _ (by omega)) hw
    · obtain ⟨i, hi, rfl⟩ := List.getElem_of_mem hx
      exact (hx2 i _ (List.getElem?_eq_getElem hi)).2
theorem opens_iso {P : Program} {t : TypeId} {α β : Type} {d : Kd α} {d' : Kd β} {G : α → Prop} {G' : β → Prop} (f : α → β) (hK : ∀ w a cs, d.K w a cs → d'.K w (f a) cs) (hG : ∀ a, G a → G' (f a)) (h : Opens P t d G) : Opens P t d' G' := by
  intro H enc w base spare held fuel cs x hx hs
  obtain ⟨a, hk, hg⟩ := h H enc w base spare held fuel cs x hx hs
  exact ⟨f a, hK w a cs hk, hG a hg⟩
theorem opens_rel {P : Program} {t : TypeId} {α β : Type} {d : Kd α} {d' : Kd β} {G : α → Prop} {G' : β → Prop} (h : Opens P t d G) (hr : ∀ w a cs, d.K w a cs → G a → ∃ b, d'.K w b cs ∧ G' b) : Opens P t d' G' := by
  intro H enc w base spare held fuel cs x hx hs
  obtain ⟨a, hk, hg⟩ := h H enc w base spare held fuel cs x hx hs
  exact hr w a cs hk hg
/-- The fields of a struct from the offset o on. -/
def OpensF (P : Program) (fs : List Field) (o : Nat) {α : Type} (d : Kd α) (G : α → Prop) : Prop :=
  ∀ (H : Type) (enc : TypeId × Value → H) (w : World) (base : Nat) (spare : Nat → Bool) (held : Bool) (n : Nat) (cs : List Value) (xs : List (DataW H × List MemPlace)),
    cs.length = o + d.sz → xs.length = fs.length → (∀ (i : Nat) (f : Field), fs[i]? = some f → DataW.trod enc P w base spare held n f.type ((cs.drop f.offset).take (P.cellsOf f.type)) = xs[i]?) →
    (∀ m ∈ DataW.weightsEach P (fs.map (·.type)) (xs.map (·.1)), m ≤ 140737488351232) → ∃ a : α, d.K w a (cs.drop o) ∧ G a
theorem opensF_one {P : Program} {f : Field} {o : Nat} {α : Type} {d : Kd α} {G : α → Prop} (ho : f.offset = o) (hc : P.cellsOf f.type = d.sz) (h : Opens P f.type d G) : OpensF P [f] o d G := by
  intro H enc w base spare held n cs xs hl hx hf hw
  match xs, hx with
  | [y], _ =>
    have h0 : DataW.trod enc P w base spare held n f.type ((cs.drop f.offset).take (P.cellsOf f.type)) = some y := by simpa using hf 0 f rfl
    rw [ho, hc, List.take_of_length_le (by rw [List.length_drop]; omega)] at h0
    exact h H enc w base spare held n _ _ h0 (fun m hm => hw m (by simp [DataW.weightsEach, hm]))
theorem opensF_cons {P : Program} {f : Field} {fs : List Field} {o : Nat} {α β : Type} {a : Kd α} {b : Kd β} {G : α → Prop} {G' : β → Prop} (ho : f.offset = o) (hc : P.cellsOf f.type = a.sz) (h : Opens P f.type a G) (hr : OpensF P fs (o + a.sz) b G') :
    OpensF P (f :: fs) o (Kd.pair a b) (fun x => G x.1 ∧ G' x.2) := by
  intro H enc w base spare held n cs xs hl hx hf hw
  have hl' : cs.length = o + (a.sz + b.sz) := hl
  match xs, hx with
  | y :: ys, hx =>
    have h0 : DataW.trod enc P w base spare held n f.type ((cs.drop f.offset).take (P.cellsOf f.type)) = some y := by simpa using hf 0 f rfl
    rw [ho, hc] at h0
    obtain ⟨x0, hk0, hg0⟩ := h H enc w base spare held n _ _ h0 (fun m hm => hw m (by simp [DataW.weightsEach, hm]))
    obtain ⟨x1, hk1, hg1⟩ := hr H enc w base spare held n cs ys (by omega) (by simpa using hx) (fun i g hi => by simpa using hf (i + 1) g (by simpa using hi)) (fun m hm => hw m (by simp only [List.map_cons, DataW.weightsEach]; exact List.mem_append_right _ hm))
    refine ⟨(x0, x1), ⟨(cs.drop o).take a.sz, cs.drop (o + a.sz), ?_, hk0, hk1⟩, hg0, hg1⟩
    rw [← List.drop_drop]
    exact (List.take_append_drop _ _).symm
theorem opens_struct {P : Program} {t : TypeId} {fs : Array Field} {α : Type} {d : Kd α} {G : α → Prop} (ht : P.underlying t = some (.struct fs)) (hc : P.cellsOf t = d.sz) (h : OpensF P fs.toList 0 d G) : Opens P t d G := by
  intro H enc w base spare held fuel cs x hx hs
  obtain ⟨xs, n, _, rfl, hl, hlen, hf⟩ := DataW.trod_struct ht hx
  obtain ⟨a, hk, hg⟩ := h H enc w base spare held n cs xs (by rw [hl, hc]; omega) (by simpa using hlen) (fun i f hi => hf i f (by simpa using hi)) (fun m hm => hs m (by simpa [DataW.weights, ht] using hm))
  exact ⟨a, by simpa using hk, hg⟩
theorem opens_mono {P : Program} {t : TypeId} {α : Type} {d : Kd α} {G G' : α → Prop} (h : Opens P t d G) (hg : ∀ x, G x → G' x) : Opens P t d G' := by
  intro H enc w base spare held fuel cs x hx hs
  obtain ⟨a, hk, h1⟩ := h H enc w base spare held fuel cs x hx hs
  exact ⟨a, hk, hg a h1⟩
/-- Argument j's weights out of the row's. -/
theorem small_arg {H : Type} {P : Program} {ts : List TypeId} {ds : List (DataW H)} (hsz : (DataW.weightsEach P ts ds).all (· ≤ reachBytes) = true) {j : Nat} {t : TypeId} {d : DataW H} (ht : ts[j]? = some t) (hd : ds[j]? = some d) : Small P t d := by
  intro n hn
  have := List.all_eq_true.1 hsz _ (DataW.weights_mem_each ht hd n hn)
  have h2 : n ≤ reachBytes := by simpa using this
  exact h2
theorem arg_struct {H : Type} {enc : TypeId × Value → H} {P : Program} {w : World} {r : Reach} {b0 base : Nat} {spare : Nat → Bool} {held : Bool} {t : TypeId} {fs : Array Field} {α : Type} {d : Kd α} {G : α → Prop} {v : Value} {x : DataW H} {p : List MemPlace} (ho : Opens P t d G) (ht : P.underlying t = some (.struct fs)) (hv : Value.okWide P w r b0 t v) (h : DataW.Trod enc P w base spare held t v x p) (hs : Small P t x) :
    ∃ (cs : Array Value) (a : α), v = .agg cs ∧ d.K w a cs.toList ∧ G a := by
  obtain ⟨cs, rfl, _⟩ := okWide_struct ht hv
  obtain ⟨fuel, hf⟩ := h
  obtain ⟨a, hk, hg⟩ := ho H enc w base spare held fuel _ _ hf hs
  exact ⟨cs, a, rfl, by simpa [Value.cells] using hk, hg⟩
theorem arg_slice {H : Type} {enc : TypeId × Value → H} {P : Program} {w : World} {r : Reach} {b0 base : Nat} {spare : Nat → Bool} {held : Bool} {t e : TypeId} {α : Type} {d : Kd α} {G : List α → Prop} {v : Value} {x : DataW H} {p : List MemPlace} (ho : Opens P t (Kd.slice d) G) (ht : P.underlying t = some (.slice e)) (hv : Value.okWide P w r b0 t v) (h : DataW.Trod enc P w base spare held t v x p) (hs : Small P t x) :
    ∃ (A : Option Addr) (c : Nat) (xs : List α), v = .slice A xs.length c ∧ xs.length ≤ c ∧ d.C w A xs ∧ G xs := by
  obtain ⟨a, len, cap, rfl⟩ := okWide_slice ht hv
  obtain ⟨fuel, hf⟩ := h
  obtain ⟨xs, ⟨A, c, he, hl, hk⟩, hg⟩ := ho H enc w base spare held fuel _ _ hf hs
  simp [Value.cells] at he
  obtain ⟨rfl, rfl, rfl⟩ := he
  exact ⟨_, _, xs, rfl, hl, hk, hg⟩
/-- All that a world holds, to be read alone. -/
def full (w : World) : Hp := fun k => (w.heap[k]?).map Blk.ro
theorem full_sat (w : World) : Sat (full w) w := fun b o h => by
  unfold full at h
  cases hb : w.heap[b]? with
  | none => rw [hb] at h; cases h
  | some x => rw [hb] at h; cases h; exact rfl
/-- From the known heap to the world. -/
theorem calls_row {P : Program} {f : FuncId} {args : Array Value} {w : World} (h : ACalls P f args (full w) fun v σ' => v = .bool true ∧ σ' = full w) : Calls P f args w fun e w' => e = .returned (.bool true) ∧ Below w.heap.size w w' := by
  refine (h w (full_sat w)).mono ?_
  rintro e w' ⟨v, σ', rfl, hs, hf, rfl, rfl⟩
  refine ⟨rfl, hf.os, hf.tape, hf.output, hf.size, fun k hk => ?_⟩
  have : full w k = some (.ro w.heap[k]) := by unfold full; rw [Array.getElem?_eq_getElem hk]; rfl
  have h1 : w'.heap[k]? = some w.heap[k] := hs k _ this
  rw [h1, Array.getElem?_eq_getElem hk]
theorem ro_rows {α : Type} {n : Nat} {f : α → List Value} {w : World} {A : Option Addr} {c : Nat} {xs : List α} (hn : 0 < n) (h : (Kd.of n f).C w A xs) : RoRows n f (full w) (.slice A xs.length c) xs := by
  refine ⟨A, c, rfl, fun i x hx => ?_⟩
  obtain ⟨a, rfl, cs, hl, rfl, hc⟩ := h i x hx
  have hl : (f x).length = n := hl
  obtain ⟨b, o, sp⟩ := a
  have h0 := hc 0 (f x)[0] (List.getElem?_eq_getElem (by omega))
  have hx0 : ∃ y, xs[0]? = some y := ⟨_, List.getElem?_eq_getElem (by have := (List.getElem?_eq_some_iff.1 hx).1; omega)⟩
  obtain ⟨y, hy⟩ := hx0
  obtain ⟨a2, e2, cs2, hl2, rfl, hc2⟩ := h 0 y hy
  cases e2
  have hl2 : (f y).length = n := hl2
  have h00 := hc2 0 (f y)[0] (List.getElem?_eq_getElem (by omega))
  have hsp : sp = none := by
    cases sp with
    | none => rfl
    | some q =>
      have e : (⟨b, o, some q⟩ : Addr).add (0 * (Kd.of n f).sz + 0) = ⟨b, o, some q⟩ := by simp [Addr.add]
      rw [e] at h00
      simp only [World.cell?, Option.isSome_some, if_true] at h00
      split at h00 <;> cases h00
  subst hsp
  have hb : ∃ c2 t fr, w.heap[b]? = some (.cells c2 t fr) := by
    rw [addr_add] at h0
    unfold World.cell? at h0
    split at h0
    · exact ⟨_, _, _, by assumption⟩
    · cases h0
  obtain ⟨c2, t, fr, hb⟩ := hb
  have hget : ∀ j u, (f x)[j]? = some u → c2[o + (i * n + j)]? = some u := fun j u hu => by
    have := hc j u hu
    rw [addr_add] at this
    simpa [World.cell?, hb, Kd.of] using this
  refine ⟨b, o, rfl, ?_⟩
  have e : full w b = some (.ro (.cells c2 t fr)) := by unfold full; rw [hb]; rfl
  unfold rdn
  rw [e]
  show seg c2.toList (o + i * n) n = some (f x)
  have hlast := hget (n - 1) (f x)[n - 1] (List.getElem?_eq_getElem (by omega))
  have hsz := (Array.getElem?_eq_some_iff.1 hlast).1
  unfold seg
  rw [if_pos (by simp; omega)]
  congr 1
  apply List.ext_getElem?
  intro j
  by_cases hj : j < n
  · rw [List.getElem?_take_of_lt hj, List.getElem?_drop]
    have := hget j (f x)[j] (List.getElem?_eq_getElem (by omega))
    rw [List.getElem?_eq_getElem (l := f x) (by omega), ← this]
    simp [Nat.add_assoc]
  · rw [List.getElem?_eq_none (by simp; omega), List.getElem?_eq_none (by omega)]
theorem u8_range {n : Int} (h : (Lit.int .u8 n).wf = true) : 0 ≤ n ∧ n ≤ 255 := by
  have e1 : IntKind.u8.min = 0 := by decide
  have e2 : IntKind.u8.max = 255 := by decide
  simp [Lit.wf] at h
  omega
end Go.Sp.Open

-- T9
namespace Go.Proofs.YtaoafjlocjjbbaaDoor
open Go.Sp
set_option maxRecDepth 100000
/-- vouch/vouchlaw18.fixed -/
def c29 : C := (.seq (.reg [⟨(some 0), (.mv (.const (.bool false))), none⟩])
 (.seq (.reg [⟨(some 16), (.bld [.int .i64 (0), .int .i64 (0), .int .i64 (0), .int .i64 (0), .int .i64 (0), .int .i64 (0), .int .i64 (0), .int .i64 (0)] [(0, 1, (.const (.int .i64 1)))]), none⟩,
 ⟨(some 17), (.call 30 [(.tmp 16)]), none⟩,
 ⟨(some 1), (.mv (.tmp 17)), none⟩])
 (.seq (.seq (.reg [⟨(some 18), (.mv (.tmp 1)), none⟩,
 ⟨(some 19), (.eqs false .ptr (.tmp 18) (.const (.pointer none))), none⟩])
 (.cond (.tmp 19) (.seq (.reg [⟨(some 0), (.mv (.const (.bool false))), none⟩])
 .ret)
 .skip))
 (.seq (.reg [⟨(some 21), (.mv (.tmp 1)), none⟩,
 ⟨(some 22), (.call 31 [(.tmp 21)]), none⟩,
 ⟨(some 20), (.mv (.tmp 22)), none⟩,
 ⟨(some 23), (.ext 0 (.tmp 20)), none⟩,
 ⟨(some 24), (.ext 1 (.tmp 20)), none⟩,
 ⟨(some 2), (.mv (.tmp 23)), none⟩,
 ⟨(some 3), (.mv (.tmp 24)), none⟩])
 (.seq (.reg [⟨(some 26), (.mv (.tmp 1)), none⟩,
 ⟨(some 27), (.call 31 [(.tmp 26)]), none⟩,
 ⟨(some 25), (.mv (.tmp 27)), none⟩,
 ⟨(some 28), (.ext 0 (.tmp 25)), none⟩,
 ⟨(some 29), (.ext 1 (.tmp 25)), none⟩,
 ⟨(some 4), (.mv (.tmp 28)), none⟩,
 ⟨(some 5), (.mv (.tmp 29)), none⟩])
 (.seq (.reg [⟨(some 31), (.mv (.tmp 1)), none⟩,
 ⟨(some 32), (.call 58 [(.const (.string { data := #[97] })), (.const (.string { data := #[120] }))]), none⟩,
 ⟨(some 33), (.lit 37 1 3 [.string ⟨#[]⟩, .bool false, .string ⟨#[]⟩] [(0, 3, (.tmp 32))]), none⟩,
 ⟨(some 34), (.call 39 [(.tmp 31), (.const (.int .i64 0)), (.tmp 33)]), none⟩,
 ⟨(some 30), (.mv (.tmp 34)), none⟩,
 ⟨(some 35), (.ext 0 (.tmp 30)), none⟩,
 ⟨(some 36), (.ext 1 (.tmp 30)), none⟩,
 ⟨(some 6), (.new 33 [.int .i64 (0), .int .i64 (0), .int .i64 (0), .int .i64 (0), .int .i64 (0), .int .i64 (0), .string ⟨#[]⟩, .int .i64 (0), .int .i64 (0), .bool false, .string ⟨#[]⟩, .bool false, .int .i64 (0), .int .i64 (0), .slice none 0 0, .slice none 0 0]), none⟩,
 ⟨none, (.st 16 (.tmp 6) (.tmp 35)), none⟩,
 ⟨(some 7), (.mv (.tmp 36)), none⟩])
 (.seq (.reg [⟨(some 38), (.mv (.tmp 1)), none⟩,
 ⟨(some 39), (.bld [.int .i64 (0), .int .i64 (0), .int .i64 (0), .int .i64 (0), .int .i64 (0), .int .i64 (0), .string ⟨#[]⟩, .int .i64 (0), .int .i64 (0), .bool false, .string ⟨#[]⟩, .bool false, .int .i64 (0), .int .i64 (0), .slice none 0 0, .slice none 0 0] [(0, 1, (.const (.int .i64 2))), (5, 1, (.const (.int .i64 1))), (13, 1, (.const (.int .i64 5)))]), none⟩,
 ⟨(some 40), (.call 35 [(.tmp 38), (.tmp 39)]), none⟩,
 ⟨(some 37), (.mv (.tmp 40)), none⟩,
 ⟨(some 41), (.ext 0 (.tmp 37)), none⟩,
 ⟨(some 42), (.ext 1 (.tmp 37)), none⟩,
 ⟨(some 8), (.new 33 [.int .i64 (0), .int .i64 (0), .int .i64 (0), .int .i64 (0), .int .i64 (0), .int .i64 (0), .string ⟨#[]⟩, .int .i64 (0), .int .i64 (0), .bool false, .string ⟨#[]⟩, .bool false, .int .i64 (0), .int .i64 (0), .slice none 0 0, .slice none 0 0]), none⟩,
 ⟨none, (.st 16 (.tmp 8) (.tmp 41)), none⟩,
 ⟨(some 9), (.mv (.tmp 42)), none⟩])
 (.seq (.reg [⟨(some 44), (.mv (.tmp 1)), none⟩,
 ⟨(some 45), (.call 41 [(.tmp 44), (.const (.int .i64 0))]), none⟩,
 ⟨(some 43), (.mv (.tmp 45)), none⟩,
 ⟨(some 46), (.ext 0 (.tmp 43)), none⟩,
 ⟨(some 47), (.ext 1 (.tmp 43)), none⟩,
 ⟨(some 10), (.mv (.tmp 46)), none⟩,
 ⟨(some 11), (.mv (.tmp 47)), none⟩])
 (.seq (.seq (.reg [⟨(some 48), (.mv (.tmp 2)), none⟩,
 ⟨(some 49), (.bin .neq (.tmp 48) (.const (.int .i64 0))), none⟩,
 ⟨(some 50), (.mv (.tmp 49)), none⟩,
 ⟨(some 51), (.mv (.tmp 3)), (some (50, false))⟩,
 ⟨(some 52), (.bin .neq (.tmp 51) (.const (.int .i64 0))), (some (50, false))⟩,
 ⟨(some 53), (.pick (.tmp 50) (.const (.bool true)) (.tmp 52)), none⟩,
 ⟨(some 54), (.mv (.tmp 53)), none⟩,
 ⟨(some 55), (.mv (.tmp 4)), (some (54, false))⟩,
 ⟨(some 56), (.bin .neq (.tmp 55) (.const (.int .i64 1))), (some (54, false))⟩,
 ⟨(some 57), (.pick (.tmp 54) (.const (.bool true)) (.tmp 56)), none⟩,
 ⟨(some 58), (.mv (.tmp 57)), none⟩,
 ⟨(some 59), (.mv (.tmp 5)), (some (58, false))⟩,
 ⟨(some 60), (.bin .neq (.tmp 59) (.const (.int .i64 0))), (some (58, false))⟩,
 ⟨(some 61), (.pick (.tmp 58) (.const (.bool true)) (.tmp 60)), none⟩,
 ⟨(some 62), (.mv (.tmp 61)), none⟩,
 ⟨(some 63), (.fa 0 (.tmp 6)), (some (62, false))⟩,
 ⟨(some 64), (.ld none (.tmp 63)), (some (62, false))⟩,
 ⟨(some 65), (.bin .neq (.tmp 64) (.const (.int .i64 1))), (some (62, false))⟩,
 ⟨(some 66), (.pick (.tmp 62) (.const (.bool true)) (.tmp 65)), none⟩,
 ⟨(some 67), (.mv (.tmp 66)), none⟩,
 ⟨(some 68), (.mv (.tmp 7)), (some (67, false))⟩,
 ⟨(some 69), (.bin .neq (.tmp 68) (.const (.int .i64 0))), (some (67, false))⟩,
 ⟨(some 70), (.pick (.tmp 67) (.const (.bool true)) (.tmp 69)), none⟩,
 ⟨(some 71), (.mv (.tmp 70)), none⟩,
 ⟨(some 72), (.mv (.tmp 9)), (some (71, false))⟩,
 ⟨(some 73), (.nt (.tmp 72)), (some (71, false))⟩,
 ⟨(some 74), (.pick (.tmp 71) (.const (.bool true)) (.tmp 73)), none⟩,
 ⟨(some 75), (.mv (.tmp 74)), none⟩,
 ⟨(some 76), (.mv (.tmp 10)), (some (75, false))⟩,
 ⟨(some 77), (.bin .neq (.tmp 76) (.const (.string { data := #[116, 53, 46, 109] }))), (some (75, false))⟩,
 ⟨(some 78), (.pick (.tmp 75) (.const (.bool true)) (.tmp 77)), none⟩,
 ⟨(some 79), (.mv (.tmp 78)), none⟩,
 ⟨(some 80), (.mv (.tmp 11)), (some (79, false))⟩,
 ⟨(some 81), (.bin .neq (.tmp 80) (.const (.int .i64 0))), (some (79, false))⟩,
 ⟨(some 82), (.pick (.tmp 79) (.const (.bool true)) (.tmp 81)), none⟩,
 ⟨(some 83), (.mv (.tmp 82)), none⟩,
 ⟨(some 84), (.mv (.tmp 1)), (some (83, false))⟩,
 ⟨(some 85), (.call 43 [(.tmp 84), (.const (.int .i64 1)), (.const (.string { data := #[116, 53, 46, 109] }))]), (some (83, false))⟩,
 ⟨(some 86), (.bin .neq (.tmp 85) (.const (.int .i64 0))), (some (83, false))⟩,
 ⟨(some 87), (.pick (.tmp 83) (.const (.bool true)) (.tmp 86)), none⟩])
 (.cond (.tmp 87) (.seq (.reg [⟨(some 0), (.mv (.const (.bool false))), none⟩])
 .ret)
 .skip))
 (.seq (.reg [⟨(some 89), (.mv (.tmp 1)), none⟩,
 ⟨(some 90), (.call 32 [(.tmp 89), (.const (.int .i64 1))]), none⟩,
 ⟨(some 88), (.mv (.tmp 90)), none⟩,
 ⟨(some 91), (.ext 0 (.tmp 88)), none⟩,
 ⟨(some 92), (.ext 1 (.tmp 88)), none⟩,
 ⟨(some 12), (.mv (.tmp 91)), none⟩,
 ⟨(some 13), (.mv (.tmp 92)), none⟩])
 (.seq (.reg [⟨(some 94), (.mv (.tmp 1)), none⟩,
 ⟨(some 95), (.mv (.tmp 12)), none⟩,
 ⟨(some 96), (.call 36 [(.tmp 94), (.tmp 95)]), none⟩,
 ⟨(some 93), (.mv (.tmp 96)), none⟩,
 ⟨(some 97), (.ext 0 (.tmp 93)), none⟩,
 ⟨(some 98), (.ext 1 (.tmp 93)), none⟩,
 ⟨(some 14), (.mv (.tmp 97)), none⟩,
 ⟨(some 15), (.mv (.tmp 98)), none⟩])
 (.seq (.reg [⟨(some 99), (.mv (.tmp 12)), none⟩,
 ⟨(some 100), (.bin .eql (.tmp 99) (.const (.int .i64 0))), none⟩,
 ⟨(some 101), (.mv (.tmp 100)), none⟩,
 ⟨(some 102), (.mv (.tmp 13)), (some (101, true))⟩,
 ⟨(some 103), (.bin .eql (.tmp 102) (.const (.int .i64 0))), (some (101, true))⟩,
 ⟨(some 104), (.pick (.tmp 101) (.tmp 103) (.const (.bool false))), none⟩,
 ⟨(some 105), (.mv (.tmp 104)), none⟩,
 ⟨(some 106), (.mv (.tmp 14)), (some (105, true))⟩,
 ⟨(some 107), (.bin .eql (.tmp 106) (.const (.int .i64 5))), (some (105, true))⟩,
 ⟨(some 108), (.pick (.tmp 105) (.tmp 107) (.const (.bool false))), none⟩,
 ⟨(some 109), (.mv (.tmp 108)), none⟩,
 ⟨(some 110), (.mv (.tmp 15)), (some (109, true))⟩,
 ⟨(some 111), (.bin .eql (.tmp 110) (.const (.int .i64 0))), (some (109, true))⟩,
 ⟨(some 112), (.pick (.tmp 109) (.tmp 111) (.const (.bool false))), none⟩,
 ⟨(some 0), (.mv (.tmp 112)), none⟩])
 .ret))))))))))))
def r29 : List RV := [.tmp 0]
theorem ok29 : FnOk Tryd.prog 29 113 c29 r29 := ⟨[25, 24], _, _, Tryd.func29, rfl, rfl, by kernel_rfl, by kernel_rfl, by kernel_rfl⟩
/-- vouch/client.New -/
def c30 : C := (.seq (.reg [⟨(some 1), (.box 73 (.tmp 0)), none⟩,
 ⟨(some 2), (.mv (.const (.pointer none))), none⟩])
 (.seq (.reg [⟨(some 3), (.ld (some 8) (.tmp 1)), none⟩,
 ⟨(some 4), (.call 59 [(.tmp 3)]), none⟩,
 ⟨(some 5), (.bld [.int .i64 (0), .int .i64 (0), .int .i64 (0), .int .i64 (0), .int .i64 (0), .int .i64 (0), .int .i64 (0), .int .i64 (0), .slice none 0 0, .slice none 0 0, .slice none 0 0] [(0, 8, (.tmp 4))]), none⟩,
 ⟨(some 6), (.box 124 (.tmp 5)), none⟩,
 ⟨(some 2), (.mv (.tmp 6)), none⟩])
 .ret))
def r30 : List RV := [.tmp 2]
theorem ok30 : FnOk Tryd.prog 30 7 c30 r30 := ⟨[25, 24], _, _, Tryd.func30, rfl, rfl, by kernel_rfl, by kernel_rfl, by kernel_rfl⟩
/-- (*vouch/client.Client).Open -/
def c31 : C := (.seq (.reg [⟨(some 2), (.mv (.const (.int .i64 0))), none⟩,
 ⟨(some 3), (.mv (.const (.int .i64 0))), none⟩])
 (.seq (.block 0 (.seq (.reg [⟨(some 6), (.mv (.tmp 0)), none⟩,
 ⟨(some 7), (.eqs false .ptr (.tmp 6) (.const (.pointer none))), none⟩,
 ⟨(some 5), (.mv (.tmp 7)), none⟩])
 (.cond (.tmp 5) (.seq (.reg [⟨(some 2), (.mv (.const (.int .i64 0))), none⟩,
 ⟨(some 3), (.mv (.const (.int .i64 3))), none⟩])
 .ret)
 (.seq (.reg [⟨(some 9), (.mv (.tmp 0)), none⟩,
 ⟨(some 10), (.nilc (.tmp 9)), none⟩,
 ⟨(some 11), (.fa 8 (.tmp 10)), none⟩,
 ⟨(some 12), (.ld none (.tmp 11)), none⟩,
 ⟨(some 13), (.len true (.tmp 12)), none⟩,
 ⟨(some 14), (.bin .geq (.tmp 13) (.const (.int .i64 64))), none⟩,
 ⟨(some 8), (.mv (.tmp 14)), none⟩])
 (.cond (.tmp 8) (.seq (.reg [⟨(some 2), (.mv (.const (.int .i64 0))), none⟩,
 ⟨(some 3), (.mv (.const (.int .i64 2))), none⟩])
 .ret)
 .skip)))))
 (.seq (.reg [⟨(some 15), (.mv (.tmp 0)), none⟩,
 ⟨(some 16), (.nilc (.tmp 15)), none⟩,
 ⟨(some 17), (.fa 8 (.tmp 16)), none⟩,
 ⟨(some 18), (.ld none (.tmp 17)), none⟩,
 ⟨(some 19), (.len true (.tmp 18)), none⟩,
 ⟨(some 4), (.mv (.tmp 19)), none⟩])
 (.seq (.draw [⟨⟨(some 20), (.mv (.tmp 0)), none⟩, .p⟩,
 ⟨⟨(some 21), (.mv (.tmp 0)), none⟩, .p⟩,
 ⟨⟨(some 22), (.nilc (.tmp 21)), none⟩, .p⟩,
 ⟨⟨(some 23), (.fa 8 (.tmp 22)), none⟩, .p⟩,
 ⟨⟨(some 24), (.ld none (.tmp 23)), none⟩, .l⟩,
 ⟨⟨(some 25), (.mv (.tmp 4)), none⟩, .p⟩,
 ⟨⟨(some 26), (.call 14 [(.tmp 25)]), none⟩, .g⟩,
 ⟨⟨(some 27), (.lit 23 1 1 [.pointer none] [(0, 1, (.tmp 26))]), none⟩, .f⟩,
 ⟨⟨(some 28), (.app 23 1 8 (.tmp 24) (.tmp 27)), none⟩, .m⟩,
 ⟨⟨(some 29), (.nilc (.tmp 20)), none⟩, .p⟩,
 ⟨⟨(some 30), (.fa 8 (.tmp 29)), none⟩, .p⟩,
 ⟨⟨none, (.st 1 (.tmp 30) (.tmp 28)), none⟩, .m⟩])
 (.seq (.reg [⟨(some 31), (.mv (.tmp 4)), none⟩,
 ⟨(some 2), (.mv (.tmp 31)), none⟩,
 ⟨(some 3), (.mv (.const (.int .i64 0))), none⟩])
 .ret)))))
def r31 : List RV := [.tmp 2, .tmp 3]
theorem ok31 : FnOk Tryd.prog 31 32 c31 r31 := ⟨[25, 24], _, _, Tryd.func31, rfl, rfl, by kernel_rfl, by kernel_rfl, by kernel_rfl⟩
/-- (*vouch/client.Client).Begin -/
def c32 : C := (.seq (.reg [⟨(some 4), (.mv (.const (.int .i64 0))), none⟩,
 ⟨(some 5), (.mv (.const (.int .i64 0))), none⟩])
 (.seq (.reg [⟨(some 8), (.mv (.tmp 0)), none⟩,
 ⟨(some 9), (.mv (.tmp 1)), none⟩,
 ⟨(some 10), (.call 60 [(.tmp 8), (.tmp 9)]), none⟩,
 ⟨(some 6), (.mv (.tmp 10)), none⟩])
 (.seq (.block 0 (.seq (.reg [⟨(some 12), (.mv (.tmp 6)), none⟩,
 ⟨(some 13), (.eqs false .ptr (.tmp 12) (.const (.pointer none))), none⟩,
 ⟨(some 11), (.mv (.tmp 13)), none⟩])
 (.cond (.tmp 11) (.seq (.reg [⟨(some 4), (.mv (.const (.int .i64 0))), none⟩,
 ⟨(some 5), (.mv (.const (.int .i64 3))), none⟩])
 .ret)
 (.seq (.reg [⟨(some 15), (.mv (.tmp 0)), none⟩,
 ⟨(some 16), (.nilc (.tmp 15)), none⟩,
 ⟨(some 17), (.fa 9 (.tmp 16)), none⟩,
 ⟨(some 18), (.ld none (.tmp 17)), none⟩,
 ⟨(some 19), (.len true (.tmp 18)), none⟩,
 ⟨(some 20), (.bin .geq (.tmp 19) (.const (.int .i64 256))), none⟩,
 ⟨(some 14), (.mv (.tmp 20)), none⟩])
 (.cond (.tmp 14) (.seq (.reg [⟨(some 4), (.mv (.const (.int .i64 0))), none⟩,
 ⟨(some 5), (.mv (.const (.int .i64 2))), none⟩])
 .ret)
 .skip)))))
 (.seq (.reg [⟨(some 21), (.mv (.tmp 0)), none⟩,
 ⟨(some 22), (.nilc (.tmp 21)), none⟩,
 ⟨(some 23), (.fa 9 (.tmp 22)), none⟩,
 ⟨(some 24), (.ld none (.tmp 23)), none⟩,
 ⟨(some 25), (.len true (.tmp 24)), none⟩,
 ⟨(some 7), (.mv (.tmp 25)), none⟩])
 (.seq (.draw [⟨⟨(some 26), (.mv (.tmp 0)), none⟩, .p⟩,
 ⟨⟨(some 27), (.mv (.tmp 0)), none⟩, .p⟩,
 ⟨⟨(some 28), (.nilc (.tmp 27)), none⟩, .p⟩,
 ⟨⟨(some 29), (.fa 9 (.tmp 28)), none⟩, .p⟩,
 ⟨⟨(some 30), (.ld none (.tmp 29)), none⟩, .l⟩,
 ⟨⟨(some 31), (.mv (.tmp 7)), none⟩, .p⟩,
 ⟨⟨(some 32), (.mv (.tmp 0)), none⟩, .p⟩,
 ⟨⟨(some 33), (.nilc (.tmp 32)), none⟩, .p⟩,
 ⟨⟨(some 34), (.fa 0 (.tmp 33)), none⟩, .p⟩,
 ⟨⟨(some 35), (.fa 0 (.tmp 34)), none⟩, .p⟩,
 ⟨⟨(some 36), (.ld none (.tmp 35)), none⟩, .l⟩,
 ⟨⟨(some 37), (.mv (.tmp 6)), none⟩, .p⟩,
 ⟨⟨(some 38), (.call 26 [(.tmp 37)]), none⟩, .g⟩,
 ⟨⟨(some 39), (.call 61 [(.tmp 31), (.tmp 36), (.tmp 38)]), none⟩, .g⟩,
 ⟨⟨(some 40), (.mv (.tmp 6)), none⟩, .p⟩,
 ⟨⟨(some 41), (.bld [.pointer none, .pointer none] [(0, 1, (.tmp 39)), (1, 1, (.tmp 40))]), none⟩, .p⟩,
 ⟨⟨(some 42), (.lit 128 1 2 [.pointer none, .pointer none] [(0, 2, (.tmp 41))]), none⟩, .f⟩,
 ⟨⟨(some 43), (.app 128 2 16 (.tmp 30) (.tmp 42)), none⟩, .m⟩,
 ⟨⟨(some 44), (.nilc (.tmp 26)), none⟩, .p⟩,
 ⟨⟨(some 45), (.fa 9 (.tmp 44)), none⟩, .p⟩,
 ⟨⟨none, (.st 1 (.tmp 45) (.tmp 43)), none⟩, .m⟩])
 (.seq (.reg [⟨(some 46), (.mv (.tmp 0)), none⟩,
 ⟨(some 47), (.mv (.tmp 0)), none⟩,
 ⟨(some 48), (.nilc (.tmp 47)), none⟩,
 ⟨(some 49), (.fa 10 (.tmp 48)), none⟩,
 ⟨(some 50), (.ld none (.tmp 49)), none⟩,
 ⟨(some 51), (.mv (.tmp 1)), none⟩,
 ⟨(some 52), (.lit 3 1 1 [.int .i64 (0)] [(0, 1, (.tmp 51))]), none⟩,
 ⟨(some 53), (.app 3 1 8 (.tmp 50) (.tmp 52)), none⟩,
 ⟨(some 54), (.nilc (.tmp 46)), none⟩,
 ⟨(some 55), (.fa 10 (.tmp 54)), none⟩,
 ⟨none, (.st 1 (.tmp 55) (.tmp 53)), none⟩])
 (.seq (.reg [⟨(some 56), (.mv (.tmp 7)), none⟩,
 ⟨(some 4), (.mv (.tmp 56)), none⟩,
 ⟨(some 5), (.mv (.const (.int .i64 0))), none⟩])
 .ret)))))))
def r32 : List RV := [.tmp 4, .tmp 5]
theorem ok32 : FnOk Tryd.prog 32 57 c32 r32 := ⟨[25, 24], _, _, Tryd.func32, rfl, rfl, by kernel_rfl, by kernel_rfl, by kernel_rfl⟩
/-- (*vouch/client.Client).Tx -/
def c33 : C := (.seq (.reg [⟨(some 4), (.new 82 [.int .i64 (0), .int .i64 (0), .int .i64 (0), .int .i64 (0), .string ⟨#[]⟩, .int .i64 (0), .int .i64 (0), .slice none 0 0]), none⟩,
 ⟨(some 5), (.mv (.const (.bool false))), none⟩])
 (.seq (.reg [⟨(some 7), (.mv (.tmp 0)), none⟩,
 ⟨(some 8), (.mv (.tmp 1)), none⟩,
 ⟨(some 9), (.call 62 [(.tmp 7), (.tmp 8)]), none⟩,
 ⟨(some 6), (.new 128 [.pointer none, .pointer none]), none⟩,
 ⟨none, (.st 2 (.tmp 6) (.tmp 9)), none⟩])
 (.seq (.drawx [⟨⟨(some 10), (.fa 0 (.tmp 6)), none⟩, .p⟩,
 ⟨⟨(some 11), (.ld none (.tmp 10)), none⟩, .l⟩,
 ⟨⟨(some 12), (.call 63 [(.tmp 11)]), none⟩, .g⟩,
 ⟨⟨(some 13), (.fa 0 (.tmp 6)), none⟩, .p⟩,
 ⟨⟨(some 14), (.ld none (.tmp 13)), none⟩, .l⟩,
 ⟨⟨(some 15), (.eqs true .ptr (.tmp 14) (.const (.pointer none))), none⟩, .p⟩,
 ⟨⟨none, (.st 8 (.tmp 4) (.tmp 12)), none⟩, .w⟩,
 ⟨⟨(some 5), (.mv (.tmp 15)), none⟩, .p⟩])
 .ret)))
def r33 : List RV := [.agg 4 8, .tmp 5]
theorem ok33 : FnOk Tryd.prog 33 16 c33 r33 := ⟨[25, 24, 999999], _, _, Tryd.func33, rfl, rfl, by kernel_rfl, by kernel_rfl, by kernel_rfl⟩
/-- (*vouch/client.Client).Read -/
def c34 : C := (.seq (.reg [⟨(some 6), (.new 28 [.bool false, .string ⟨#[]⟩]), none⟩,
 ⟨(some 7), (.new 33 [.int .i64 (0), .int .i64 (0), .int .i64 (0), .int .i64 (0), .int .i64 (0), .int .i64 (0), .string ⟨#[]⟩, .int .i64 (0), .int .i64 (0), .bool false, .string ⟨#[]⟩, .bool false, .int .i64 (0), .int .i64 (0), .slice none 0 0, .slice none 0 0]), none⟩,
 ⟨(some 8), (.mv (.const (.int .i64 0))), none⟩])
 (.seq (.reg [⟨(some 9), (.mv (.tmp 0)), none⟩,
 ⟨(some 10), (.mv (.tmp 1)), none⟩,
 ⟨(some 11), (.call 62 [(.tmp 9), (.tmp 10)]), none⟩,
 ⟨(some 12), (.fld none 0 (.tmp 11)), none⟩,
 ⟨(some 13), (.mv (.tmp 2)), none⟩,
 ⟨(some 14), (.call 64 [(.tmp 12), (.tmp 13)]), none⟩,
 ⟨(some 15), (.ext 0 (.tmp 14)), none⟩,
 ⟨(some 16), (.ext 1 (.tmp 14)), none⟩,
 ⟨(some 17), (.ext 2 (.tmp 14)), none⟩,
 ⟨none, (.st 2 (.tmp 6) (.tmp 15)), none⟩,
 ⟨none, (.st 16 (.tmp 7) (.tmp 16)), none⟩,
 ⟨(some 8), (.mv (.tmp 17)), none⟩])
 .ret))
def r34 : List RV := [.agg 6 2, .agg 7 16, .tmp 8]
theorem ok34 : FnOk Tryd.prog 34 18 c34 r34 := ⟨[25, 24], _, _, Tryd.func34, rfl, rfl, by kernel_rfl, by kernel_rfl, by kernel_rfl⟩
/-- (*vouch/client.Client).Hear -/
def c35 : C := (.seq (.reg [⟨(some 3), (.box 33 (.tmp 1)), none⟩,
 ⟨(some 4), (.new 33 [.int .i64 (0), .int .i64 (0), .int .i64 (0), .int .i64 (0), .int .i64 (0), .int .i64 (0), .string ⟨#[]⟩, .int .i64 (0), .int .i64 (0), .bool false, .string ⟨#[]⟩, .bool false, .int .i64 (0), .int .i64 (0), .slice none 0 0, .slice none 0 0]), none⟩,
 ⟨(some 5), (.mv (.const (.bool false))), none⟩])
 (.seq (.seq (.reg [⟨(some 6), (.fa 0 (.tmp 3)), none⟩,
 ⟨(some 7), (.ld none (.tmp 6)), none⟩,
 ⟨(some 8), (.bin .eql (.tmp 7) (.const (.int .i64 2))), none⟩])
 (.cond (.tmp 8) (.seq (.draw [⟨⟨(some 9), (.bld [.int .i64 (0), .int .i64 (0), .int .i64 (0), .int .i64 (0), .int .i64 (0), .int .i64 (0), .string ⟨#[]⟩, .int .i64 (0), .int .i64 (0), .bool false, .string ⟨#[]⟩, .bool false, .int .i64 (0), .int .i64 (0), .slice none 0 0, .slice none 0 0] []), none⟩, .p⟩,
 ⟨⟨(some 10), (.mv (.tmp 0)), none⟩, .p⟩,
 ⟨⟨(some 11), (.fa 3 (.tmp 3)), none⟩, .p⟩,
 ⟨⟨(some 12), (.ld none (.tmp 11)), none⟩, .l⟩,
 ⟨⟨(some 13), (.call 60 [(.tmp 10), (.tmp 12)]), none⟩, .g⟩,
 ⟨⟨(some 14), (.ld (some 16) (.tmp 3)), none⟩, .l⟩,
 ⟨⟨(some 15), (.call 25 [(.tmp 13), (.tmp 14)]), none⟩, .m⟩,
 ⟨⟨none, (.st 16 (.tmp 4) (.tmp 9)), none⟩, .m⟩,
 ⟨⟨(some 5), (.mv (.tmp 15)), none⟩, .p⟩])
 .ret)
 .skip))
 (.seq (.draw [⟨⟨(some 16), (.mv (.tmp 0)), none⟩, .p⟩,
 ⟨⟨(some 17), (.fa 4 (.tmp 3)), none⟩, .p⟩,
 ⟨⟨(some 18), (.ld none (.tmp 17)), none⟩, .l⟩,
 ⟨⟨(some 19), (.call 62 [(.tmp 16), (.tmp 18)]), none⟩, .g⟩,
 ⟨⟨(some 20), (.fld none 0 (.tmp 19)), none⟩, .p⟩,
 ⟨⟨(some 21), (.ld (some 16) (.tmp 3)), none⟩, .l⟩,
 ⟨⟨(some 22), (.call 65 [(.tmp 20), (.tmp 21)]), none⟩, .m⟩,
 ⟨⟨(some 23), (.ext 0 (.tmp 22)), none⟩, .p⟩,
 ⟨⟨(some 24), (.ext 1 (.tmp 22)), none⟩, .p⟩,
 ⟨⟨none, (.st 16 (.tmp 4) (.tmp 23)), none⟩, .m⟩,
 ⟨⟨(some 5), (.mv (.tmp 24)), none⟩, .p⟩])
 .ret)))
def r35 : List RV := [.agg 4 16, .tmp 5]
theorem ok35 : FnOk Tryd.prog 35 25 c35 r35 := ⟨[25, 24], _, _, Tryd.func35, rfl, rfl, by kernel_rfl, by kernel_rfl, by kernel_rfl⟩
/-- (*vouch/client.Client).Finish -/
def c36 : C := (.seq (.reg [⟨(some 4), (.mv (.const (.int .i64 0))), none⟩,
 ⟨(some 5), (.mv (.const (.int .i64 0))), none⟩])
 (.seq (.reg [⟨(some 9), (.mv (.tmp 0)), none⟩,
 ⟨(some 10), (.mv (.tmp 1)), none⟩,
 ⟨(some 11), (.call 62 [(.tmp 9), (.tmp 10)]), none⟩,
 ⟨(some 6), (.new 128 [.pointer none, .pointer none]), none⟩,
 ⟨none, (.st 2 (.tmp 6) (.tmp 11)), none⟩])
 (.seq (.reg [⟨(some 13), (.fa 0 (.tmp 6)), none⟩,
 ⟨(some 14), (.ld none (.tmp 13)), none⟩,
 ⟨(some 15), (.call 66 [(.tmp 14)]), none⟩,
 ⟨(some 12), (.mv (.tmp 15)), none⟩,
 ⟨(some 16), (.ext 0 (.tmp 12)), none⟩,
 ⟨(some 17), (.ext 1 (.tmp 12)), none⟩,
 ⟨(some 7), (.mv (.tmp 16)), none⟩,
 ⟨(some 8), (.mv (.tmp 17)), none⟩])
 (.seq (.seq (.reg [⟨(some 18), (.mv (.tmp 8)), none⟩,
 ⟨(some 19), (.bin .eql (.tmp 18) (.const (.int .i64 0))), none⟩])
 (.cond (.tmp 19) (.reg [⟨(some 20), (.fa 1 (.tmp 6)), none⟩,
 ⟨(some 21), (.ld none (.tmp 20)), none⟩,
 ⟨(some 22), (.mv (.tmp 7)), none⟩,
 ⟨(some 23), (.call 23 [(.tmp 21), (.tmp 22)]), none⟩])
 .skip))
 (.seq (.reg [⟨(some 24), (.mv (.tmp 7)), none⟩,
 ⟨(some 25), (.mv (.tmp 8)), none⟩,
 ⟨(some 4), (.mv (.tmp 24)), none⟩,
 ⟨(some 5), (.mv (.tmp 25)), none⟩])
 .ret)))))
def r36 : List RV := [.tmp 4, .tmp 5]
theorem ok36 : FnOk Tryd.prog 36 26 c36 r36 := ⟨[25, 24], _, _, Tryd.func36, rfl, rfl, by kernel_rfl, by kernel_rfl, by kernel_rfl⟩
/-- (*vouch/client.Client).Session -/
def c37 : C := (.seq (.reg [⟨(some 4), (.new 41 [.int .i64 (0), .bool false, .int .i64 (0), .int .i64 (0), .int .i64 (0), .int .i64 (0)]), none⟩,
 ⟨(some 5), (.mv (.const (.bool false))), none⟩])
 (.seq (.reg [⟨(some 7), (.mv (.tmp 0)), none⟩,
 ⟨(some 8), (.mv (.tmp 1)), none⟩,
 ⟨(some 9), (.call 60 [(.tmp 7), (.tmp 8)]), none⟩,
 ⟨(some 6), (.mv (.tmp 9)), none⟩])
 (.seq (.reg [⟨(some 10), (.mv (.tmp 6)), none⟩,
 ⟨(some 11), (.call 18 [(.tmp 10)]), none⟩,
 ⟨(some 12), (.mv (.tmp 6)), none⟩,
 ⟨(some 13), (.eqs true .ptr (.tmp 12) (.const (.pointer none))), none⟩,
 ⟨none, (.st 6 (.tmp 4) (.tmp 11)), none⟩,
 ⟨(some 5), (.mv (.tmp 13)), none⟩])
 .ret)))
def r37 : List RV := [.agg 4 6, .tmp 5]
theorem ok37 : FnOk Tryd.prog 37 14 c37 r37 := ⟨[25, 24], _, _, Tryd.func37, rfl, rfl, by kernel_rfl, by kernel_rfl, by kernel_rfl⟩
/-- (*vouch/client.Client).Clone -/
def c38 : C := (.seq (.reg [⟨(some 2), (.mv (.const (.pointer none))), none⟩])
 (.seq (.seq (.reg [⟨(some 8), (.mv (.tmp 0)), none⟩,
 ⟨(some 9), (.eqs false .ptr (.tmp 8) (.const (.pointer none))), none⟩])
 (.cond (.tmp 9) (.seq (.reg [⟨(some 2), (.mv (.const (.pointer none))), none⟩])
 .ret)
 .skip))
 (.seq (.reg [⟨(some 10), (.mv (.tmp 0)), none⟩,
 ⟨(some 11), (.nilc (.tmp 10)), none⟩,
 ⟨(some 12), (.fa 0 (.tmp 11)), none⟩,
 ⟨(some 13), (.ld (some 8) (.tmp 12)), none⟩,
 ⟨(some 14), (.bld [.int .i64 (0), .int .i64 (0), .int .i64 (0), .int .i64 (0), .int .i64 (0), .int .i64 (0), .int .i64 (0), .int .i64 (0), .slice none 0 0, .slice none 0 0, .slice none 0 0] [(0, 8, (.tmp 13))]), none⟩,
 ⟨(some 15), (.box 124 (.tmp 14)), none⟩,
 ⟨(some 3), (.mv (.tmp 15)), none⟩])
 (.seq (.seq (.reg [⟨(some 16), (.mv (.tmp 0)), none⟩,
 ⟨(some 17), (.nilc (.tmp 16)), none⟩,
 ⟨(some 18), (.fa 8 (.tmp 17)), none⟩,
 ⟨(some 19), (.ld none (.tmp 18)), none⟩,
 ⟨(some 20), (.len true (.tmp 19)), none⟩,
 ⟨(some 21), (.mv (.const (.int .i64 0))), none⟩])
 (.block 0 (.loop (.seq (.reg [⟨(some 22), (.bin .lss (.tmp 21) (.tmp 20)), none⟩])
 (.seq (.cond (.tmp 22) .skip
 (.exit 0))
 (.seq (.block 1 (.seq (.reg [⟨(some 23), (.ia 1 (.tmp 19) (.tmp 21)), none⟩,
 ⟨(some 24), (.ld none (.tmp 23)), none⟩,
 ⟨(some 5), (.mv (.tmp 24)), none⟩])
 (.draw [⟨⟨(some 25), (.mv (.tmp 3)), none⟩, .p⟩,
 ⟨⟨(some 26), (.mv (.tmp 3)), none⟩, .p⟩,
 ⟨⟨(some 27), (.nilc (.tmp 26)), none⟩, .p⟩,
 ⟨⟨(some 28), (.fa 8 (.tmp 27)), none⟩, .p⟩,
 ⟨⟨(some 29), (.ld none (.tmp 28)), none⟩, .l⟩,
 ⟨⟨(some 30), (.mv (.tmp 5)), none⟩, .p⟩,
 ⟨⟨(some 31), (.call 28 [(.tmp 30)]), none⟩, .g⟩,
 ⟨⟨(some 32), (.lit 23 1 1 [.pointer none] [(0, 1, (.tmp 31))]), none⟩, .f⟩,
 ⟨⟨(some 33), (.app 23 1 8 (.tmp 29) (.tmp 32)), none⟩, .m⟩,
 ⟨⟨(some 34), (.nilc (.tmp 25)), none⟩, .p⟩,
 ⟨⟨(some 35), (.fa 8 (.tmp 34)), none⟩, .p⟩,
 ⟨⟨none, (.st 1 (.tmp 35) (.tmp 33)), none⟩, .m⟩])))
 (.reg [⟨(some 36), (.bin .add (.tmp 21) (.const (.int .i64 1))), none⟩,
 ⟨(some 21), (.mv (.tmp 36)), none⟩])))))))
 (.seq (.seq (.reg [⟨(some 37), (.mv (.tmp 0)), none⟩,
 ⟨(some 38), (.nilc (.tmp 37)), none⟩,
 ⟨(some 39), (.fa 9 (.tmp 38)), none⟩,
 ⟨(some 40), (.ld none (.tmp 39)), none⟩,
 ⟨(some 41), (.len true (.tmp 40)), none⟩,
 ⟨(some 42), (.mv (.const (.int .i64 0))), none⟩])
 (.block 2 (.loop (.seq (.reg [⟨(some 43), (.bin .lss (.tmp 42) (.tmp 41)), none⟩])
 (.seq (.cond (.tmp 43) .skip
 (.exit 2))
 (.seq (.block 3 (.seq (.reg [⟨(some 44), (.mv (.tmp 42)), none⟩,
 ⟨(some 45), (.ia 2 (.tmp 40) (.tmp 42)), none⟩,
 ⟨(some 46), (.ld (some 2) (.tmp 45)), none⟩,
 ⟨(some 7), (.new 128 [.pointer none, .pointer none]), none⟩,
 ⟨(some 6), (.mv (.tmp 44)), none⟩,
 ⟨none, (.st 2 (.tmp 7) (.tmp 46)), none⟩])
 (.draw [⟨⟨(some 47), (.mv (.tmp 3)), none⟩, .p⟩,
 ⟨⟨(some 48), (.mv (.tmp 3)), none⟩, .p⟩,
 ⟨⟨(some 49), (.nilc (.tmp 48)), none⟩, .p⟩,
 ⟨⟨(some 50), (.fa 9 (.tmp 49)), none⟩, .p⟩,
 ⟨⟨(some 51), (.ld none (.tmp 50)), none⟩, .l⟩,
 ⟨⟨(some 52), (.fa 0 (.tmp 7)), none⟩, .p⟩,
 ⟨⟨(some 53), (.ld none (.tmp 52)), none⟩, .l⟩,
 ⟨⟨(some 54), (.call 67 [(.tmp 53)]), none⟩, .g⟩,
 ⟨⟨(some 55), (.mv (.tmp 3)), none⟩, .p⟩,
 ⟨⟨(some 56), (.nilc (.tmp 55)), none⟩, .p⟩,
 ⟨⟨(some 57), (.fa 8 (.tmp 56)), none⟩, .p⟩,
 ⟨⟨(some 58), (.ld none (.tmp 57)), none⟩, .l⟩,
 ⟨⟨(some 59), (.mv (.tmp 0)), none⟩, .p⟩,
 ⟨⟨(some 60), (.nilc (.tmp 59)), none⟩, .p⟩,
 ⟨⟨(some 61), (.fa 10 (.tmp 60)), none⟩, .p⟩,
 ⟨⟨(some 62), (.ld none (.tmp 61)), none⟩, .l⟩,
 ⟨⟨(some 63), (.mv (.tmp 6)), none⟩, .p⟩,
 ⟨⟨(some 64), (.ia 1 (.tmp 62) (.tmp 63)), none⟩, .p⟩,
 ⟨⟨(some 65), (.ld none (.tmp 64)), none⟩, .l⟩,
 ⟨⟨(some 66), (.ia 1 (.tmp 58) (.tmp 65)), none⟩, .p⟩,
 ⟨⟨(some 67), (.ld none (.tmp 66)), none⟩, .l⟩,
 ⟨⟨(some 68), (.bld [.pointer none, .pointer none] [(0, 1, (.tmp 54)), (1, 1, (.tmp 67))]), none⟩, .p⟩,
 ⟨⟨(some 69), (.lit 128 1 2 [.pointer none, .pointer none] [(0, 2, (.tmp 68))]), none⟩, .f⟩,
 ⟨⟨(some 70), (.app 128 2 16 (.tmp 51) (.tmp 69)), none⟩, .m⟩,
 ⟨⟨(some 71), (.nilc (.tmp 47)), none⟩, .p⟩,
 ⟨⟨(some 72), (.fa 9 (.tmp 71)), none⟩, .p⟩,
 ⟨⟨none, (.st 1 (.tmp 72) (.tmp 70)), none⟩, .m⟩])))
 (.reg [⟨(some 73), (.bin .add (.tmp 42) (.const (.int .i64 1))), none⟩,
 ⟨(some 42), (.mv (.tmp 73)), none⟩])))))))
 (.seq (.draw [⟨⟨(some 74), (.mv (.tmp 3)), none⟩, .p⟩,
 ⟨⟨(some 75), (.mv (.tmp 3)), none⟩, .p⟩,
 ⟨⟨(some 76), (.nilc (.tmp 75)), none⟩, .p⟩,
 ⟨⟨(some 77), (.fa 10 (.tmp 76)), none⟩, .p⟩,
 ⟨⟨(some 78), (.ld none (.tmp 77)), none⟩, .l⟩,
 ⟨⟨(some 79), (.mv (.tmp 0)), none⟩, .p⟩,
 ⟨⟨(some 80), (.nilc (.tmp 79)), none⟩, .p⟩,
 ⟨⟨(some 81), (.fa 10 (.tmp 80)), none⟩, .p⟩,
 ⟨⟨(some 82), (.ld none (.tmp 81)), none⟩, .l⟩,
 ⟨⟨(some 83), (.app 3 1 8 (.tmp 78) (.tmp 82)), none⟩, .m⟩,
 ⟨⟨(some 84), (.nilc (.tmp 74)), none⟩, .p⟩,
 ⟨⟨(some 85), (.fa 10 (.tmp 84)), none⟩, .p⟩,
 ⟨⟨none, (.st 1 (.tmp 85) (.tmp 83)), none⟩, .m⟩])
 (.seq (.reg [⟨(some 86), (.mv (.tmp 3)), none⟩,
 ⟨(some 2), (.mv (.tmp 86)), none⟩])
 .ret)))))))
def r38 : List RV := [.tmp 2]
theorem ok38 : FnOk Tryd.prog 38 87 c38 r38 := ⟨[25, 24], _, _, Tryd.func38, rfl, rfl, by kernel_rfl, by kernel_rfl, by kernel_rfl⟩
/-- (*vouch/client.Client).Commit -/
def c39 : C := (.seq (.reg [⟨(some 6), (.new 33 [.int .i64 (0), .int .i64 (0), .int .i64 (0), .int .i64 (0), .int .i64 (0), .int .i64 (0), .string ⟨#[]⟩, .int .i64 (0), .int .i64 (0), .bool false, .string ⟨#[]⟩, .bool false, .int .i64 (0), .int .i64 (0), .slice none 0 0, .slice none 0 0]), none⟩,
 ⟨(some 7), (.mv (.const (.int .i64 0))), none⟩])
 (.seq (.reg [⟨(some 8), (.mv (.tmp 0)), none⟩,
 ⟨(some 9), (.mv (.tmp 1)), none⟩,
 ⟨(some 10), (.call 60 [(.tmp 8), (.tmp 9)]), none⟩,
 ⟨(some 11), (.mv (.tmp 2)), none⟩,
 ⟨(some 12), (.call 15 [(.tmp 10), (.tmp 11)]), none⟩,
 ⟨(some 13), (.ext 0 (.tmp 12)), none⟩,
 ⟨(some 14), (.ext 1 (.tmp 12)), none⟩,
 ⟨none, (.st 16 (.tmp 6) (.tmp 13)), none⟩,
 ⟨(some 7), (.mv (.tmp 14)), none⟩])
 .ret))
def r39 : List RV := [.agg 6 16, .tmp 7]
theorem ok39 : FnOk Tryd.prog 39 15 c39 r39 := ⟨[25, 24], _, _, Tryd.func39, rfl, rfl, by kernel_rfl, by kernel_rfl, by kernel_rfl⟩
/-- (*vouch/client.Client).Again -/
def c40 : C := (.seq (.reg [⟨(some 4), (.new 33 [.int .i64 (0), .int .i64 (0), .int .i64 (0), .int .i64 (0), .int .i64 (0), .int .i64 (0), .string ⟨#[]⟩, .int .i64 (0), .int .i64 (0), .bool false, .string ⟨#[]⟩, .bool false, .int .i64 (0), .int .i64 (0), .slice none 0 0, .slice none 0 0]), none⟩,
 ⟨(some 5), (.mv (.const (.int .i64 0))), none⟩])
 (.seq (.reg [⟨(some 6), (.mv (.tmp 0)), none⟩,
 ⟨(some 7), (.mv (.tmp 1)), none⟩,
 ⟨(some 8), (.call 60 [(.tmp 6), (.tmp 7)]), none⟩,
 ⟨(some 9), (.mv (.tmp 0)), none⟩,
 ⟨(some 10), (.call 68 [(.tmp 9)]), none⟩,
 ⟨(some 11), (.call 17 [(.tmp 8), (.tmp 10)]), none⟩,
 ⟨(some 12), (.ext 0 (.tmp 11)), none⟩,
 ⟨(some 13), (.ext 1 (.tmp 11)), none⟩,
 ⟨none, (.st 16 (.tmp 4) (.tmp 12)), none⟩,
 ⟨(some 5), (.mv (.tmp 13)), none⟩])
 .ret))
def r40 : List RV := [.agg 4 16, .tmp 5]
theorem ok40 : FnOk Tryd.prog 40 14 c40 r40 := ⟨[25, 24], _, _, Tryd.func40, rfl, rfl, by kernel_rfl, by kernel_rfl, by kernel_rfl⟩
/-- (*vouch/client.Client).Token -/
def c41 : C := (.seq (.reg [⟨(some 4), (.mv (.const (.string { data := #[] }))), none⟩,
 ⟨(some 5), (.mv (.const (.int .i64 0))), none⟩])
 (.seq (.reg [⟨(some 7), (.mv (.tmp 0)), none⟩,
 ⟨(some 8), (.mv (.tmp 1)), none⟩,
 ⟨(some 9), (.call 60 [(.tmp 7), (.tmp 8)]), none⟩,
 ⟨(some 6), (.mv (.tmp 9)), none⟩])
 (.seq (.seq (.reg [⟨(some 10), (.mv (.tmp 6)), none⟩,
 ⟨(some 11), (.eqs false .ptr (.tmp 10) (.const (.pointer none))), none⟩])
 (.cond (.tmp 11) (.seq (.reg [⟨(some 4), (.mv (.const (.string { data := #[] }))), none⟩,
 ⟨(some 5), (.mv (.const (.int .i64 3))), none⟩])
 .ret)
 .skip))
 (.seq (.reg [⟨(some 12), (.mv (.tmp 6)), none⟩,
 ⟨(some 13), (.call 26 [(.tmp 12)]), none⟩,
 ⟨(some 14), (.call 19 [(.tmp 13)]), none⟩,
 ⟨(some 15), (.ext 0 (.tmp 14)), none⟩,
 ⟨(some 16), (.ext 1 (.tmp 14)), none⟩,
 ⟨(some 4), (.mv (.tmp 15)), none⟩,
 ⟨(some 5), (.mv (.tmp 16)), none⟩])
 .ret))))
def r41 : List RV := [.tmp 4, .tmp 5]
theorem ok41 : FnOk Tryd.prog 41 17 c41 r41 := ⟨[25, 24], _, _, Tryd.func41, rfl, rfl, by kernel_rfl, by kernel_rfl, by kernel_rfl⟩
/-- (*vouch/client.Client).Retry -/
def c42 : C := (.seq (.reg [⟨(some 4), (.new 33 [.int .i64 (0), .int .i64 (0), .int .i64 (0), .int .i64 (0), .int .i64 (0), .int .i64 (0), .string ⟨#[]⟩, .int .i64 (0), .int .i64 (0), .bool false, .string ⟨#[]⟩, .bool false, .int .i64 (0), .int .i64 (0), .slice none 0 0, .slice none 0 0]), none⟩,
 ⟨(some 5), (.mv (.const (.int .i64 0))), none⟩])
 (.seq (.reg [⟨(some 6), (.mv (.tmp 0)), none⟩,
 ⟨(some 7), (.mv (.tmp 1)), none⟩,
 ⟨(some 8), (.call 62 [(.tmp 6), (.tmp 7)]), none⟩,
 ⟨(some 9), (.fld none 0 (.tmp 8)), none⟩,
 ⟨(some 10), (.mv (.tmp 0)), none⟩,
 ⟨(some 11), (.call 68 [(.tmp 10)]), none⟩,
 ⟨(some 12), (.call 69 [(.tmp 9), (.tmp 11)]), none⟩,
 ⟨(some 13), (.ext 0 (.tmp 12)), none⟩,
 ⟨(some 14), (.ext 1 (.tmp 12)), none⟩,
 ⟨none, (.st 16 (.tmp 4) (.tmp 13)), none⟩,
 ⟨(some 5), (.mv (.tmp 14)), none⟩])
 .ret))
def r42 : List RV := [.agg 4 16, .tmp 5]
theorem ok42 : FnOk Tryd.prog 42 15 c42 r42 := ⟨[25, 24], _, _, Tryd.func42, rfl, rfl, by kernel_rfl, by kernel_rfl, by kernel_rfl⟩
/-- (*vouch/client.Client).Join -/
def c43 : C := (.seq (.reg [⟨(some 6), (.mv (.const (.int .i64 0))), none⟩])
 (.seq (.reg [⟨(some 7), (.mv (.tmp 0)), none⟩,
 ⟨(some 8), (.mv (.tmp 1)), none⟩,
 ⟨(some 9), (.call 60 [(.tmp 7), (.tmp 8)]), none⟩,
 ⟨(some 10), (.mv (.tmp 2)), none⟩,
 ⟨(some 11), (.call 24 [(.tmp 9), (.tmp 10)]), none⟩,
 ⟨(some 6), (.mv (.tmp 11)), none⟩])
 .ret))
def r43 : List RV := [.tmp 6]
theorem ok43 : FnOk Tryd.prog 43 12 c43 r43 := ⟨[25, 24], _, _, Tryd.func43, rfl, rfl, by kernel_rfl, by kernel_rfl, by kernel_rfl⟩
/-- vouch/vouchlaw18.put -/
def c58 : C := (.seq (.reg [⟨(some 4), (.new 37 [.string ⟨#[]⟩, .bool false, .string ⟨#[]⟩]), none⟩])
 (.seq (.reg [⟨(some 5), (.mv (.tmp 0)), none⟩,
 ⟨(some 6), (.mv (.tmp 1)), none⟩,
 ⟨(some 7), (.bld [.bool false, .string ⟨#[]⟩] [(0, 1, (.const (.bool true))), (1, 1, (.tmp 6))]), none⟩,
 ⟨(some 8), (.bld [.string ⟨#[]⟩, .bool false, .string ⟨#[]⟩] [(0, 1, (.tmp 5)), (1, 2, (.tmp 7))]), none⟩,
 ⟨none, (.st 3 (.tmp 4) (.tmp 8)), none⟩])
 .ret))
def r58 : List RV := [.agg 4 3]
theorem ok58 : FnOk Tryd.prog 58 9 c58 r58 := ⟨[25, 24], _, _, Tryd.func58, rfl, rfl, by kernel_rfl, by kernel_rfl, by kernel_rfl⟩
/-- vouch/fact.Held -/
def c59 : C := (.seq (.reg [⟨(some 1), (.box 73 (.tmp 0)), none⟩,
 ⟨(some 2), (.new 73 [.int .i64 (0), .int .i64 (0), .int .i64 (0), .int .i64 (0), .int .i64 (0), .int .i64 (0), .int .i64 (0), .int .i64 (0)]), none⟩])
 (.seq (.reg [⟨(some 3), (.mv (.func 78)), none⟩])
 (.seq (.draw [⟨⟨(some 4), (.mv (.tmp 3)), none⟩, .p⟩,
 ⟨⟨(some 5), (.fa 0 (.tmp 1)), none⟩, .p⟩,
 ⟨⟨(some 6), (.ld none (.tmp 5)), none⟩, .l⟩,
 ⟨⟨(some 7), (.callv (.tmp 4) [(.tmp 6), (.const (.int .i64 8)), (.const (.int .i64 1))]), none⟩, .c⟩,
 ⟨⟨(some 8), (.mv (.tmp 3)), none⟩, .p⟩,
 ⟨⟨(some 9), (.fa 1 (.tmp 1)), none⟩, .p⟩,
 ⟨⟨(some 10), (.ld none (.tmp 9)), none⟩, .l⟩,
 ⟨⟨(some 11), (.callv (.tmp 8) [(.tmp 10), (.const (.int .i64 1048576)), (.const (.int .i64 0))]), none⟩, .c⟩,
 ⟨⟨(some 12), (.mv (.tmp 3)), none⟩, .p⟩,
 ⟨⟨(some 13), (.fa 2 (.tmp 1)), none⟩, .p⟩,
 ⟨⟨(some 14), (.ld none (.tmp 13)), none⟩, .l⟩,
 ⟨⟨(some 15), (.callv (.tmp 12) [(.tmp 14), (.const (.int .i64 64)), (.const (.int .i64 1))]), none⟩, .c⟩,
 ⟨⟨(some 16), (.mv (.tmp 3)), none⟩, .p⟩,
 ⟨⟨(some 17), (.fa 3 (.tmp 1)), none⟩, .p⟩,
 ⟨⟨(some 18), (.ld none (.tmp 17)), none⟩, .l⟩,
 ⟨⟨(some 19), (.callv (.tmp 16) [(.tmp 18), (.const (.int .i64 256)), (.const (.int .i64 0))]), none⟩, .c⟩,
 ⟨⟨(some 20), (.mv (.tmp 3)), none⟩, .p⟩,
 ⟨⟨(some 21), (.fa 4 (.tmp 1)), none⟩, .p⟩,
 ⟨⟨(some 22), (.ld none (.tmp 21)), none⟩, .l⟩,
 ⟨⟨(some 23), (.callv (.tmp 20) [(.tmp 22), (.const (.int .i64 1024)), (.const (.int .i64 0))]), none⟩, .c⟩,
 ⟨⟨(some 24), (.mv (.tmp 3)), none⟩, .p⟩,
 ⟨⟨(some 25), (.fa 5 (.tmp 1)), none⟩, .p⟩,
 ⟨⟨(some 26), (.ld none (.tmp 25)), none⟩, .l⟩,
 ⟨⟨(some 27), (.callv (.tmp 24) [(.tmp 26), (.const (.int .i64 64)), (.const (.int .i64 1))]), none⟩, .c⟩,
 ⟨⟨(some 28), (.mv (.tmp 3)), none⟩, .p⟩,
 ⟨⟨(some 29), (.fa 6 (.tmp 1)), none⟩, .p⟩,
 ⟨⟨(some 30), (.ld none (.tmp 29)), none⟩, .l⟩,
 ⟨⟨(some 31), (.callv (.tmp 28) [(.tmp 30), (.const (.int .i64 256)), (.const (.int .i64 0))]), none⟩, .c⟩,
 ⟨⟨(some 32), (.mv (.tmp 3)), none⟩, .p⟩,
 ⟨⟨(some 33), (.fa 7 (.tmp 1)), none⟩, .p⟩,
 ⟨⟨(some 34), (.ld none (.tmp 33)), none⟩, .l⟩,
 ⟨⟨(some 35), (.callv (.tmp 32) [(.tmp 34), (.const (.int .i64 16)), (.const (.int .i64 0))]), none⟩, .m⟩,
 ⟨⟨(some 36), (.bld [.int .i64 (0), .int .i64 (0), .int .i64 (0), .int .i64 (0), .int .i64 (0), .int .i64 (0), .int .i64 (0), .int .i64 (0)] [(0, 1, (.tmp 7)), (1, 1, (.tmp 11)), (2, 1, (.tmp 15)), (3, 1, (.tmp 19)), (4, 1, (.tmp 23)), (5, 1, (.tmp 27)), (6, 1, (.tmp 31)), (7, 1, (.tmp 35))]), none⟩, .p⟩,
 ⟨⟨none, (.st 8 (.tmp 2) (.tmp 36)), none⟩, .m⟩])
 .ret)))
def r59 : List RV := [.agg 2 8]
theorem ok59 : FnOk Tryd.prog 59 37 c59 r59 := ⟨[25, 24], _, _, Tryd.func59, rfl, rfl, by kernel_rfl, by kernel_rfl, by kernel_rfl⟩
/-- (*vouch/client.Client).session -/
def c60 : C := (.seq (.reg [⟨(some 4), (.mv (.const (.pointer none))), none⟩])
 (.seq (.seq (.reg [⟨(some 5), (.mv (.tmp 0)), none⟩,
 ⟨(some 6), (.eqs false .ptr (.tmp 5) (.const (.pointer none))), none⟩,
 ⟨(some 7), (.mv (.tmp 6)), none⟩,
 ⟨(some 8), (.mv (.tmp 1)), (some (7, false))⟩,
 ⟨(some 9), (.bin .lss (.tmp 8) (.const (.int .i64 0))), (some (7, false))⟩,
 ⟨(some 10), (.pick (.tmp 7) (.const (.bool true)) (.tmp 9)), none⟩,
 ⟨(some 11), (.mv (.tmp 10)), none⟩,
 ⟨(some 12), (.mv (.tmp 1)), (some (11, false))⟩,
 ⟨(some 13), (.mv (.tmp 0)), (some (11, false))⟩,
 ⟨(some 14), (.nilc (.tmp 13)), (some (11, false))⟩,
 ⟨(some 15), (.fa 8 (.tmp 14)), (some (11, false))⟩,
 ⟨(some 16), (.ld none (.tmp 15)), (some (11, false))⟩,
 ⟨(some 17), (.len true (.tmp 16)), (some (11, false))⟩,
 ⟨(some 18), (.bin .geq (.tmp 12) (.tmp 17)), (some (11, false))⟩,
 ⟨(some 19), (.pick (.tmp 11) (.const (.bool true)) (.tmp 18)), none⟩])
 (.cond (.tmp 19) (.seq (.reg [⟨(some 4), (.mv (.const (.pointer none))), none⟩])
 .ret)
 .skip))
 (.seq (.reg [⟨(some 20), (.mv (.tmp 0)), none⟩,
 ⟨(some 21), (.nilc (.tmp 20)), none⟩,
 ⟨(some 22), (.fa 8 (.tmp 21)), none⟩,
 ⟨(some 23), (.ld none (.tmp 22)), none⟩,
 ⟨(some 24), (.mv (.tmp 1)), none⟩,
 ⟨(some 25), (.ia 1 (.tmp 23) (.tmp 24)), none⟩,
 ⟨(some 26), (.ld none (.tmp 25)), none⟩,
 ⟨(some 4), (.mv (.tmp 26)), none⟩])
 .ret)))
def r60 : List RV := [.tmp 4]
theorem ok60 : FnOk Tryd.prog 60 27 c60 r60 := ⟨[25, 24], _, _, Tryd.func60, rfl, rfl, by kernel_rfl, by kernel_rfl, by kernel_rfl⟩
/-- vouch/tx.New -/
def c61 : C := (.seq (.reg [⟨(some 6), (.mv (.const (.pointer none))), none⟩])
 (.seq (.reg [⟨(some 8), (.mv (.tmp 0)), none⟩,
 ⟨(some 9), (.mv (.tmp 1)), none⟩,
 ⟨(some 10), (.mx true (.tmp 9) (.const (.int .i64 1))), none⟩,
 ⟨(some 11), (.mx false (.tmp 10) (.const (.int .i64 8))), none⟩,
 ⟨(some 12), (.bld [.int .i64 (0), .int .i64 (0), .int .i64 (0), .int .i64 (0), .int .i64 (0), .int .i64 (0), .string ⟨#[]⟩, .int .i64 (0), .int .i64 (0), .slice none 0 0] [(0, 1, (.tmp 8)), (1, 1, (.tmp 11))]), none⟩,
 ⟨(some 13), (.box 150 (.tmp 12)), none⟩,
 ⟨(some 7), (.mv (.tmp 13)), none⟩])
 (.seq (.reg [⟨(some 14), (.mv (.tmp 7)), none⟩,
 ⟨(some 15), (.mv (.tmp 2)), none⟩,
 ⟨(some 16), (.mx true (.tmp 15) (.const (.int .i64 0))), none⟩,
 ⟨(some 17), (.mx false (.tmp 16) (.const (.int .i64 1099511627776))), none⟩,
 ⟨(some 18), (.bld [.int .i64 (0), .int .i64 (0)] [(0, 1, (.tmp 17)), (1, 1, (.const (.int .i64 4611686018427387904)))]), none⟩,
 ⟨(some 19), (.nilc (.tmp 14)), none⟩,
 ⟨(some 20), (.fa 2 (.tmp 19)), none⟩,
 ⟨(some 21), (.fa 2 (.tmp 20)), none⟩,
 ⟨none, (.st 2 (.tmp 21) (.tmp 18)), none⟩])
 (.seq (.reg [⟨(some 22), (.mv (.tmp 7)), none⟩,
 ⟨(some 6), (.mv (.tmp 22)), none⟩])
 .ret))))
def r61 : List RV := [.tmp 6]
theorem ok61 : FnOk Tryd.prog 61 23 c61 r61 := ⟨[25, 24], _, _, Tryd.func61, rfl, rfl, by kernel_rfl, by kernel_rfl, by kernel_rfl⟩
/-- (*vouch/client.Client).tx -/
def c62 : C := (.seq (.reg [⟨(some 4), (.new 128 [.pointer none, .pointer none]), none⟩])
 (.seq (.seq (.reg [⟨(some 5), (.mv (.tmp 0)), none⟩,
 ⟨(some 6), (.eqs false .ptr (.tmp 5) (.const (.pointer none))), none⟩,
 ⟨(some 7), (.mv (.tmp 6)), none⟩,
 ⟨(some 8), (.mv (.tmp 1)), (some (7, false))⟩,
 ⟨(some 9), (.bin .lss (.tmp 8) (.const (.int .i64 0))), (some (7, false))⟩,
 ⟨(some 10), (.pick (.tmp 7) (.const (.bool true)) (.tmp 9)), none⟩,
 ⟨(some 11), (.mv (.tmp 10)), none⟩,
 ⟨(some 12), (.mv (.tmp 1)), (some (11, false))⟩,
 ⟨(some 13), (.mv (.tmp 0)), (some (11, false))⟩,
 ⟨(some 14), (.nilc (.tmp 13)), (some (11, false))⟩,
 ⟨(some 15), (.fa 9 (.tmp 14)), (some (11, false))⟩,
 ⟨(some 16), (.ld none (.tmp 15)), (some (11, false))⟩,
 ⟨(some 17), (.len true (.tmp 16)), (some (11, false))⟩,
 ⟨(some 18), (.bin .geq (.tmp 12) (.tmp 17)), (some (11, false))⟩,
 ⟨(some 19), (.pick (.tmp 11) (.const (.bool true)) (.tmp 18)), none⟩])
 (.cond (.tmp 19) (.seq (.reg [⟨(some 20), (.bld [.pointer none, .pointer none] []), none⟩,
 ⟨none, (.st 2 (.tmp 4) (.tmp 20)), none⟩])
 .ret)
 .skip))
 (.seq (.reg [⟨(some 21), (.mv (.tmp 0)), none⟩,
 ⟨(some 22), (.nilc (.tmp 21)), none⟩,
 ⟨(some 23), (.fa 9 (.tmp 22)), none⟩,
 ⟨(some 24), (.ld none (.tmp 23)), none⟩,
 ⟨(some 25), (.mv (.tmp 1)), none⟩,
 ⟨(some 26), (.ia 2 (.tmp 24) (.tmp 25)), none⟩,
 ⟨(some 27), (.ld (some 2) (.tmp 26)), none⟩,
 ⟨none, (.st 2 (.tmp 4) (.tmp 27)), none⟩])
 .ret)))
def r62 : List RV := [.agg 4 2]
theorem ok62 : FnOk Tryd.prog 62 28 c62 r62 := ⟨[25, 24], _, _, Tryd.func62, rfl, rfl, by kernel_rfl, by kernel_rfl, by kernel_rfl⟩
/-- (*vouch/tx.Tx).View -/
def c63 : C := (.seq (.reg [⟨(some 2), (.new 82 [.int .i64 (0), .int .i64 (0), .int .i64 (0), .int .i64 (0), .string ⟨#[]⟩, .int .i64 (0), .int .i64 (0), .slice none 0 0]), none⟩])
 (.seq (.seq (.reg [⟨(some 4), (.mv (.tmp 0)), none⟩,
 ⟨(some 5), (.eqs false .ptr (.tmp 4) (.const (.pointer none))), none⟩])
 (.cond (.tmp 5) (.seq (.reg [⟨(some 6), (.bld [.int .i64 (0), .int .i64 (0), .int .i64 (0), .int .i64 (0), .string ⟨#[]⟩, .int .i64 (0), .int .i64 (0), .slice none 0 0] []), none⟩,
 ⟨none, (.st 8 (.tmp 2) (.tmp 6)), none⟩])
 .ret)
 .skip))
 (.seq (.reg [⟨(some 7), (.mv (.tmp 0)), none⟩,
 ⟨(some 8), (.nilc (.tmp 7)), none⟩,
 ⟨(some 9), (.fa 2 (.tmp 8)), none⟩,
 ⟨(some 10), (.ld (some 8) (.tmp 9)), none⟩,
 ⟨(some 3), (.new 82 [.int .i64 (0), .int .i64 (0), .int .i64 (0), .int .i64 (0), .string ⟨#[]⟩, .int .i64 (0), .int .i64 (0), .slice none 0 0]), none⟩,
 ⟨none, (.st 8 (.tmp 3) (.tmp 10)), none⟩])
 (.seq (.reg [⟨(some 11), (.fa 7 (.tmp 3)), none⟩,
 ⟨(some 12), (.ld none (.tmp 11)), none⟩,
 ⟨(some 13), (.call 79 [(.tmp 12)]), none⟩,
 ⟨(some 14), (.fa 7 (.tmp 3)), none⟩,
 ⟨none, (.st 1 (.tmp 14) (.tmp 13)), none⟩])
 (.seq (.reg [⟨(some 15), (.ld (some 8) (.tmp 3)), none⟩,
 ⟨none, (.st 8 (.tmp 2) (.tmp 15)), none⟩])
 .ret)))))
def r63 : List RV := [.agg 2 8]
theorem ok63 : FnOk Tryd.prog 63 16 c63 r63 := ⟨[25, 24], _, _, Tryd.func63, rfl, rfl, by kernel_rfl, by kernel_rfl, by kernel_rfl⟩
/-- (*vouch/tx.Tx).Read -/
def c64 : C := (.seq (.reg [⟨(some 4), (.new 28 [.bool false, .string ⟨#[]⟩]), none⟩,
 ⟨(some 5), (.new 33 [.int .i64 (0), .int .i64 (0), .int .i64 (0), .int .i64 (0), .int .i64 (0), .int .i64 (0), .string ⟨#[]⟩, .int .i64 (0), .int .i64 (0), .bool false, .string ⟨#[]⟩, .bool false, .int .i64 (0), .int .i64 (0), .slice none 0 0, .slice none 0 0]), none⟩,
 ⟨(some 6), (.mv (.const (.int .i64 0))), none⟩])
 (.seq (.block 0 (.seq (.reg [⟨(some 10), (.mv (.tmp 0)), none⟩,
 ⟨(some 11), (.eqs false .ptr (.tmp 10) (.const (.pointer none))), none⟩,
 ⟨(some 9), (.mv (.tmp 11)), none⟩])
 (.cond (.tmp 9) (.seq (.reg [⟨(some 12), (.bld [.bool false, .string ⟨#[]⟩] []), none⟩,
 ⟨(some 13), (.bld [.int .i64 (0), .int .i64 (0), .int .i64 (0), .int .i64 (0), .int .i64 (0), .int .i64 (0), .string ⟨#[]⟩, .int .i64 (0), .int .i64 (0), .bool false, .string ⟨#[]⟩, .bool false, .int .i64 (0), .int .i64 (0), .slice none 0 0, .slice none 0 0] []), none⟩,
 ⟨none, (.st 2 (.tmp 4) (.tmp 12)), none⟩,
 ⟨none, (.st 16 (.tmp 5) (.tmp 13)), none⟩,
 ⟨(some 6), (.mv (.const (.int .i64 3))), none⟩])
 .ret)
 (.seq (.reg [⟨(some 15), (.mv (.tmp 0)), none⟩,
 ⟨(some 16), (.nilc (.tmp 15)), none⟩,
 ⟨(some 17), (.fa 2 (.tmp 16)), none⟩,
 ⟨(some 18), (.fa 0 (.tmp 17)), none⟩,
 ⟨(some 19), (.ld none (.tmp 18)), none⟩,
 ⟨(some 20), (.bin .geq (.tmp 19) (.const (.int .i64 3))), none⟩,
 ⟨(some 14), (.mv (.tmp 20)), none⟩])
 (.cond (.tmp 14) (.seq (.reg [⟨(some 21), (.bld [.bool false, .string ⟨#[]⟩] []), none⟩,
 ⟨(some 22), (.bld [.int .i64 (0), .int .i64 (0), .int .i64 (0), .int .i64 (0), .int .i64 (0), .int .i64 (0), .string ⟨#[]⟩, .int .i64 (0), .int .i64 (0), .bool false, .string ⟨#[]⟩, .bool false, .int .i64 (0), .int .i64 (0), .slice none 0 0, .slice none 0 0] []), none⟩,
 ⟨none, (.st 2 (.tmp 4) (.tmp 21)), none⟩,
 ⟨none, (.st 16 (.tmp 5) (.tmp 22)), none⟩,
 ⟨(some 6), (.mv (.const (.int .i64 40))), none⟩])
 .ret)
 (.seq (.reg [⟨(some 24), (.mv (.tmp 0)), none⟩,
 ⟨(some 25), (.call 80 [(.tmp 24)]), none⟩,
 ⟨(some 23), (.mv (.tmp 25)), none⟩])
 (.cond (.tmp 23) (.seq (.reg [⟨(some 26), (.bld [.bool false, .string ⟨#[]⟩] []), none⟩,
 ⟨(some 27), (.bld [.int .i64 (0), .int .i64 (0), .int .i64 (0), .int .i64 (0), .int .i64 (0), .int .i64 (0), .string ⟨#[]⟩, .int .i64 (0), .int .i64 (0), .bool false, .string ⟨#[]⟩, .bool false, .int .i64 (0), .int .i64 (0), .slice none 0 0, .slice none 0 0] []), none⟩,
 ⟨none, (.st 2 (.tmp 4) (.tmp 26)), none⟩,
 ⟨none, (.st 16 (.tmp 5) (.tmp 27)), none⟩,
 ⟨(some 6), (.mv (.const (.int .i64 31))), none⟩])
 .ret)
 (.seq (.reg [⟨(some 29), (.mv (.tmp 1)), none⟩,
 ⟨(some 30), (.bin .eql (.tmp 29) (.const (.string { data := #[] }))), none⟩,
 ⟨(some 31), (.mv (.tmp 30)), none⟩,
 ⟨(some 32), (.mv (.tmp 1)), (some (31, false))⟩,
 ⟨(some 33), (.len false (.tmp 32)), (some (31, false))⟩,
 ⟨(some 34), (.bin .gtr (.tmp 33) (.const (.int .i64 32))), (some (31, false))⟩,
 ⟨(some 35), (.pick (.tmp 31) (.const (.bool true)) (.tmp 34)), none⟩,
 ⟨(some 28), (.mv (.tmp 35)), none⟩])
 (.cond (.tmp 28) (.seq (.reg [⟨(some 36), (.bld [.bool false, .string ⟨#[]⟩] []), none⟩,
 ⟨(some 37), (.bld [.int .i64 (0), .int .i64 (0), .int .i64 (0), .int .i64 (0), .int .i64 (0), .int .i64 (0), .string ⟨#[]⟩, .int .i64 (0), .int .i64 (0), .bool false, .string ⟨#[]⟩, .bool false, .int .i64 (0), .int .i64 (0), .slice none 0 0, .slice none 0 0] []), none⟩,
 ⟨none, (.st 2 (.tmp 4) (.tmp 36)), none⟩,
 ⟨none, (.st 16 (.tmp 5) (.tmp 37)), none⟩,
 ⟨(some 6), (.mv (.const (.int .i64 1))), none⟩])
 .ret)
 .skip)))))))))
 (.seq (.seq (.reg [⟨(some 38), (.mv (.tmp 0)), none⟩,
 ⟨(some 39), (.nilc (.tmp 38)), none⟩,
 ⟨(some 40), (.fa 2 (.tmp 39)), none⟩,
 ⟨(some 41), (.fa 7 (.tmp 40)), none⟩,
 ⟨(some 42), (.ld none (.tmp 41)), none⟩,
 ⟨(some 43), (.len true (.tmp 42)), none⟩,
 ⟨(some 44), (.mv (.const (.int .i64 0))), none⟩])
 (.block 1 (.loop (.seq (.reg [⟨(some 45), (.bin .lss (.tmp 44) (.tmp 43)), none⟩])
 (.seq (.cond (.tmp 45) .skip
 (.exit 1))
 (.seq (.block 2 (.seq (.reg [⟨(some 46), (.ia 3 (.tmp 42) (.tmp 44)), none⟩,
 ⟨(some 47), (.ld (some 3) (.tmp 46)), none⟩,
 ⟨(some 8), (.new 152 [.string ⟨#[]⟩, .bool false, .string ⟨#[]⟩]), none⟩,
 ⟨none, (.st 3 (.tmp 8) (.tmp 47)), none⟩])
 (.seq (.reg [⟨(some 48), (.fa 0 (.tmp 8)), none⟩,
 ⟨(some 49), (.ld none (.tmp 48)), none⟩,
 ⟨(some 50), (.mv (.tmp 1)), none⟩,
 ⟨(some 51), (.bin .eql (.tmp 49) (.tmp 50)), none⟩])
 (.cond (.tmp 51) (.seq (.reg [⟨(some 52), (.fa 1 (.tmp 8)), none⟩,
 ⟨(some 53), (.ld (some 2) (.tmp 52)), none⟩,
 ⟨(some 54), (.bld [.int .i64 (0), .int .i64 (0), .int .i64 (0), .int .i64 (0), .int .i64 (0), .int .i64 (0), .string ⟨#[]⟩, .int .i64 (0), .int .i64 (0), .bool false, .string ⟨#[]⟩, .bool false, .int .i64 (0), .int .i64 (0), .slice none 0 0, .slice none 0 0] []), none⟩,
 ⟨none, (.st 2 (.tmp 4) (.tmp 53)), none⟩,
 ⟨none, (.st 16 (.tmp 5) (.tmp 54)), none⟩,
 ⟨(some 6), (.mv (.const (.int .i64 0))), none⟩])
 .ret)
 .skip))))
 (.reg [⟨(some 55), (.bin .add (.tmp 44) (.const (.int .i64 1))), none⟩,
 ⟨(some 44), (.mv (.tmp 55)), none⟩])))))))
 (.seq (.reg [⟨(some 56), (.bld [.bool false, .string ⟨#[]⟩] []), none⟩,
 ⟨(some 57), (.mv (.tmp 0)), none⟩,
 ⟨(some 58), (.mv (.tmp 1)), none⟩,
 ⟨(some 59), (.call 81 [(.tmp 57), (.const (.int .i64 1)), (.tmp 58)]), none⟩,
 ⟨none, (.st 2 (.tmp 4) (.tmp 56)), none⟩,
 ⟨none, (.st 16 (.tmp 5) (.tmp 59)), none⟩,
 ⟨(some 6), (.mv (.const (.int .i64 0))), none⟩])
 .ret))))
def r64 : List RV := [.agg 4 2, .agg 5 16, .tmp 6]
theorem ok64 : FnOk Tryd.prog 64 60 c64 r64 := ⟨[25, 24], _, _, Tryd.func64, rfl, rfl, by kernel_rfl, by kernel_rfl, by kernel_rfl⟩
/-- (*vouch/tx.Tx).Hear -/
def c65 : C := (.seq (.reg [⟨(some 3), (.box 33 (.tmp 1)), none⟩,
 ⟨(some 4), (.new 33 [.int .i64 (0), .int .i64 (0), .int .i64 (0), .int .i64 (0), .int .i64 (0), .int .i64 (0), .string ⟨#[]⟩, .int .i64 (0), .int .i64 (0), .bool false, .string ⟨#[]⟩, .bool false, .int .i64 (0), .int .i64 (0), .slice none 0 0, .slice none 0 0]), none⟩,
 ⟨(some 5), (.mv (.const (.bool false))), none⟩])
 (.seq (.seq (.draw [⟨⟨(some 6), (.mv (.tmp 0)), none⟩, .p⟩,
 ⟨⟨(some 7), (.eqs false .ptr (.tmp 6) (.const (.pointer none))), none⟩, .p⟩,
 ⟨⟨(some 8), (.mv (.tmp 7)), none⟩, .p⟩,
 ⟨⟨(some 9), (.mv (.tmp 0)), (some (8, false))⟩, .p⟩,
 ⟨⟨(some 10), (.call 80 [(.tmp 9)]), (some (8, false))⟩, .m⟩,
 ⟨⟨(some 11), (.nt (.tmp 10)), (some (8, false))⟩, .p⟩,
 ⟨⟨(some 12), (.pick (.tmp 8) (.const (.bool true)) (.tmp 11)), none⟩, .p⟩,
 ⟨⟨(some 13), (.mv (.tmp 12)), none⟩, .p⟩,
 ⟨⟨(some 14), (.fa 4 (.tmp 3)), (some (13, false))⟩, .p⟩,
 ⟨⟨(some 15), (.ld none (.tmp 14)), (some (13, false))⟩, .l⟩,
 ⟨⟨(some 16), (.mv (.tmp 0)), (some (13, false))⟩, .p⟩,
 ⟨⟨(some 17), (.nilc (.tmp 16)), (some (13, false))⟩, .p⟩,
 ⟨⟨(some 18), (.fa 0 (.tmp 17)), (some (13, false))⟩, .p⟩,
 ⟨⟨(some 19), (.ld none (.tmp 18)), (some (13, false))⟩, .l⟩,
 ⟨⟨(some 20), (.bin .neq (.tmp 15) (.tmp 19)), (some (13, false))⟩, .p⟩,
 ⟨⟨(some 21), (.pick (.tmp 13) (.const (.bool true)) (.tmp 20)), none⟩, .p⟩,
 ⟨⟨(some 22), (.mv (.tmp 21)), none⟩, .p⟩,
 ⟨⟨(some 23), (.fa 5 (.tmp 3)), (some (22, false))⟩, .p⟩,
 ⟨⟨(some 24), (.ld none (.tmp 23)), (some (22, false))⟩, .l⟩,
 ⟨⟨(some 25), (.mv (.tmp 0)), (some (22, false))⟩, .p⟩,
 ⟨⟨(some 26), (.nilc (.tmp 25)), (some (22, false))⟩, .p⟩,
 ⟨⟨(some 27), (.fa 2 (.tmp 26)), (some (22, false))⟩, .p⟩,
 ⟨⟨(some 28), (.fa 5 (.tmp 27)), (some (22, false))⟩, .p⟩,
 ⟨⟨(some 29), (.ld none (.tmp 28)), (some (22, false))⟩, .l⟩,
 ⟨⟨(some 30), (.bin .neq (.tmp 24) (.tmp 29)), (some (22, false))⟩, .p⟩,
 ⟨⟨(some 31), (.pick (.tmp 22) (.const (.bool true)) (.tmp 30)), none⟩, .p⟩])
 (.cond (.tmp 31) (.seq (.reg [⟨(some 32), (.bld [.int .i64 (0), .int .i64 (0), .int .i64 (0), .int .i64 (0), .int .i64 (0), .int .i64 (0), .string ⟨#[]⟩, .int .i64 (0), .int .i64 (0), .bool false, .string ⟨#[]⟩, .bool false, .int .i64 (0), .int .i64 (0), .slice none 0 0, .slice none 0 0] []), none⟩,
 ⟨none, (.st 16 (.tmp 4) (.tmp 32)), none⟩,
 ⟨(some 5), (.mv (.const (.bool false))), none⟩])
 .ret)
 .skip))
 (.seq (.block 0 (.seq (.reg [⟨(some 34), (.fa 0 (.tmp 3)), none⟩,
 ⟨(some 35), (.ld none (.tmp 34)), none⟩,
 ⟨(some 36), (.bin .eql (.tmp 35) (.const (.int .i64 4))), none⟩,
 ⟨(some 37), (.mv (.tmp 36)), none⟩,
 ⟨(some 38), (.mv (.tmp 0)), (some (37, true))⟩,
 ⟨(some 39), (.nilc (.tmp 38)), (some (37, true))⟩,
 ⟨(some 40), (.fa 2 (.tmp 39)), (some (37, true))⟩,
 ⟨(some 41), (.fa 0 (.tmp 40)), (some (37, true))⟩,
 ⟨(some 42), (.ld none (.tmp 41)), (some (37, true))⟩,
 ⟨(some 43), (.bin .eql (.tmp 42) (.const (.int .i64 1))), (some (37, true))⟩,
 ⟨(some 44), (.pick (.tmp 37) (.tmp 43) (.const (.bool false))), none⟩,
 ⟨(some 33), (.mv (.tmp 44)), none⟩])
 (.cond (.tmp 33) (.seq (.seq (.reg [⟨(some 45), (.fa 11 (.tmp 3)), none⟩,
 ⟨(some 46), (.ld none (.tmp 45)), none⟩,
 ⟨(some 47), (.mv (.tmp 46)), none⟩,
 ⟨(some 48), (.mv (.tmp 0)), (some (47, true))⟩,
 ⟨(some 49), (.fa 9 (.tmp 3)), (some (47, true))⟩,
 ⟨(some 50), (.ld (some 2) (.tmp 49)), (some (47, true))⟩,
 ⟨(some 51), (.fa 7 (.tmp 3)), (some (47, true))⟩,
 ⟨(some 52), (.ld (some 2) (.tmp 51)), (some (47, true))⟩,
 ⟨(some 53), (.call 82 [(.tmp 48), (.tmp 50), (.tmp 52)]), (some (47, true))⟩,
 ⟨(some 54), (.pick (.tmp 47) (.tmp 53) (.const (.bool false))), none⟩])
 (.cond (.tmp 54) (.seq (.reg [⟨(some 55), (.bld [.int .i64 (0), .int .i64 (0), .int .i64 (0), .int .i64 (0), .int .i64 (0), .int .i64 (0), .string ⟨#[]⟩, .int .i64 (0), .int .i64 (0), .bool false, .string ⟨#[]⟩, .bool false, .int .i64 (0), .int .i64 (0), .slice none 0 0, .slice none 0 0] []), none⟩,
 ⟨none, (.st 16 (.tmp 4) (.tmp 55)), none⟩,
 ⟨(some 5), (.mv (.const (.bool true))), none⟩])
 .ret)
 .skip))
 (.seq (.reg [⟨(some 56), (.mv (.tmp 0)), none⟩,
 ⟨(some 57), (.mv (.tmp 0)), none⟩,
 ⟨(some 58), (.nilc (.tmp 57)), none⟩,
 ⟨(some 59), (.fa 2 (.tmp 58)), none⟩,
 ⟨(some 60), (.fa 4 (.tmp 59)), none⟩,
 ⟨(some 61), (.ld none (.tmp 60)), none⟩,
 ⟨(some 62), (.call 81 [(.tmp 56), (.const (.int .i64 2)), (.tmp 61)]), none⟩,
 ⟨none, (.st 16 (.tmp 4) (.tmp 62)), none⟩,
 ⟨(some 5), (.mv (.const (.bool true))), none⟩])
 .ret))
 (.seq (.reg [⟨(some 64), (.fa 0 (.tmp 3)), none⟩,
 ⟨(some 65), (.ld none (.tmp 64)), none⟩,
 ⟨(some 66), (.bin .eql (.tmp 65) (.const (.int .i64 6))), none⟩,
 ⟨(some 67), (.mv (.tmp 66)), none⟩,
 ⟨(some 68), (.mv (.tmp 0)), (some (67, true))⟩,
 ⟨(some 69), (.nilc (.tmp 68)), (some (67, true))⟩,
 ⟨(some 70), (.fa 2 (.tmp 69)), (some (67, true))⟩,
 ⟨(some 71), (.fa 0 (.tmp 70)), (some (67, true))⟩,
 ⟨(some 72), (.ld none (.tmp 71)), (some (67, true))⟩,
 ⟨(some 73), (.bin .eql (.tmp 72) (.const (.int .i64 2))), (some (67, true))⟩,
 ⟨(some 74), (.pick (.tmp 67) (.tmp 73) (.const (.bool false))), none⟩,
 ⟨(some 63), (.mv (.tmp 74)), none⟩])
 (.cond (.tmp 63) (.seq (.seq (.reg [⟨(some 75), (.fa 12 (.tmp 3)), none⟩,
 ⟨(some 76), (.ld none (.tmp 75)), none⟩,
 ⟨(some 77), (.bin .neq (.tmp 76) (.const (.int .i64 0))), none⟩])
 (.cond (.tmp 77) (.seq (.reg [⟨(some 78), (.mv (.tmp 0)), none⟩,
 ⟨(some 79), (.fa 12 (.tmp 3)), none⟩,
 ⟨(some 80), (.ld none (.tmp 79)), none⟩,
 ⟨(some 81), (.call 83 [(.tmp 78), (.const (.int .i64 4)), (.tmp 80)]), none⟩])
 (.seq (.reg [⟨(some 82), (.bld [.int .i64 (0), .int .i64 (0), .int .i64 (0), .int .i64 (0), .int .i64 (0), .int .i64 (0), .string ⟨#[]⟩, .int .i64 (0), .int .i64 (0), .bool false, .string ⟨#[]⟩, .bool false, .int .i64 (0), .int .i64 (0), .slice none 0 0, .slice none 0 0] []), none⟩,
 ⟨none, (.st 16 (.tmp 4) (.tmp 82)), none⟩,
 ⟨(some 5), (.mv (.const (.bool true))), none⟩])
 .ret))
 .skip))
 (.seq (.reg [⟨(some 83), (.bld [.int .i64 (0), .int .i64 (0), .int .i64 (0), .int .i64 (0), .int .i64 (0), .int .i64 (0), .string ⟨#[]⟩, .int .i64 (0), .int .i64 (0), .bool false, .string ⟨#[]⟩, .bool false, .int .i64 (0), .int .i64 (0), .slice none 0 0, .slice none 0 0] []), none⟩,
 ⟨(some 84), (.mv (.tmp 0)), none⟩,
 ⟨(some 85), (.fa 9 (.tmp 3)), none⟩,
 ⟨(some 86), (.ld (some 2) (.tmp 85)), none⟩,
 ⟨(some 87), (.fa 7 (.tmp 3)), none⟩,
 ⟨(some 88), (.ld (some 2) (.tmp 87)), none⟩,
 ⟨(some 89), (.call 82 [(.tmp 84), (.tmp 86), (.tmp 88)]), none⟩,
 ⟨none, (.st 16 (.tmp 4) (.tmp 83)), none⟩,
 ⟨(some 5), (.mv (.tmp 89)), none⟩])
 .ret))
 .skip)))))
 (.seq (.reg [⟨(some 90), (.bld [.int .i64 (0), .int .i64 (0), .int .i64 (0), .int .i64 (0), .int .i64 (0), .int .i64 (0), .string ⟨#[]⟩, .int .i64 (0), .int .i64 (0), .bool false, .string ⟨#[]⟩, .bool false, .int .i64 (0), .int .i64 (0), .slice none 0 0, .slice none 0 0] []), none⟩,
 ⟨none, (.st 16 (.tmp 4) (.tmp 90)), none⟩,
 ⟨(some 5), (.mv (.const (.bool false))), none⟩])
 .ret))))
def r65 : List RV := [.agg 4 16, .tmp 5]
theorem ok65 : FnOk Tryd.prog 65 91 c65 r65 := ⟨[25, 24], _, _, Tryd.func65, rfl, rfl, by kernel_rfl, by kernel_rfl, by kernel_rfl⟩
/-- (*vouch/tx.Tx).Finish -/
def c66 : C := (.seq (.reg [⟨(some 2), (.mv (.const (.int .i64 0))), none⟩,
 ⟨(some 3), (.mv (.const (.int .i64 0))), none⟩])
 (.seq (.block 0 (.seq (.reg [⟨(some 5), (.mv (.tmp 0)), none⟩,
 ⟨(some 6), (.eqs false .ptr (.tmp 5) (.const (.pointer none))), none⟩,
 ⟨(some 4), (.mv (.tmp 6)), none⟩])
 (.cond (.tmp 4) (.seq (.reg [⟨(some 2), (.mv (.const (.int .i64 0))), none⟩,
 ⟨(some 3), (.mv (.const (.int .i64 3))), none⟩])
 .ret)
 (.seq (.reg [⟨(some 8), (.mv (.tmp 0)), none⟩,
 ⟨(some 9), (.nilc (.tmp 8)), none⟩,
 ⟨(some 10), (.fa 2 (.tmp 9)), none⟩,
 ⟨(some 11), (.fa 0 (.tmp 10)), none⟩,
 ⟨(some 12), (.ld none (.tmp 11)), none⟩,
 ⟨(some 13), (.bin .eql (.tmp 12) (.const (.int .i64 3))), none⟩,
 ⟨(some 7), (.mv (.tmp 13)), none⟩])
 (.cond (.tmp 7) (.seq (.reg [⟨(some 2), (.mv (.const (.int .i64 0))), none⟩,
 ⟨(some 3), (.mv (.const (.int .i64 40))), none⟩])
 .ret)
 (.seq (.reg [⟨(some 15), (.mv (.tmp 0)), none⟩,
 ⟨(some 16), (.nilc (.tmp 15)), none⟩,
 ⟨(some 17), (.fa 2 (.tmp 16)), none⟩,
 ⟨(some 18), (.fa 0 (.tmp 17)), none⟩,
 ⟨(some 19), (.ld none (.tmp 18)), none⟩,
 ⟨(some 20), (.bin .eql (.tmp 19) (.const (.int .i64 4))), none⟩,
 ⟨(some 14), (.mv (.tmp 20)), none⟩])
 (.cond (.tmp 14) (.seq (.draw [⟨⟨(some 21), (.mv (.tmp 0)), none⟩, .p⟩,
 ⟨⟨(some 22), (.nilc (.tmp 21)), none⟩, .p⟩,
 ⟨⟨(some 23), (.fa 2 (.tmp 22)), none⟩, .p⟩,
 ⟨⟨(some 24), (.fa 1 (.tmp 23)), none⟩, .p⟩,
 ⟨⟨(some 25), (.ld none (.tmp 24)), none⟩, .l⟩,
 ⟨⟨(some 2), (.mv (.const (.int .i64 0))), none⟩, .p⟩,
 ⟨⟨(some 3), (.mv (.tmp 25)), none⟩, .p⟩])
 .ret)
 (.seq (.reg [⟨(some 27), (.mv (.tmp 0)), none⟩,
 ⟨(some 28), (.call 80 [(.tmp 27)]), none⟩,
 ⟨(some 26), (.mv (.tmp 28)), none⟩])
 (.cond (.tmp 26) (.seq (.reg [⟨(some 2), (.mv (.const (.int .i64 0))), none⟩,
 ⟨(some 3), (.mv (.const (.int .i64 31))), none⟩])
 .ret)
 .skip)))))))))
 (.seq (.reg [⟨(some 29), (.mv (.tmp 0)), none⟩,
 ⟨(some 30), (.call 83 [(.tmp 29), (.const (.int .i64 3)), (.const (.int .i64 0))]), none⟩])
 (.seq (.seq (.reg [⟨(some 31), (.mv (.tmp 0)), none⟩,
 ⟨(some 32), (.nilc (.tmp 31)), none⟩,
 ⟨(some 33), (.fa 2 (.tmp 32)), none⟩,
 ⟨(some 34), (.fa 2 (.tmp 33)), none⟩,
 ⟨(some 35), (.fa 1 (.tmp 34)), none⟩,
 ⟨(some 36), (.ld none (.tmp 35)), none⟩,
 ⟨(some 37), (.bin .eql (.tmp 36) (.const (.int .i64 4611686018427387904))), none⟩])
 (.cond (.tmp 37) (.seq (.reg [⟨(some 38), (.mv (.tmp 0)), none⟩,
 ⟨(some 39), (.nilc (.tmp 38)), none⟩,
 ⟨(some 40), (.fa 2 (.tmp 39)), none⟩,
 ⟨(some 41), (.fa 2 (.tmp 40)), none⟩,
 ⟨(some 42), (.fa 0 (.tmp 41)), none⟩,
 ⟨(some 43), (.ld none (.tmp 42)), none⟩,
 ⟨(some 2), (.mv (.tmp 43)), none⟩,
 ⟨(some 3), (.mv (.const (.int .i64 0))), none⟩])
 .ret)
 .skip))
 (.seq (.reg [⟨(some 44), (.mv (.tmp 0)), none⟩,
 ⟨(some 45), (.nilc (.tmp 44)), none⟩,
 ⟨(some 46), (.fa 2 (.tmp 45)), none⟩,
 ⟨(some 47), (.fa 2 (.tmp 46)), none⟩,
 ⟨(some 48), (.fa 1 (.tmp 47)), none⟩,
 ⟨(some 49), (.ld none (.tmp 48)), none⟩,
 ⟨(some 50), (.bin .sub (.tmp 49) (.const (.int .i64 1))), none⟩,
 ⟨(some 2), (.mv (.tmp 50)), none⟩,
 ⟨(some 3), (.mv (.const (.int .i64 0))), none⟩])
 .ret)))))
def r66 : List RV := [.tmp 2, .tmp 3]
theorem ok66 : FnOk Tryd.prog 66 51 c66 r66 := ⟨[25, 24], _, _, Tryd.func66, rfl, rfl, by kernel_rfl, by kernel_rfl, by kernel_rfl⟩
/-- (*vouch/tx.Tx).Clone -/
def c67 : C := (.seq (.reg [⟨(some 2), (.mv (.const (.pointer none))), none⟩])
 (.seq (.seq (.reg [⟨(some 3), (.mv (.tmp 0)), none⟩,
 ⟨(some 4), (.eqs false .ptr (.tmp 3) (.const (.pointer none))), none⟩])
 (.cond (.tmp 4) (.seq (.reg [⟨(some 2), (.mv (.const (.pointer none))), none⟩])
 .ret)
 .skip))
 (.seq (.draw [⟨⟨(some 5), (.mv (.tmp 0)), none⟩, .p⟩,
 ⟨⟨(some 6), (.nilc (.tmp 5)), none⟩, .p⟩,
 ⟨⟨(some 7), (.fa 0 (.tmp 6)), none⟩, .p⟩,
 ⟨⟨(some 8), (.ld none (.tmp 7)), none⟩, .l⟩,
 ⟨⟨(some 9), (.mv (.tmp 0)), none⟩, .p⟩,
 ⟨⟨(some 10), (.nilc (.tmp 9)), none⟩, .p⟩,
 ⟨⟨(some 11), (.fa 1 (.tmp 10)), none⟩, .p⟩,
 ⟨⟨(some 12), (.ld none (.tmp 11)), none⟩, .l⟩,
 ⟨⟨(some 13), (.mv (.tmp 0)), none⟩, .p⟩,
 ⟨⟨(some 14), (.call 63 [(.tmp 13)]), none⟩, .g⟩,
 ⟨⟨(some 15), (.bld [.int .i64 (0), .int .i64 (0), .int .i64 (0), .int .i64 (0), .int .i64 (0), .int .i64 (0), .string ⟨#[]⟩, .int .i64 (0), .int .i64 (0), .slice none 0 0] [(0, 1, (.tmp 8)), (1, 1, (.tmp 12)), (2, 8, (.tmp 14))]), none⟩, .p⟩,
 ⟨⟨(some 16), (.box 150 (.tmp 15)), none⟩, .f⟩,
 ⟨⟨(some 2), (.mv (.tmp 16)), none⟩, .p⟩])
 .ret)))
def r67 : List RV := [.tmp 2]
theorem ok67 : FnOk Tryd.prog 67 17 c67 r67 := ⟨[25, 24], _, _, Tryd.func67, rfl, rfl, by kernel_rfl, by kernel_rfl, by kernel_rfl⟩
/-- (*vouch/client.Client).retries -/
def c68 : C := (.seq (.reg [⟨(some 2), (.mv (.const (.int .i64 0))), none⟩])
 (.seq (.seq (.reg [⟨(some 3), (.mv (.tmp 0)), none⟩,
 ⟨(some 4), (.eqs false .ptr (.tmp 3) (.const (.pointer none))), none⟩])
 (.cond (.tmp 4) (.seq (.reg [⟨(some 2), (.mv (.const (.int .i64 0))), none⟩])
 .ret)
 .skip))
 (.seq (.reg [⟨(some 5), (.mv (.tmp 0)), none⟩,
 ⟨(some 6), (.nilc (.tmp 5)), none⟩,
 ⟨(some 7), (.fa 0 (.tmp 6)), none⟩,
 ⟨(some 8), (.fa 7 (.tmp 7)), none⟩,
 ⟨(some 9), (.ld none (.tmp 8)), none⟩,
 ⟨(some 2), (.mv (.tmp 9)), none⟩])
 .ret)))
def r68 : List RV := [.tmp 2]
theorem ok68 : FnOk Tryd.prog 68 10 c68 r68 := ⟨[25, 24], _, _, Tryd.func68, rfl, rfl, by kernel_rfl, by kernel_rfl, by kernel_rfl⟩
/-- (*vouch/tx.Tx).Again -/
def c69 : C := (.seq (.reg [⟨(some 4), (.new 33 [.int .i64 (0), .int .i64 (0), .int .i64 (0), .int .i64 (0), .int .i64 (0), .int .i64 (0), .string ⟨#[]⟩, .int .i64 (0), .int .i64 (0), .bool false, .string ⟨#[]⟩, .bool false, .int .i64 (0), .int .i64 (0), .slice none 0 0, .slice none 0 0]), none⟩,
 ⟨(some 5), (.mv (.const (.int .i64 0))), none⟩])
 (.seq (.block 0 (.seq (.reg [⟨(some 7), (.mv (.tmp 0)), none⟩,
 ⟨(some 8), (.eqs false .ptr (.tmp 7) (.const (.pointer none))), none⟩,
 ⟨(some 9), (.mv (.tmp 8)), none⟩,
 ⟨(some 10), (.mv (.tmp 0)), (some (9, false))⟩,
 ⟨(some 11), (.call 80 [(.tmp 10)]), (some (9, false))⟩,
 ⟨(some 12), (.nt (.tmp 11)), (some (9, false))⟩,
 ⟨(some 13), (.pick (.tmp 9) (.const (.bool true)) (.tmp 12)), none⟩,
 ⟨(some 6), (.mv (.tmp 13)), none⟩])
 (.cond (.tmp 6) (.seq (.reg [⟨(some 14), (.bld [.int .i64 (0), .int .i64 (0), .int .i64 (0), .int .i64 (0), .int .i64 (0), .int .i64 (0), .string ⟨#[]⟩, .int .i64 (0), .int .i64 (0), .bool false, .string ⟨#[]⟩, .bool false, .int .i64 (0), .int .i64 (0), .slice none 0 0, .slice none 0 0] []), none⟩,
 ⟨none, (.st 16 (.tmp 4) (.tmp 14)), none⟩,
 ⟨(some 5), (.mv (.const (.int .i64 3))), none⟩])
 .ret)
 (.seq (.reg [⟨(some 16), (.mv (.tmp 0)), none⟩,
 ⟨(some 17), (.nilc (.tmp 16)), none⟩,
 ⟨(some 18), (.fa 2 (.tmp 17)), none⟩,
 ⟨(some 19), (.fa 6 (.tmp 18)), none⟩,
 ⟨(some 20), (.ld none (.tmp 19)), none⟩,
 ⟨(some 21), (.mv (.tmp 1)), none⟩,
 ⟨(some 22), (.bin .lss (.tmp 20) (.tmp 21)), none⟩,
 ⟨(some 15), (.mv (.tmp 22)), none⟩])
 (.cond (.tmp 15) (.seq (.reg [⟨(some 23), (.mv (.tmp 0)), none⟩,
 ⟨(some 24), (.nilc (.tmp 23)), none⟩,
 ⟨(some 25), (.fa 2 (.tmp 24)), none⟩,
 ⟨(some 26), (.fa 6 (.tmp 25)), none⟩,
 ⟨(some 27), (.ld none (.tmp 26)), none⟩,
 ⟨(some 28), (.bin .add (.tmp 27) (.const (.int .i64 1))), none⟩,
 ⟨(some 29), (.nilc (.tmp 23)), none⟩,
 ⟨(some 30), (.fa 2 (.tmp 29)), none⟩,
 ⟨(some 31), (.fa 6 (.tmp 30)), none⟩,
 ⟨none, (.st 1 (.tmp 31) (.tmp 28)), none⟩])
 (.seq (.reg [⟨(some 32), (.mv (.tmp 0)), none⟩,
 ⟨(some 33), (.call 84 [(.tmp 32)]), none⟩,
 ⟨none, (.st 16 (.tmp 4) (.tmp 33)), none⟩,
 ⟨(some 5), (.mv (.const (.int .i64 0))), none⟩])
 .ret))
 (.seq (.reg [⟨(some 35), (.mv (.tmp 0)), none⟩,
 ⟨(some 36), (.nilc (.tmp 35)), none⟩,
 ⟨(some 37), (.fa 2 (.tmp 36)), none⟩,
 ⟨(some 38), (.fa 0 (.tmp 37)), none⟩,
 ⟨(some 39), (.ld none (.tmp 38)), none⟩,
 ⟨(some 40), (.bin .eql (.tmp 39) (.const (.int .i64 1))), none⟩,
 ⟨(some 34), (.mv (.tmp 40)), none⟩])
 (.cond (.tmp 34) (.seq (.reg [⟨(some 41), (.mv (.tmp 0)), none⟩,
 ⟨(some 42), (.mv (.tmp 0)), none⟩,
 ⟨(some 43), (.nilc (.tmp 42)), none⟩,
 ⟨(some 44), (.fa 2 (.tmp 43)), none⟩,
 ⟨(some 45), (.fa 4 (.tmp 44)), none⟩,
 ⟨(some 46), (.ld none (.tmp 45)), none⟩,
 ⟨(some 47), (.call 81 [(.tmp 41), (.const (.int .i64 2)), (.tmp 46)]), none⟩,
 ⟨none, (.st 16 (.tmp 4) (.tmp 47)), none⟩,
 ⟨(some 5), (.mv (.const (.int .i64 0))), none⟩])
 .ret)
 .skip)))))))
 (.seq (.reg [⟨(some 48), (.mv (.tmp 0)), none⟩,
 ⟨(some 49), (.call 83 [(.tmp 48), (.const (.int .i64 4)), (.const (.int .i64 41))]), none⟩])
 (.seq (.reg [⟨(some 50), (.bld [.int .i64 (0), .int .i64 (0), .int .i64 (0), .int .i64 (0), .int .i64 (0), .int .i64 (0), .string ⟨#[]⟩, .int .i64 (0), .int .i64 (0), .bool false, .string ⟨#[]⟩, .bool false, .int .i64 (0), .int .i64 (0), .slice none 0 0, .slice none 0 0] []), none⟩,
 ⟨none, (.st 16 (.tmp 4) (.tmp 50)), none⟩,
 ⟨(some 5), (.mv (.const (.int .i64 41))), none⟩])
 .ret))))
def r69 : List RV := [.agg 4 16, .tmp 5]
theorem ok69 : FnOk Tryd.prog 69 51 c69 r69 := ⟨[25, 24], _, _, Tryd.func69, rfl, rfl, by kernel_rfl, by kernel_rfl, by kernel_rfl⟩
/-- vouch/fact.Held$1 -/
def c78 : C := (.seq (.reg [⟨(some 6), (.mv (.const (.int .i64 0))), none⟩])
 (.seq (.reg [⟨(some 7), (.mv (.tmp 0)), none⟩,
 ⟨(some 8), (.mv (.tmp 2)), none⟩,
 ⟨(some 9), (.mx true (.tmp 7) (.tmp 8)), none⟩,
 ⟨(some 10), (.mv (.tmp 1)), none⟩,
 ⟨(some 11), (.mx false (.tmp 9) (.tmp 10)), none⟩,
 ⟨(some 6), (.mv (.tmp 11)), none⟩])
 .ret))
def r78 : List RV := [.tmp 6]
theorem ok78 : FnOk Tryd.prog 78 12 c78 r78 := ⟨[25, 24], _, _, Tryd.func78, rfl, rfl, by kernel_rfl, by kernel_rfl, by kernel_rfl⟩
/-- slices.Clone[[]vouch/api.Got,vouch/api.Got] -/
def c79 : C := (.seq (.reg [⟨(some 2), (.mv (.const (.slice none 0 0))), none⟩])
 (.seq (.seq (.reg [⟨(some 3), (.mv (.tmp 0)), none⟩,
 ⟨(some 4), (.eqs false .slice (.tmp 3) (.const (.slice none 0 0))), none⟩])
 (.cond (.tmp 4) (.seq (.reg [⟨(some 2), (.mv (.const (.slice none 0 0))), none⟩])
 .ret)
 .skip))
 (.seq (.reg [⟨(some 5), (.lit 152 0 3 [] []), none⟩,
 ⟨(some 6), (.mv (.tmp 0)), none⟩,
 ⟨(some 7), (.app 152 3 40 (.tmp 5) (.tmp 6)), none⟩,
 ⟨(some 2), (.mv (.tmp 7)), none⟩])
 .ret)))
def r79 : List RV := [.tmp 2]
theorem ok79 : FnOk Tryd.prog 79 8 c79 r79 := ⟨[25, 24], _, _, Tryd.func79, rfl, rfl, by kernel_rfl, by kernel_rfl, by kernel_rfl⟩
/-- (*vouch/tx.Tx).busy -/
def c80 : C := (.seq (.reg [⟨(some 2), (.mv (.const (.bool false))), none⟩])
 (.seq (.reg [⟨(some 3), (.mv (.tmp 0)), none⟩,
 ⟨(some 4), (.nilc (.tmp 3)), none⟩,
 ⟨(some 5), (.fa 2 (.tmp 4)), none⟩,
 ⟨(some 6), (.fa 0 (.tmp 5)), none⟩,
 ⟨(some 7), (.ld none (.tmp 6)), none⟩,
 ⟨(some 8), (.bin .eql (.tmp 7) (.const (.int .i64 1))), none⟩,
 ⟨(some 9), (.mv (.tmp 8)), none⟩,
 ⟨(some 10), (.mv (.tmp 0)), (some (9, false))⟩,
 ⟨(some 11), (.nilc (.tmp 10)), (some (9, false))⟩,
 ⟨(some 12), (.fa 2 (.tmp 11)), (some (9, false))⟩,
 ⟨(some 13), (.fa 0 (.tmp 12)), (some (9, false))⟩,
 ⟨(some 14), (.ld none (.tmp 13)), (some (9, false))⟩,
 ⟨(some 15), (.bin .eql (.tmp 14) (.const (.int .i64 2))), (some (9, false))⟩,
 ⟨(some 16), (.pick (.tmp 9) (.const (.bool true)) (.tmp 15)), none⟩,
 ⟨(some 2), (.mv (.tmp 16)), none⟩])
 .ret))
def r80 : List RV := [.tmp 2]
theorem ok80 : FnOk Tryd.prog 80 17 c80 r80 := ⟨[25, 24], _, _, Tryd.func80, rfl, rfl, by kernel_rfl, by kernel_rfl, by kernel_rfl⟩
/-- (*vouch/tx.Tx).ask -/
def c81 : C := (.seq (.reg [⟨(some 6), (.new 33 [.int .i64 (0), .int .i64 (0), .int .i64 (0), .int .i64 (0), .int .i64 (0), .int .i64 (0), .string ⟨#[]⟩, .int .i64 (0), .int .i64 (0), .bool false, .string ⟨#[]⟩, .bool false, .int .i64 (0), .int .i64 (0), .slice none 0 0, .slice none 0 0]), none⟩])
 (.seq (.reg [⟨(some 7), (.mv (.tmp 0)), none⟩,
 ⟨(some 8), (.mv (.tmp 0)), none⟩,
 ⟨(some 9), (.mv (.tmp 0)), none⟩,
 ⟨(some 10), (.mv (.tmp 1)), none⟩,
 ⟨(some 11), (.mv (.tmp 2)), none⟩,
 ⟨(some 12), (.nilc (.tmp 7)), none⟩,
 ⟨(some 13), (.fa 2 (.tmp 12)), none⟩,
 ⟨(some 14), (.fa 0 (.tmp 13)), none⟩,
 ⟨none, (.st 1 (.tmp 14) (.tmp 10)), none⟩,
 ⟨(some 15), (.nilc (.tmp 8)), none⟩,
 ⟨(some 16), (.fa 2 (.tmp 15)), none⟩,
 ⟨(some 17), (.fa 4 (.tmp 16)), none⟩,
 ⟨none, (.st 1 (.tmp 17) (.tmp 11)), none⟩,
 ⟨(some 18), (.nilc (.tmp 9)), none⟩,
 ⟨(some 19), (.fa 2 (.tmp 18)), none⟩,
 ⟨(some 20), (.fa 6 (.tmp 19)), none⟩,
 ⟨none, (.st 1 (.tmp 20) (.const (.int .i64 0))), none⟩])
 (.seq (.reg [⟨(some 21), (.mv (.tmp 0)), none⟩,
 ⟨(some 22), (.nilc (.tmp 21)), none⟩,
 ⟨(some 23), (.fa 2 (.tmp 22)), none⟩,
 ⟨(some 24), (.fa 5 (.tmp 23)), none⟩,
 ⟨(some 25), (.ld none (.tmp 24)), none⟩,
 ⟨(some 26), (.bin .add (.tmp 25) (.const (.int .i64 1))), none⟩,
 ⟨(some 27), (.nilc (.tmp 21)), none⟩,
 ⟨(some 28), (.fa 2 (.tmp 27)), none⟩,
 ⟨(some 29), (.fa 5 (.tmp 28)), none⟩,
 ⟨none, (.st 1 (.tmp 29) (.tmp 26)), none⟩])
 (.seq (.reg [⟨(some 30), (.mv (.tmp 0)), none⟩,
 ⟨(some 31), (.call 84 [(.tmp 30)]), none⟩,
 ⟨none, (.st 16 (.tmp 6) (.tmp 31)), none⟩])
 .ret))))
def r81 : List RV := [.agg 6 16]
theorem ok81 : FnOk Tryd.prog 81 32 c81 r81 := ⟨[25, 24], _, _, Tryd.func81, rfl, rfl, by kernel_rfl, by kernel_rfl, by kernel_rfl⟩
/-- (*vouch/tx.Tx).take -/
def c82 : C := (.seq (.reg [⟨(some 4), (.box 28 (.tmp 1)), none⟩,
 ⟨(some 5), (.box 26 (.tmp 2)), none⟩,
 ⟨(some 6), (.mv (.const (.bool false))), none⟩])
 (.seq (.draw [⟨⟨(some 10), (.mv (.tmp 0)), none⟩, .p⟩,
 ⟨⟨(some 11), (.nilc (.tmp 10)), none⟩, .p⟩,
 ⟨⟨(some 12), (.fa 2 (.tmp 11)), none⟩, .p⟩,
 ⟨⟨(some 13), (.fa 2 (.tmp 12)), none⟩, .p⟩,
 ⟨⟨(some 14), (.ld (some 2) (.tmp 13)), none⟩, .l⟩,
 ⟨⟨(some 15), (.fa 0 (.tmp 5)), none⟩, .p⟩,
 ⟨⟨(some 16), (.ld none (.tmp 15)), none⟩, .l⟩,
 ⟨⟨(some 17), (.fa 1 (.tmp 5)), none⟩, .p⟩,
 ⟨⟨(some 18), (.ld none (.tmp 17)), none⟩, .l⟩,
 ⟨⟨(some 19), (.call 98 [(.tmp 16), (.tmp 18)]), none⟩, .g⟩,
 ⟨⟨(some 20), (.call 97 [(.tmp 14), (.tmp 19)]), none⟩, .g⟩,
 ⟨⟨(some 9), (.mv (.tmp 20)), none⟩, .p⟩,
 ⟨⟨(some 21), (.ext 0 (.tmp 9)), none⟩, .p⟩,
 ⟨⟨(some 22), (.ext 1 (.tmp 9)), none⟩, .p⟩,
 ⟨⟨(some 7), (.new 26 [.int .i64 (0), .int .i64 (0)]), none⟩, .f⟩,
 ⟨⟨none, (.st 2 (.tmp 7) (.tmp 21)), none⟩, .m⟩,
 ⟨⟨(some 8), (.mv (.tmp 22)), none⟩, .p⟩])
 (.seq (.seq (.reg [⟨(some 23), (.mv (.tmp 8)), none⟩])
 (.cond (.tmp 23) (.seq (.reg [⟨(some 24), (.mv (.tmp 0)), none⟩,
 ⟨(some 25), (.ld (some 2) (.tmp 7)), none⟩,
 ⟨(some 26), (.nilc (.tmp 24)), none⟩,
 ⟨(some 27), (.fa 2 (.tmp 26)), none⟩,
 ⟨(some 28), (.fa 2 (.tmp 27)), none⟩,
 ⟨none, (.st 2 (.tmp 28) (.tmp 25)), none⟩])
 (.seq (.draw [⟨⟨(some 29), (.mv (.tmp 0)), none⟩, .p⟩,
 ⟨⟨(some 30), (.mv (.tmp 0)), none⟩, .p⟩,
 ⟨⟨(some 31), (.nilc (.tmp 30)), none⟩, .p⟩,
 ⟨⟨(some 32), (.fa 2 (.tmp 31)), none⟩, .p⟩,
 ⟨⟨(some 33), (.fa 7 (.tmp 32)), none⟩, .p⟩,
 ⟨⟨(some 34), (.ld none (.tmp 33)), none⟩, .l⟩,
 ⟨⟨(some 35), (.mv (.tmp 0)), none⟩, .p⟩,
 ⟨⟨(some 36), (.nilc (.tmp 35)), none⟩, .p⟩,
 ⟨⟨(some 37), (.fa 2 (.tmp 36)), none⟩, .p⟩,
 ⟨⟨(some 38), (.fa 4 (.tmp 37)), none⟩, .p⟩,
 ⟨⟨(some 39), (.ld none (.tmp 38)), none⟩, .l⟩,
 ⟨⟨(some 40), (.ld (some 2) (.tmp 4)), none⟩, .l⟩,
 ⟨⟨(some 41), (.bld [.string ⟨#[]⟩, .bool false, .string ⟨#[]⟩] [(0, 1, (.tmp 39)), (1, 2, (.tmp 40))]), none⟩, .p⟩,
 ⟨⟨(some 42), (.lit 152 1 3 [.string ⟨#[]⟩, .bool false, .string ⟨#[]⟩] [(0, 3, (.tmp 41))]), none⟩, .f⟩,
 ⟨⟨(some 43), (.app 152 3 40 (.tmp 34) (.tmp 42)), none⟩, .m⟩,
 ⟨⟨(some 44), (.nilc (.tmp 29)), none⟩, .p⟩,
 ⟨⟨(some 45), (.fa 2 (.tmp 44)), none⟩, .p⟩,
 ⟨⟨(some 46), (.fa 7 (.tmp 45)), none⟩, .p⟩,
 ⟨⟨none, (.st 1 (.tmp 46) (.tmp 43)), none⟩, .m⟩])
 (.reg [⟨(some 47), (.mv (.tmp 0)), none⟩,
 ⟨(some 48), (.call 83 [(.tmp 47), (.const (.int .i64 0)), (.const (.int .i64 0))]), none⟩])))
 .skip))
 (.seq (.reg [⟨(some 49), (.mv (.tmp 8)), none⟩,
 ⟨(some 6), (.mv (.tmp 49)), none⟩])
 .ret))))
def r82 : List RV := [.tmp 6]
theorem ok82 : FnOk Tryd.prog 82 50 c82 r82 := ⟨[25, 24], _, _, Tryd.func82, rfl, rfl, by kernel_rfl, by kernel_rfl, by kernel_rfl⟩
/-- (*vouch/tx.Tx).rest -/
def c83 : C := (.reg [⟨(some 6), (.mv (.tmp 0)), none⟩,
 ⟨(some 7), (.mv (.tmp 0)), none⟩,
 ⟨(some 8), (.mv (.tmp 0)), none⟩,
 ⟨(some 9), (.mv (.tmp 0)), none⟩,
 ⟨(some 10), (.mv (.tmp 1)), none⟩,
 ⟨(some 11), (.mv (.tmp 2)), none⟩,
 ⟨(some 12), (.nilc (.tmp 6)), none⟩,
 ⟨(some 13), (.fa 2 (.tmp 12)), none⟩,
 ⟨(some 14), (.fa 0 (.tmp 13)), none⟩,
 ⟨none, (.st 1 (.tmp 14) (.tmp 10)), none⟩,
 ⟨(some 15), (.nilc (.tmp 7)), none⟩,
 ⟨(some 16), (.fa 2 (.tmp 15)), none⟩,
 ⟨(some 17), (.fa 1 (.tmp 16)), none⟩,
 ⟨none, (.st 1 (.tmp 17) (.tmp 11)), none⟩,
 ⟨(some 18), (.nilc (.tmp 8)), none⟩,
 ⟨(some 19), (.fa 2 (.tmp 18)), none⟩,
 ⟨(some 20), (.fa 4 (.tmp 19)), none⟩,
 ⟨none, (.st 1 (.tmp 20) (.const (.string { data := #[] }))), none⟩,
 ⟨(some 21), (.nilc (.tmp 9)), none⟩,
 ⟨(some 22), (.fa 2 (.tmp 21)), none⟩,
 ⟨(some 23), (.fa 6 (.tmp 22)), none⟩,
 ⟨none, (.st 1 (.tmp 23) (.const (.int .i64 0))), none⟩])
def r83 : List RV := []
theorem ok83 : FnOk Tryd.prog 83 24 c83 r83 := ⟨[25, 24], _, _, Tryd.func83, rfl, rfl, by kernel_rfl, by kernel_rfl, by kernel_rfl⟩
/-- (*vouch/tx.Tx).message -/
def c84 : C := (.seq (.reg [⟨(some 2), (.new 33 [.int .i64 (0), .int .i64 (0), .int .i64 (0), .int .i64 (0), .int .i64 (0), .int .i64 (0), .string ⟨#[]⟩, .int .i64 (0), .int .i64 (0), .bool false, .string ⟨#[]⟩, .bool false, .int .i64 (0), .int .i64 (0), .slice none 0 0, .slice none 0 0]), none⟩])
 (.seq (.draw [⟨⟨(some 4), (.mv (.tmp 0)), none⟩, .p⟩,
 ⟨⟨(some 5), (.nilc (.tmp 4)), none⟩, .p⟩,
 ⟨⟨(some 6), (.fa 0 (.tmp 5)), none⟩, .p⟩,
 ⟨⟨(some 7), (.ld none (.tmp 6)), none⟩, .l⟩,
 ⟨⟨(some 8), (.mv (.tmp 0)), none⟩, .p⟩,
 ⟨⟨(some 9), (.nilc (.tmp 8)), none⟩, .p⟩,
 ⟨⟨(some 10), (.fa 2 (.tmp 9)), none⟩, .p⟩,
 ⟨⟨(some 11), (.fa 5 (.tmp 10)), none⟩, .p⟩,
 ⟨⟨(some 12), (.ld none (.tmp 11)), none⟩, .l⟩,
 ⟨⟨(some 13), (.mv (.tmp 0)), none⟩, .p⟩,
 ⟨⟨(some 14), (.nilc (.tmp 13)), none⟩, .p⟩,
 ⟨⟨(some 15), (.fa 2 (.tmp 14)), none⟩, .p⟩,
 ⟨⟨(some 16), (.fa 4 (.tmp 15)), none⟩, .p⟩,
 ⟨⟨(some 17), (.ld none (.tmp 16)), none⟩, .l⟩,
 ⟨⟨(some 18), (.mv (.tmp 0)), none⟩, .p⟩,
 ⟨⟨(some 19), (.nilc (.tmp 18)), none⟩, .p⟩,
 ⟨⟨(some 20), (.fa 2 (.tmp 19)), none⟩, .p⟩,
 ⟨⟨(some 21), (.fa 2 (.tmp 20)), none⟩, .p⟩,
 ⟨⟨(some 22), (.ld (some 2) (.tmp 21)), none⟩, .l⟩,
 ⟨⟨(some 23), (.bld [.int .i64 (0), .int .i64 (0), .int .i64 (0), .int .i64 (0), .int .i64 (0), .int .i64 (0), .string ⟨#[]⟩, .int .i64 (0), .int .i64 (0), .bool false, .string ⟨#[]⟩, .bool false, .int .i64 (0), .int .i64 (0), .slice none 0 0, .slice none 0 0] [(0, 1, (.const (.int .i64 5))), (4, 1, (.tmp 7)), (5, 1, (.tmp 12)), (6, 1, (.tmp 17)), (7, 2, (.tmp 22))]), none⟩, .p⟩,
 ⟨⟨(some 3), (.new 33 [.int .i64 (0), .int .i64 (0), .int .i64 (0), .int .i64 (0), .int .i64 (0), .int .i64 (0), .string ⟨#[]⟩, .int .i64 (0), .int .i64 (0), .bool false, .string ⟨#[]⟩, .bool false, .int .i64 (0), .int .i64 (0), .slice none 0 0, .slice none 0 0]), none⟩, .f⟩,
 ⟨⟨none, (.st 16 (.tmp 3) (.tmp 23)), none⟩, .m⟩])
 (.seq (.seq (.reg [⟨(some 24), (.mv (.tmp 0)), none⟩,
 ⟨(some 25), (.nilc (.tmp 24)), none⟩,
 ⟨(some 26), (.fa 2 (.tmp 25)), none⟩,
 ⟨(some 27), (.fa 0 (.tmp 26)), none⟩,
 ⟨(some 28), (.ld none (.tmp 27)), none⟩,
 ⟨(some 29), (.bin .eql (.tmp 28) (.const (.int .i64 1))), none⟩])
 (.cond (.tmp 29) (.draw [⟨⟨(some 30), (.fa 6 (.tmp 3)), none⟩, .p⟩,
 ⟨⟨(some 31), (.ld none (.tmp 30)), none⟩, .l⟩,
 ⟨⟨(some 32), (.mv (.tmp 0)), none⟩, .p⟩,
 ⟨⟨(some 33), (.nilc (.tmp 32)), none⟩, .p⟩,
 ⟨⟨(some 34), (.fa 1 (.tmp 33)), none⟩, .p⟩,
 ⟨⟨(some 35), (.ld none (.tmp 34)), none⟩, .l⟩,
 ⟨⟨(some 36), (.call 99 [(.tmp 31), (.tmp 35)]), none⟩, .m⟩,
 ⟨⟨(some 37), (.fa 0 (.tmp 3)), none⟩, .p⟩,
 ⟨⟨none, (.st 1 (.tmp 37) (.const (.int .i64 3))), none⟩, .m⟩,
 ⟨⟨(some 38), (.fa 1 (.tmp 3)), none⟩, .p⟩,
 ⟨⟨none, (.st 1 (.tmp 38) (.tmp 36)), none⟩, .m⟩])
 .skip))
 (.seq (.reg [⟨(some 39), (.ld (some 16) (.tmp 3)), none⟩,
 ⟨none, (.st 16 (.tmp 2) (.tmp 39)), none⟩])
 .ret))))
def r84 : List RV := [.agg 2 16]
theorem ok84 : FnOk Tryd.prog 84 40 c84 r84 := ⟨[25, 24], _, _, Tryd.func84, rfl, rfl, by kernel_rfl, by kernel_rfl, by kernel_rfl⟩
/-- vouch/fact.Narrow -/
def c97 : C := (.seq (.reg [⟨(some 2), (.box 26 (.tmp 0)), none⟩,
 ⟨(some 3), (.box 177 (.tmp 1)), none⟩,
 ⟨(some 4), (.new 26 [.int .i64 (0), .int .i64 (0)]), none⟩,
 ⟨(some 5), (.mv (.const (.bool false))), none⟩])
 (.seq (.draw [⟨⟨(some 7), (.ld (some 2) (.tmp 2)), none⟩, .l⟩,
 ⟨⟨(some 8), (.call 111 [(.tmp 7)]), none⟩, .g⟩,
 ⟨⟨(some 9), (.ld (some 2) (.tmp 3)), none⟩, .l⟩,
 ⟨⟨(some 10), (.call 112 [(.tmp 8), (.tmp 9)]), none⟩, .g⟩,
 ⟨⟨(some 6), (.new 177 [.int .i64 (0), .int .i64 (0)]), none⟩, .f⟩,
 ⟨⟨none, (.st 2 (.tmp 6) (.tmp 10)), none⟩, .m⟩])
 (.seq (.draw [⟨⟨(some 11), (.fa 0 (.tmp 6)), none⟩, .p⟩,
 ⟨⟨(some 12), (.ld none (.tmp 11)), none⟩, .l⟩,
 ⟨⟨(some 13), (.fa 1 (.tmp 6)), none⟩, .p⟩,
 ⟨⟨(some 14), (.ld none (.tmp 13)), none⟩, .l⟩,
 ⟨⟨(some 15), (.bld [.int .i64 (0), .int .i64 (0)] [(0, 1, (.tmp 12)), (1, 1, (.tmp 14))]), none⟩, .p⟩,
 ⟨⟨(some 16), (.ld (some 2) (.tmp 6)), none⟩, .l⟩,
 ⟨⟨(some 17), (.call 113 [(.tmp 16)]), none⟩, .g⟩,
 ⟨⟨(some 18), (.nt (.tmp 17)), none⟩, .p⟩,
 ⟨⟨none, (.st 2 (.tmp 4) (.tmp 15)), none⟩, .m⟩,
 ⟨⟨(some 5), (.mv (.tmp 18)), none⟩, .p⟩])
 .ret)))
def r97 : List RV := [.agg 4 2, .tmp 5]
theorem ok97 : FnOk Tryd.prog 97 19 c97 r97 := ⟨[25, 24], _, _, Tryd.func97, rfl, rfl, by kernel_rfl, by kernel_rfl, by kernel_rfl⟩
/-- vouch/span.Of[int64] -/
def c98 : C := (.seq (.reg [⟨(some 4), (.new 177 [.int .i64 (0), .int .i64 (0)]), none⟩])
 (.seq (.seq (.reg [⟨(some 5), (.mv (.tmp 0)), none⟩,
 ⟨(some 6), (.mv (.tmp 1)), none⟩,
 ⟨(some 7), (.bin .geq (.tmp 5) (.tmp 6)), none⟩])
 (.cond (.tmp 7) (.seq (.reg [⟨(some 8), (.bld [.int .i64 (0), .int .i64 (0)] []), none⟩,
 ⟨none, (.st 2 (.tmp 4) (.tmp 8)), none⟩])
 .ret)
 .skip))
 (.seq (.reg [⟨(some 9), (.mv (.tmp 0)), none⟩,
 ⟨(some 10), (.mv (.tmp 1)), none⟩,
 ⟨(some 11), (.bld [.int .i64 (0), .int .i64 (0)] [(0, 1, (.tmp 9)), (1, 1, (.tmp 10))]), none⟩,
 ⟨none, (.st 2 (.tmp 4) (.tmp 11)), none⟩])
 .ret)))
def r98 : List RV := [.agg 4 2]
theorem ok98 : FnOk Tryd.prog 98 12 c98 r98 := ⟨[25, 24], _, _, Tryd.func98, rfl, rfl, by kernel_rfl, by kernel_rfl, by kernel_rfl⟩
/-- vouch/route.To -/
def c99 : C := (.seq (.reg [⟨(some 4), (.mv (.const (.int .i64 0))), none⟩])
 (.seq (.seq (.reg [⟨(some 5), (.mv (.tmp 1)), none⟩,
 ⟨(some 6), (.bin .lss (.tmp 5) (.const (.int .i64 1))), none⟩,
 ⟨(some 7), (.mv (.tmp 6)), none⟩,
 ⟨(some 8), (.mv (.tmp 1)), (some (7, false))⟩,
 ⟨(some 9), (.bin .gtr (.tmp 8) (.const (.int .i64 8))), (some (7, false))⟩,
 ⟨(some 10), (.pick (.tmp 7) (.const (.bool true)) (.tmp 9)), none⟩])
 (.cond (.tmp 10) (.seq (.reg [⟨(some 4), (.mv (.const (.int .i64 (-1)))), none⟩])
 .ret)
 .skip))
 (.seq (.reg [⟨(some 11), (.mv (.tmp 0)), none⟩,
 ⟨(some 12), (.call 114 [(.tmp 11)]), none⟩,
 ⟨(some 13), (.mv (.tmp 1)), none⟩,
 ⟨(some 14), (.conv .u64 (.tmp 13)), none⟩,
 ⟨(some 15), (.bin .rem (.tmp 12) (.tmp 14)), none⟩,
 ⟨(some 16), (.conv .i64 (.tmp 15)), none⟩,
 ⟨(some 4), (.mv (.tmp 16)), none⟩])
 .ret)))
def r99 : List RV := [.tmp 4]
theorem ok99 : FnOk Tryd.prog 99 17 c99 r99 := ⟨[25, 24], _, _, Tryd.func99, rfl, rfl, by kernel_rfl, by kernel_rfl, by kernel_rfl⟩
/-- vouch/fact.pinned -/
def c111 : C := (.seq (.reg [⟨(some 1), (.box 26 (.tmp 0)), none⟩,
 ⟨(some 2), (.new 177 [.int .i64 (0), .int .i64 (0)]), none⟩])
 (.seq (.reg [⟨(some 3), (.fa 0 (.tmp 1)), none⟩,
 ⟨(some 4), (.ld none (.tmp 3)), none⟩,
 ⟨(some 5), (.fa 1 (.tmp 1)), none⟩,
 ⟨(some 6), (.ld none (.tmp 5)), none⟩,
 ⟨(some 7), (.call 98 [(.tmp 4), (.tmp 6)]), none⟩,
 ⟨none, (.st 2 (.tmp 2) (.tmp 7)), none⟩])
 .ret))
def r111 : List RV := [.agg 2 2]
theorem ok111 : FnOk Tryd.prog 111 8 c111 r111 := ⟨[25, 24], _, _, Tryd.func111, rfl, rfl, by kernel_rfl, by kernel_rfl, by kernel_rfl⟩
/-- (vouch/span.Span[int64]).Meet -/
def c112 : C := (.seq (.reg [⟨(some 2), (.box 177 (.tmp 0)), none⟩,
 ⟨(some 3), (.box 177 (.tmp 1)), none⟩,
 ⟨(some 4), (.new 177 [.int .i64 (0), .int .i64 (0)]), none⟩])
 (.seq (.reg [⟨(some 5), (.fa 0 (.tmp 2)), none⟩,
 ⟨(some 6), (.ld none (.tmp 5)), none⟩,
 ⟨(some 7), (.fa 0 (.tmp 3)), none⟩,
 ⟨(some 8), (.ld none (.tmp 7)), none⟩,
 ⟨(some 9), (.mx true (.tmp 6) (.tmp 8)), none⟩,
 ⟨(some 10), (.fa 1 (.tmp 2)), none⟩,
 ⟨(some 11), (.ld none (.tmp 10)), none⟩,
 ⟨(some 12), (.fa 1 (.tmp 3)), none⟩,
 ⟨(some 13), (.ld none (.tmp 12)), none⟩,
 ⟨(some 14), (.mx false (.tmp 11) (.tmp 13)), none⟩,
 ⟨(some 15), (.call 98 [(.tmp 9), (.tmp 14)]), none⟩,
 ⟨none, (.st 2 (.tmp 4) (.tmp 15)), none⟩])
 .ret))
def r112 : List RV := [.agg 4 2]
theorem ok112 : FnOk Tryd.prog 112 16 c112 r112 := ⟨[25, 24], _, _, Tryd.func112, rfl, rfl, by kernel_rfl, by kernel_rfl, by kernel_rfl⟩
/-- (vouch/span.Span[int64]).Empty -/
def c113 : C := (.seq (.reg [⟨(some 1), (.box 177 (.tmp 0)), none⟩,
 ⟨(some 2), (.mv (.const (.bool false))), none⟩])
 (.seq (.reg [⟨(some 3), (.fa 0 (.tmp 1)), none⟩,
 ⟨(some 4), (.ld none (.tmp 3)), none⟩,
 ⟨(some 5), (.fa 1 (.tmp 1)), none⟩,
 ⟨(some 6), (.ld none (.tmp 5)), none⟩,
 ⟨(some 7), (.bin .geq (.tmp 4) (.tmp 6)), none⟩,
 ⟨(some 2), (.mv (.tmp 7)), none⟩])
 .ret))
def r113 : List RV := [.tmp 2]
theorem ok113 : FnOk Tryd.prog 113 8 c113 r113 := ⟨[25, 24], _, _, Tryd.func113, rfl, rfl, by kernel_rfl, by kernel_rfl, by kernel_rfl⟩
/-- vouch/route.Hash -/
def c114 : C := (.seq (.reg [⟨(some 2), (.mv (.const (.int .u64 0))), none⟩])
 (.seq (.reg [⟨(some 3), (.mv (.const (.int .u64 14695981039346656037))), none⟩])
 (.seq (.seq (.reg [⟨(some 5), (.mv (.tmp 0)), none⟩,
 ⟨(some 6), (.len false (.tmp 5)), none⟩,
 ⟨(some 7), (.mv (.const (.int .i64 0))), none⟩])
 (.block 0 (.loop (.seq (.reg [⟨(some 8), (.bin .lss (.tmp 7) (.tmp 6)), none⟩])
 (.seq (.cond (.tmp 8) .skip
 (.exit 0))
 (.seq (.block 1 (.seq (.reg [⟨(some 9), (.mv (.tmp 7)), none⟩,
 ⟨(some 4), (.mv (.tmp 9)), none⟩])
 (.seq (.reg [⟨(some 10), (.mv (.tmp 3)), none⟩,
 ⟨(some 11), (.mv (.tmp 0)), none⟩,
 ⟨(some 12), (.mv (.tmp 4)), none⟩,
 ⟨(some 13), (.ixs (.tmp 11) (.tmp 12)), none⟩,
 ⟨(some 14), (.conv .u64 (.tmp 13)), none⟩,
 ⟨(some 15), (.bin .xor (.tmp 10) (.tmp 14)), none⟩,
 ⟨(some 3), (.mv (.tmp 15)), none⟩])
 (.reg [⟨(some 16), (.mv (.tmp 3)), none⟩,
 ⟨(some 17), (.bin .mul (.tmp 16) (.const (.int .u64 1099511628211))), none⟩,
 ⟨(some 3), (.mv (.tmp 17)), none⟩]))))
 (.reg [⟨(some 18), (.bin .add (.tmp 7) (.const (.int .i64 1))), none⟩,
 ⟨(some 7), (.mv (.tmp 18)), none⟩])))))))
 (.seq (.reg [⟨(some 19), (.mv (.tmp 3)), none⟩,
 ⟨(some 2), (.mv (.tmp 19)), none⟩])
 .ret))))
def r114 : List RV := [.tmp 2]
theorem ok114 : FnOk Tryd.prog 114 20 c114 r114 := ⟨[25, 24], _, _, Tryd.func114, rfl, rfl, by kernel_rfl, by kernel_rfl, by kernel_rfl⟩
end Go.Proofs.YtaoafjlocjjbbaaDoor

-- SpK
namespace Go.Sp
theorem RowsAt.subK {α : Type} {E sz : Nat} {f : α → List Value} {σ σ' : Hp} {v : Value} {l : List α} (h : RowsAt E sz f σ v l) (hs : Sub σ σ') : RowsAt E sz f σ' v l := by
  rcases h with h | ⟨b, c, rfl, hc, hb⟩
  · exact .inl h
  · refine .inr ⟨b, c, rfl, hc, ?_⟩
    rcases hs b with e | e
    · rw [hb] at e; cases e
    · rw [← e]; exact hb
theorem RowsAt.known {α : Type} {E sz : Nat} {f : α → List Value} {σ : Hp} {v : Value} {l : List α} (h : RowsAt E sz f σ v l) {k : Nat} (hk : blk v = some k) : σ k ≠ none := by
  rcases h with ⟨rfl, _⟩ | ⟨b, c, rfl, _, hb⟩
  · cases hk
  · cases hk; rw [hb]; simp
theorem splice_nil (cs : List Value) (o : Nat) : splice cs o [] = cs := by simp [splice]
theorem splice_zero (c v : Value) (cs vs : List Value) : splice (c :: cs) 0 (v :: vs) = v :: splice cs 0 vs := by simp [splice, Nat.add_comm]
theorem splice_skip (c : Value) (cs vs : List Value) (o : Nat) : splice (c :: cs) (o + 1) vs = c :: splice cs o vs := by
  simp only [splice, List.take_succ_cons, List.cons_append]
  rw [show o + 1 + vs.length = (o + vs.length) + 1 by omega, List.drop_succ_cons]
theorem splice_flat {α : Type} {f : α → List Value} {sz : Nat} (hf : ∀ x, (f x).length = sz) {l : List α} {i : Nat} (hi : i < l.length) (y : α) : splice (l.flatMap f) (i * sz) (f y) = (l.set i y).flatMap f := by
  have e : l = l.take i ++ l[i] :: l.drop (i + 1) := by rw [← List.drop_eq_getElem_cons hi, List.take_append_drop]
  have hl : ((l.take i).flatMap f).length = i * sz := by rw [flat_len hf, List.length_take, Nat.min_eq_left (by omega)]
  have e2 : l.set i y = l.take i ++ y :: l.drop (i + 1) := by rw [List.set_eq_take_append_cons_drop, if_pos hi]
  rw [e2]
  conv => lhs; rw [e]
  rw [List.flatMap_append, List.flatMap_cons, List.flatMap_append, List.flatMap_cons]
  unfold splice
  rw [← hl, List.take_left, List.append_assoc, List.drop_append, List.drop_of_length_le (by omega), List.nil_append, Nat.add_sub_cancel_left, hf, ← hf l[i], List.drop_left]
theorem Sub.swap {σ τ : Hp} {b : Nat} {o : Blk} (h : Sub σ (upd τ b o)) (hb : σ b = none) (o' : Blk) : Sub σ (upd τ b o') := fun k => by
  by_cases e : k = b
  · subst e; exact .inl hb
  · have := h k
    rw [upd_ne _ _ e] at this ⊢
    exact this
end Go.Sp

-- SpL
namespace Go.Sp
open Go.RowKit (Below)
/-- The block of v is not known to σ. -/
def New (σ : Hp) (v : Value) : Prop := ∀ k, blk v = some k → σ k = none
theorem RowsAt.blk_some {α : Type} {E sz : Nat} {f : α → List Value} {σ : Hp} {v : Value} {l : List α} (h : RowsAt E sz f σ v l) (hl : l ≠ []) : ∃ k, blk v = some k := by
  rcases h with ⟨rfl, rfl⟩ | ⟨b, c, rfl, _, _⟩
  · exact absurd rfl hl
  · exact ⟨b, rfl⟩
theorem Same.at {F : Nat → Prop} {σ σ' : Hp} {g : Nat} {o : Blk} (h : Same F σ σ') (hg : σ g = some o) (hf : ¬ F g) : σ' g = some o := (h g (by rw [hg]; simp) hf).trans hg
def off (σ : Hp) (g : Nat) : Hp := fun k => if k = g then none else σ k
theorem off_none (σ : Hp) (g : Nat) : off σ g g = none := by simp [off]
theorem off_upd {σ : Hp} {g : Nat} {o : Blk} (h : σ g = some o) : σ = upd (off σ g) g o := by
  funext k; by_cases e : k = g
  · subst e; simp [upd, h]
  · simp [upd, off, e]
/-- A contract that leaves all that was there as it was. -/
theorem acalls_below {P : Program} {f : FuncId} {args : Array Value} {σ : Hp} {R : Value → Prop} (h : ∀ w, Sat σ w → Calls P f args w fun e w' => ∃ v, e = .returned v ∧ R v ∧ Below w.heap.size w w') :
    ACalls P f args σ fun v σ' => R v ∧ σ' = σ := fun w hs => (h w hs).mono fun e w' ⟨v, he, hr, hb⟩ =>
  ⟨v, σ, he, fun b o hbo => by rw [hb.block b (hs.lt (by rw [hbo]; simp))]; exact hs b o hbo, ⟨hb.os, hb.tape, hb.output, hb.size, fun k hk _ => hb.block k hk, fun _ _ hn => hn⟩, hr, rfl⟩
theorem Sub.noneAt {τ σ : Hp} {b : Nat} (h : Sub τ σ) (hb : σ b = none) : τ b = none := (h b).elim id fun e => e.trans hb
theorem Sub.same {τ σ σ' : Hp} {F : Nat → Prop} (h : Sub τ σ) (s : Same F σ σ') (hF : ∀ k, F k → τ k = none) : Sub τ σ' := fun k => by
  rcases h k with e | e
  · exact .inl e
  · by_cases hf : F k
    · exact .inl (hF k hf)
    · by_cases hs : σ k = none
      · exact .inl (e.trans hs)
      · exact .inr (e.trans (s k hs hf).symm)
theorem RowsAt.ro {α : Type} {E sz : Nat} {f : α → List Value} (hf : ∀ x, (f x).length = sz) {σ : Hp} {v : Value} {l : List α} (h : RowsAt E sz f σ v l) : RoRows sz f σ v l := by
  rcases h with ⟨rfl, rfl⟩ | ⟨b, c, rfl, _, hb⟩
  · exact ⟨none, 0, rfl, fun i x hx => by simp at hx⟩
  · refine ⟨some ⟨b, 0, none⟩, c, rfl, fun i x hx => ⟨b, 0, rfl, ?_⟩⟩
    unfold rdn
    rw [hb]
    show seg _ (0 + i * sz) sz = _
    have := seg_flat hf hx 0 sz (by omega)
    rw [Nat.add_zero] at this
    rw [Nat.zero_add, this]
    have e := seg_all (f x)
    rw [hf] at e
    exact e
theorem RowsAt.offs {α : Type} {E sz : Nat} {f : α → List Value} {σ : Hp} {v : Value} {l : List α} (h : RowsAt E sz f σ v l) {g : Nat} (hg : blk v ≠ some g) : RowsAt E sz f (off σ g) v l :=
  h.keep fun k hk => by unfold off; rw [if_neg (fun e => hg (by rw [hk, e]))]
theorem off_sub (σ : Hp) (g : Nat) : Sub (off σ g) σ := fun k => by
  unfold off; by_cases e : k = g
  · exact .inl (by simp [e])
  · exact .inr (by simp [e])
theorem Same.ofOff {σ σ' : Hp} {g : Nat} (h : Same (fun _ => False) (off σ g) σ') : Same (fun k => k = g) σ σ' := fun k hk hf => by
  have e : off σ g k = σ k := by unfold off; rw [if_neg hf]
  rw [h k (by rw [e]; exact hk) (fun x => x), e]
theorem New.ofOff {α : Type} {E sz : Nat} {f : α → List Value} {σ σ' : Hp} {g : Nat} {v : Value} {l : List α} {cs : List Value} {t : TypeId} (h : New (off σ g) v) (hr : RowsAt E sz f σ' v l) (hg : σ' g = some (.cells cs t)) : New σ v := fun k hk => by
  have := h k hk
  unfold off at this
  split at this
  · rename_i e; subst e; exact absurd hk (hr.notCells hg)
  · exact this
theorem off_same {τ σ : Hp} {g : Nat} (hg : τ g = none) (h : Same (fun _ => False) τ σ) : Same (fun _ => False) τ (off σ g) := fun k hk hf => by
  have e : k ≠ g := fun e => by subst e; exact hk hg
  unfold off; rw [if_neg e]; exact h k hk hf
theorem Same.unUpd {τ σ : Hp} {g : Nat} {X : Blk} (hg : τ g = none) (h : Same (fun _ => False) (upd τ g X) σ) : Same (fun _ => False) τ σ := fun k hk hf => by
  have e : k ≠ g := fun e => by subst e; exact hk hg
  have := h k (by rw [upd_ne _ _ e]; exact hk) hf
  rw [this, upd_ne _ _ e]
theorem New.unUpd {τ : Hp} {g : Nat} {X : Blk} {v : Value} (h : New (upd τ g X) v) : New τ v := fun k hk => ((none_upd _ _ _ _).1 (h k hk)).2
theorem New.ne {τ : Hp} {g : Nat} {X : Blk} {v : Value} (h : New (upd τ g X) v) : blk v ≠ some g := fun e => by
  have := h g e; rw [upd_same] at this; cases this
theorem Same.sub {τ σ : Hp} (h : Same (fun _ => False) τ σ) : Sub τ σ := fun k => by
  by_cases e : τ k = none
  · exact .inl e
  · exact .inr (h k e (fun x => x)).symm
theorem RowsAt.ne {α : Type} {E sz : Nat} {f : α → List Value} {σ : Hp} {v : Value} {l : List α} (h : RowsAt E sz f σ v l) {g : Nat} (hg : σ g = none) : blk v ≠ some g := fun e => h.known e hg
/-- Two known blocks, laid open. -/
theorem open_2 {σ : Hp} {g b : Nat} {A B : Blk} (hg : σ g = some A) (hb : σ b = some B) (_hne : g ≠ b) : ∃ τ, σ = upd (upd τ b B) g A := ⟨σ, by rw [upd_self hb, upd_self hg]⟩
theorem seg_part {cs vs : List Value} {o n : Nat} (h : seg cs o n = some vs) (i m : Nat) (hm : i + m ≤ n) : seg cs (o + i) m = some ((vs.drop i).take m) := by
  unfold seg at h ⊢
  split at h
  · cases h
    rw [if_pos (by omega), List.drop_take, List.take_take, List.drop_drop, Nat.min_eq_left (by omega)]
  · cases h
theorem rdn_part {σ : Hp} {b o n : Nat} {vs : List Value} (h : rdn σ b o n = some vs) (i m : Nat) (hm : i + m ≤ n) : rdn σ b (o + i) m = some ((vs.drop i).take m) := by
  unfold rdn at *
  generalize σ b = q at *
  split at h
  · exact seg_part h i m hm
  · exact seg_part h i m hm
  · exact seg_part h i m hm
  · cases h
theorem rd_of_rdn {σ : Hp} {b o : Nat} {v : Value} (h : rdn σ b o 1 = some [v]) : rd σ b o = some v := by
  have key : ∀ cs : List Value, seg cs o 1 = some [v] → cs[o]? = some v := fun cs h => by
    unfold seg at h
    split at h
    · rename_i hl
      have e : (cs.drop o).take 1 = [v] := Option.some.inj h
      have : ((cs.drop o).take 1)[0]? = some v := by rw [e]; rfl
      rw [List.getElem?_take_of_lt (by omega), List.getElem?_drop] at this
      simpa using this
    · cases h
  unfold rdn at h
  unfold rd
  generalize σ b = q at *
  cases q with
  | none => cases h
  | some x =>
    cases x with
    | cells cs t => exact key _ h
    | row cs r t => exact key _ h
    | dead => cases h
    | ro o =>
      cases o with
      | cells cs t fr =>
        have := key _ h
        simpa using this
      | _ => cases h
    | mp l => cases h
theorem rd_part {σ : Hp} {b o n : Nat} {vs : List Value} (h : rdn σ b o n = some vs) (i : Nat) {v : Value} (hv : vs[i]? = some v) : rd σ b (o + i) = some v := by
  have hl := rdn_len h
  have hi : i < vs.length := (List.getElem?_eq_some_iff.1 hv).1
  have := rdn_part h i 1 (by omega)
  refine rd_of_rdn (this.trans ?_)
  rw [List.drop_eq_getElem_cons hi]
  rw [List.getElem?_eq_getElem hi] at hv
  cases hv; rfl
/-- An element of rows that are only read. -/
theorem RoRows.get {α : Type} {sz : Nat} {f : α → List Value} {σ : Hp} {A : Option Addr} {n c : Nat} {l : List α} (h : RoRows sz f σ (.slice A n c) l) {i : Nat} (hi : i < l.length) : ∃ b o, A = some ⟨b, o, none⟩ ∧ rdn σ b (o + i * sz) sz = some (f l[i]) := by
  obtain ⟨A', c', e, h⟩ := h
  cases e
  exact h i _ (List.getElem?_eq_getElem hi)
theorem RoRows.len {α : Type} {sz : Nat} {f : α → List Value} {σ : Hp} {A : Option Addr} {n c : Nat} {l : List α} (h : RoRows sz f σ (.slice A n c) l) : n = l.length := by
  obtain ⟨A', c', e, _⟩ := h
  cases e; rfl
theorem off_upd_sub (τ : Hp) (m : Nat) (X Y : Blk) : Sub (off (upd τ m X) m) (upd τ m Y) := fun k => by
  by_cases e : k = m
  · exact .inl (by simp [off, e])
  · exact .inr (by simp [off, upd, e])
theorem off_ne (σ : Hp) {g k : Nat} (h : k ≠ g) : off σ g k = σ k := by simp [off, h]
theorem rdn_known {σ : Hp} {b o n : Nat} {vs : List Value} (h : rdn σ b o n = some vs) : σ b ≠ none := fun e => by unfold rdn at h; rw [e] at h; cases h
theorem rdn_apart {σ : Hp} {b o n k : Nat} {vs : List Value} (h : rdn σ b o n = some vs) (hk : σ k = none) : ¬ b = k := fun e => rdn_known h (by rw [e]; exact hk)
theorem open_3 {σ : Hp} {a b c : Nat} {A B C : Blk} (ha : σ a = some A) (hb : σ b = some B) (hc : σ c = some C) : ∃ τ, σ = upd (upd (upd τ c C) b B) a A := ⟨σ, by rw [upd_self hc, upd_self hb, upd_self ha]⟩
end Go.Sp

-- T1
namespace Go.Proofs.YtaoafjlocjjbbaaDoor
open Go.Sp
set_option maxRecDepth 100000
/-- vouch/vouchlaw16.SessionTries -/
def c3 : C := (.seq (.reg [⟨(some 4), (.mv (.const (.bool false))), none⟩])
 (.seq (.seq (.reg [⟨(some 16), (.call 13 []), none⟩,
 ⟨(some 17), (.nt (.tmp 16)), none⟩])
 (.cond (.tmp 17) (.seq (.reg [⟨(some 4), (.mv (.const (.bool false))), none⟩])
 .ret)
 .skip))
 (.seq (.reg [⟨(some 18), (.call 14 [(.const (.int .i64 3))]), none⟩,
 ⟨(some 5), (.mv (.tmp 18)), none⟩])
 (.seq (.reg [⟨(some 20), (.mv (.tmp 5)), none⟩,
 ⟨(some 21), (.call 16 [(.const (.string { data := #[107] })), (.const (.string { data := #[118] }))]), none⟩,
 ⟨(some 22), (.lit 37 1 3 [.string ⟨#[]⟩, .bool false, .string ⟨#[]⟩] [(0, 3, (.tmp 21))]), none⟩,
 ⟨(some 23), (.call 15 [(.tmp 20), (.tmp 22)]), none⟩,
 ⟨(some 19), (.mv (.tmp 23)), none⟩,
 ⟨(some 24), (.ext 0 (.tmp 19)), none⟩,
 ⟨(some 25), (.ext 1 (.tmp 19)), none⟩,
 ⟨(some 6), (.new 33 [.int .i64 (0), .int .i64 (0), .int .i64 (0), .int .i64 (0), .int .i64 (0), .int .i64 (0), .string ⟨#[]⟩, .int .i64 (0), .int .i64 (0), .bool false, .string ⟨#[]⟩, .bool false, .int .i64 (0), .int .i64 (0), .slice none 0 0, .slice none 0 0]), none⟩,
 ⟨none, (.st 16 (.tmp 6) (.tmp 24)), none⟩,
 ⟨(some 7), (.mv (.tmp 25)), none⟩])
 (.seq (.seq (.reg [⟨(some 26), (.mv (.tmp 7)), none⟩,
 ⟨(some 27), (.bin .neq (.tmp 26) (.const (.int .i64 0))), none⟩])
 (.cond (.tmp 27) (.seq (.reg [⟨(some 4), (.mv (.const (.bool false))), none⟩])
 .ret)
 .skip))
 (.seq (.seq (.reg [⟨(some 8), (.mv (.const (.int .i64 0))), none⟩])
 (.block 0 (.loop (.seq (.seq (.reg [⟨(some 28), (.mv (.tmp 8)), none⟩,
 ⟨(some 29), (.mv (.tmp 0)), none⟩,
 ⟨(some 30), (.conv .i64 (.tmp 29)), none⟩,
 ⟨(some 31), (.bin .lss (.tmp 28) (.tmp 30)), none⟩])
 (.cond (.tmp 31) .skip
 (.exit 0)))
 (.seq (.block 1 (.seq (.reg [⟨(some 35), (.mv (.tmp 5)), none⟩,
 ⟨(some 36), (.mv (.tmp 0)), none⟩,
 ⟨(some 37), (.conv .i64 (.tmp 36)), none⟩,
 ⟨(some 38), (.call 17 [(.tmp 35), (.tmp 37)]), none⟩,
 ⟨(some 34), (.mv (.tmp 38)), none⟩,
 ⟨(some 39), (.ext 0 (.tmp 34)), none⟩,
 ⟨(some 40), (.ext 1 (.tmp 34)), none⟩,
 ⟨(some 9), (.new 33 [.int .i64 (0), .int .i64 (0), .int .i64 (0), .int .i64 (0), .int .i64 (0), .int .i64 (0), .string ⟨#[]⟩, .int .i64 (0), .int .i64 (0), .bool false, .string ⟨#[]⟩, .bool false, .int .i64 (0), .int .i64 (0), .slice none 0 0, .slice none 0 0]), none⟩,
 ⟨none, (.st 16 (.tmp 9) (.tmp 39)), none⟩,
 ⟨(some 10), (.mv (.tmp 40)), none⟩])
 (.seq (.draw [⟨⟨(some 41), (.mv (.tmp 10)), none⟩, .p⟩,
 ⟨⟨(some 42), (.bin .neq (.tmp 41) (.const (.int .i64 0))), none⟩, .p⟩,
 ⟨⟨(some 43), (.mv (.tmp 42)), none⟩, .p⟩,
 ⟨⟨(some 44), (.fa 5 (.tmp 9)), (some (43, false))⟩, .p⟩,
 ⟨⟨(some 45), (.ld none (.tmp 44)), (some (43, false))⟩, .l⟩,
 ⟨⟨(some 46), (.fa 5 (.tmp 6)), (some (43, false))⟩, .p⟩,
 ⟨⟨(some 47), (.ld none (.tmp 46)), (some (43, false))⟩, .l⟩,
 ⟨⟨(some 48), (.bin .neq (.tmp 45) (.tmp 47)), (some (43, false))⟩, .p⟩,
 ⟨⟨(some 49), (.pick (.tmp 43) (.const (.bool true)) (.tmp 48)), none⟩, .p⟩,
 ⟨⟨(some 50), (.mv (.tmp 49)), none⟩, .p⟩,
 ⟨⟨(some 51), (.fa 3 (.tmp 9)), (some (50, false))⟩, .p⟩,
 ⟨⟨(some 52), (.ld none (.tmp 51)), (some (50, false))⟩, .l⟩,
 ⟨⟨(some 53), (.bin .neq (.tmp 52) (.const (.int .i64 3))), (some (50, false))⟩, .p⟩,
 ⟨⟨(some 54), (.pick (.tmp 50) (.const (.bool true)) (.tmp 53)), none⟩, .p⟩,
 ⟨⟨(some 55), (.mv (.tmp 54)), none⟩, .p⟩,
 ⟨⟨(some 56), (.fa 14 (.tmp 9)), (some (55, false))⟩, .p⟩,
 ⟨⟨(some 57), (.ld none (.tmp 56)), (some (55, false))⟩, .l⟩,
 ⟨⟨(some 58), (.len true (.tmp 57)), (some (55, false))⟩, .p⟩,
 ⟨⟨(some 59), (.bin .neq (.tmp 58) (.const (.int .i64 1))), (some (55, false))⟩, .p⟩,
 ⟨⟨(some 60), (.pick (.tmp 55) (.const (.bool true)) (.tmp 59)), none⟩, .p⟩,
 ⟨⟨(some 61), (.mv (.tmp 60)), none⟩, .p⟩,
 ⟨⟨(some 62), (.fa 14 (.tmp 9)), (some (61, false))⟩, .p⟩,
 ⟨⟨(some 63), (.ld none (.tmp 62)), (some (61, false))⟩, .l⟩,
 ⟨⟨(some 64), (.ia 3 (.tmp 63) (.const (.int .i64 0))), (some (61, false))⟩, .p⟩,
 ⟨⟨(some 65), (.ld (some 3) (.tmp 64)), (some (61, false))⟩, .l⟩,
 ⟨⟨(some 66), (.fa 14 (.tmp 6)), (some (61, false))⟩, .p⟩,
 ⟨⟨(some 67), (.ld none (.tmp 66)), (some (61, false))⟩, .l⟩,
 ⟨⟨(some 68), (.ia 3 (.tmp 67) (.const (.int .i64 0))), (some (61, false))⟩, .p⟩,
 ⟨⟨(some 69), (.ld (some 3) (.tmp 68)), (some (61, false))⟩, .l⟩,
 ⟨⟨(some 70), (.eqa true [.text, .truth, .text] (.tmp 65) (.tmp 69)), (some (61, false))⟩, .p⟩,
 ⟨⟨(some 71), (.pick (.tmp 61) (.const (.bool true)) (.tmp 70)), none⟩, .p⟩])
 (.cond (.tmp 71) (.seq (.reg [⟨(some 4), (.mv (.const (.bool false))), none⟩])
 .ret)
 .skip))))
 (.reg [⟨(some 32), (.mv (.tmp 8)), none⟩,
 ⟨(some 33), (.bin .add (.tmp 32) (.const (.int .i64 1))), none⟩,
 ⟨(some 8), (.mv (.tmp 33)), none⟩]))))))
 (.seq (.reg [⟨(some 73), (.mv (.tmp 5)), none⟩,
 ⟨(some 74), (.mv (.tmp 0)), none⟩,
 ⟨(some 75), (.conv .i64 (.tmp 74)), none⟩,
 ⟨(some 76), (.mv (.tmp 1)), none⟩,
 ⟨(some 77), (.conv .i64 (.tmp 76)), none⟩,
 ⟨(some 78), (.bin .sub (.tmp 75) (.tmp 77)), none⟩,
 ⟨(some 79), (.call 17 [(.tmp 73), (.tmp 78)]), none⟩,
 ⟨(some 72), (.mv (.tmp 79)), none⟩,
 ⟨(some 80), (.ext 0 (.tmp 72)), none⟩,
 ⟨(some 81), (.ext 1 (.tmp 72)), none⟩,
 ⟨(some 7), (.mv (.tmp 81)), none⟩])
 (.seq (.reg [⟨(some 82), (.mv (.tmp 5)), none⟩,
 ⟨(some 83), (.call 18 [(.tmp 82)]), none⟩,
 ⟨(some 11), (.new 41 [.int .i64 (0), .bool false, .int .i64 (0), .int .i64 (0), .int .i64 (0), .int .i64 (0)]), none⟩,
 ⟨none, (.st 6 (.tmp 11) (.tmp 83)), none⟩])
 (.seq (.reg [⟨(some 85), (.mv (.tmp 5)), none⟩,
 ⟨(some 86), (.call 17 [(.tmp 85), (.const (.int .i64 9))]), none⟩,
 ⟨(some 84), (.mv (.tmp 86)), none⟩,
 ⟨(some 87), (.ext 0 (.tmp 84)), none⟩,
 ⟨(some 88), (.ext 1 (.tmp 84)), none⟩,
 ⟨(some 12), (.new 33 [.int .i64 (0), .int .i64 (0), .int .i64 (0), .int .i64 (0), .int .i64 (0), .int .i64 (0), .string ⟨#[]⟩, .int .i64 (0), .int .i64 (0), .bool false, .string ⟨#[]⟩, .bool false, .int .i64 (0), .int .i64 (0), .slice none 0 0, .slice none 0 0]), none⟩,
 ⟨none, (.st 16 (.tmp 12) (.tmp 87)), none⟩,
 ⟨(some 13), (.mv (.tmp 88)), none⟩])
 (.seq (.reg [⟨(some 90), (.mv (.tmp 5)), none⟩,
 ⟨(some 91), (.call 16 [(.const (.string { data := #[107] })), (.const (.string { data := #[119] }))]), none⟩,
 ⟨(some 92), (.lit 37 1 3 [.string ⟨#[]⟩, .bool false, .string ⟨#[]⟩] [(0, 3, (.tmp 91))]), none⟩,
 ⟨(some 93), (.call 15 [(.tmp 90), (.tmp 92)]), none⟩,
 ⟨(some 89), (.mv (.tmp 93)), none⟩,
 ⟨(some 94), (.ext 0 (.tmp 89)), none⟩,
 ⟨(some 95), (.ext 1 (.tmp 89)), none⟩,
 ⟨(some 14), (.new 33 [.int .i64 (0), .int .i64 (0), .int .i64 (0), .int .i64 (0), .int .i64 (0), .int .i64 (0), .string ⟨#[]⟩, .int .i64 (0), .int .i64 (0), .bool false, .string ⟨#[]⟩, .bool false, .int .i64 (0), .int .i64 (0), .slice none 0 0, .slice none 0 0]), none⟩,
 ⟨none, (.st 16 (.tmp 14) (.tmp 94)), none⟩,
 ⟨(some 15), (.mv (.tmp 95)), none⟩])
 (.seq (.reg [⟨(some 96), (.mv (.tmp 7)), none⟩,
 ⟨(some 97), (.bin .eql (.tmp 96) (.const (.int .i64 41))), none⟩,
 ⟨(some 98), (.mv (.tmp 97)), none⟩,
 ⟨(some 99), (.fa 1 (.tmp 11)), (some (98, true))⟩,
 ⟨(some 100), (.ld none (.tmp 99)), (some (98, true))⟩,
 ⟨(some 101), (.nt (.tmp 100)), (some (98, true))⟩,
 ⟨(some 102), (.pick (.tmp 98) (.tmp 101) (.const (.bool false))), none⟩,
 ⟨(some 103), (.mv (.tmp 102)), none⟩,
 ⟨(some 104), (.fa 5 (.tmp 11)), (some (103, true))⟩,
 ⟨(some 105), (.ld none (.tmp 104)), (some (103, true))⟩,
 ⟨(some 106), (.bin .eql (.tmp 105) (.const (.int .i64 41))), (some (103, true))⟩,
 ⟨(some 107), (.pick (.tmp 103) (.tmp 106) (.const (.bool false))), none⟩,
 ⟨(some 108), (.mv (.tmp 107)), none⟩,
 ⟨(some 109), (.mv (.tmp 13)), (some (108, true))⟩,
 ⟨(some 110), (.bin .eql (.tmp 109) (.const (.int .i64 3))), (some (108, true))⟩,
 ⟨(some 111), (.pick (.tmp 108) (.tmp 110) (.const (.bool false))), none⟩,
 ⟨(some 112), (.mv (.tmp 111)), none⟩,
 ⟨(some 113), (.mv (.tmp 15)), (some (112, true))⟩,
 ⟨(some 114), (.bin .eql (.tmp 113) (.const (.int .i64 0))), (some (112, true))⟩,
 ⟨(some 115), (.pick (.tmp 112) (.tmp 114) (.const (.bool false))), none⟩,
 ⟨(some 116), (.mv (.tmp 115)), none⟩,
 ⟨(some 117), (.fa 5 (.tmp 14)), (some (116, true))⟩,
 ⟨(some 118), (.ld none (.tmp 117)), (some (116, true))⟩,
 ⟨(some 119), (.fa 5 (.tmp 6)), (some (116, true))⟩,
 ⟨(some 120), (.ld none (.tmp 119)), (some (116, true))⟩,
 ⟨(some 121), (.bin .add (.tmp 120) (.const (.int .i64 1))), (some (116, true))⟩,
 ⟨(some 122), (.bin .eql (.tmp 118) (.tmp 121)), (some (116, true))⟩,
 ⟨(some 123), (.pick (.tmp 116) (.tmp 122) (.const (.bool false))), none⟩,
 ⟨(some 4), (.mv (.tmp 123)), none⟩])
 .ret)))))))))))
def r3 : List RV := [.tmp 4]
theorem ok3 : FnOk Tryd.prog 3 124 c3 r3 := ⟨[25, 24], _, _, Tryd.func3, rfl, rfl, by kernel_rfl, by kernel_rfl, by kernel_rfl⟩
/-- vouch/vouchlaw16.SessionTokens -/
def c4 : C := (.seq (.reg [⟨(some 4), (.mv (.const (.bool false))), none⟩])
 (.seq (.seq (.reg [⟨(some 13), (.call 13 []), none⟩,
 ⟨(some 14), (.nt (.tmp 13)), none⟩])
 (.cond (.tmp 14) (.seq (.reg [⟨(some 4), (.mv (.const (.bool false))), none⟩])
 .ret)
 .skip))
 (.seq (.reg [⟨(some 16), (.mv (.tmp 0)), none⟩,
 ⟨(some 17), (.call 19 [(.tmp 16)]), none⟩,
 ⟨(some 15), (.mv (.tmp 17)), none⟩,
 ⟨(some 18), (.ext 0 (.tmp 15)), none⟩,
 ⟨(some 19), (.ext 1 (.tmp 15)), none⟩,
 ⟨(some 5), (.mv (.tmp 18)), none⟩,
 ⟨(some 6), (.mv (.tmp 19)), none⟩])
 (.seq (.reg [⟨(some 21), (.mv (.tmp 0)), none⟩,
 ⟨(some 22), (.call 20 [(.tmp 21)]), none⟩,
 ⟨(some 20), (.mv (.tmp 22)), none⟩,
 ⟨(some 23), (.ext 0 (.tmp 20)), none⟩,
 ⟨(some 24), (.ext 1 (.tmp 20)), none⟩,
 ⟨(some 7), (.mv (.tmp 23)), none⟩,
 ⟨(some 8), (.mv (.tmp 24)), none⟩])
 (.seq (.reg [⟨(some 26), (.mv (.tmp 1)), none⟩,
 ⟨(some 27), (.call 21 [(.tmp 26)]), none⟩,
 ⟨(some 25), (.mv (.tmp 27)), none⟩,
 ⟨(some 28), (.ext 0 (.tmp 25)), none⟩,
 ⟨(some 29), (.ext 1 (.tmp 25)), none⟩,
 ⟨(some 9), (.mv (.tmp 28)), none⟩,
 ⟨(some 10), (.mv (.tmp 29)), none⟩])
 (.seq (.reg [⟨(some 31), (.mv (.tmp 1)), none⟩,
 ⟨(some 32), (.call 22 [(.tmp 31)]), none⟩,
 ⟨(some 30), (.mv (.tmp 32)), none⟩,
 ⟨(some 33), (.ext 0 (.tmp 30)), none⟩,
 ⟨(some 34), (.ext 1 (.tmp 30)), none⟩,
 ⟨(some 11), (.mv (.tmp 33)), none⟩,
 ⟨(some 12), (.mv (.tmp 34)), none⟩])
 (.seq (.reg [⟨(some 35), (.mv (.tmp 5)), none⟩,
 ⟨(some 36), (.mv (.tmp 7)), none⟩,
 ⟨(some 37), (.bin .eql (.tmp 35) (.tmp 36)), none⟩,
 ⟨(some 38), (.mv (.tmp 37)), none⟩,
 ⟨(some 39), (.mv (.tmp 6)), (some (38, true))⟩,
 ⟨(some 40), (.mv (.tmp 8)), (some (38, true))⟩,
 ⟨(some 41), (.bin .eql (.tmp 39) (.tmp 40)), (some (38, true))⟩,
 ⟨(some 42), (.pick (.tmp 38) (.tmp 41) (.const (.bool false))), none⟩,
 ⟨(some 43), (.mv (.tmp 42)), none⟩,
 ⟨(some 44), (.mv (.tmp 9)), (some (43, true))⟩,
 ⟨(some 45), (.mv (.tmp 11)), (some (43, true))⟩,
 ⟨(some 46), (.bin .eql (.tmp 44) (.tmp 45)), (some (43, true))⟩,
 ⟨(some 47), (.pick (.tmp 43) (.tmp 46) (.const (.bool false))), none⟩,
 ⟨(some 48), (.mv (.tmp 47)), none⟩,
 ⟨(some 49), (.mv (.tmp 10)), (some (48, true))⟩,
 ⟨(some 50), (.mv (.tmp 12)), (some (48, true))⟩,
 ⟨(some 51), (.bin .eql (.tmp 49) (.tmp 50)), (some (48, true))⟩,
 ⟨(some 52), (.pick (.tmp 48) (.tmp 51) (.const (.bool false))), none⟩,
 ⟨(some 4), (.mv (.tmp 52)), none⟩])
 .ret)))))))
def r4 : List RV := [.tmp 4]
theorem ok4 : FnOk Tryd.prog 4 53 c4 r4 := ⟨[25, 24], _, _, Tryd.func4, rfl, rfl, by kernel_rfl, by kernel_rfl, by kernel_rfl⟩
/-- vouch/vouchlaw16.SessionBack -/
def c5 : C := (.seq (.reg [⟨(some 4), (.mv (.const (.bool false))), none⟩])
 (.seq (.seq (.reg [⟨(some 13), (.call 13 []), none⟩,
 ⟨(some 14), (.nt (.tmp 13)), none⟩])
 (.cond (.tmp 14) (.seq (.reg [⟨(some 4), (.mv (.const (.bool false))), none⟩])
 .ret)
 .skip))
 (.seq (.reg [⟨(some 16), (.mv (.tmp 0)), none⟩,
 ⟨(some 17), (.call 19 [(.tmp 16)]), none⟩,
 ⟨(some 15), (.mv (.tmp 17)), none⟩,
 ⟨(some 18), (.ext 0 (.tmp 15)), none⟩,
 ⟨(some 19), (.ext 1 (.tmp 15)), none⟩,
 ⟨(some 5), (.mv (.tmp 18)), none⟩,
 ⟨(some 6), (.mv (.tmp 19)), none⟩])
 (.seq (.reg [⟨(some 21), (.mv (.tmp 5)), none⟩,
 ⟨(some 22), (.call 21 [(.tmp 21)]), none⟩,
 ⟨(some 20), (.mv (.tmp 22)), none⟩,
 ⟨(some 23), (.ext 0 (.tmp 20)), none⟩,
 ⟨(some 24), (.ext 1 (.tmp 20)), none⟩,
 ⟨(some 7), (.mv (.tmp 23)), none⟩,
 ⟨(some 8), (.mv (.tmp 24)), none⟩])
 (.seq (.seq (.reg [⟨(some 25), (.mv (.tmp 0)), none⟩,
 ⟨(some 26), (.bin .lss (.tmp 25) (.const (.int .i64 0))), none⟩,
 ⟨(some 27), (.mv (.tmp 26)), none⟩,
 ⟨(some 28), (.mv (.tmp 0)), (some (27, false))⟩,
 ⟨(some 29), (.bin .gtr (.tmp 28) (.const (.int .i64 1099511627776))), (some (27, false))⟩,
 ⟨(some 30), (.pick (.tmp 27) (.const (.bool true)) (.tmp 29)), none⟩])
 (.cond (.tmp 30) (.seq (.reg [⟨(some 31), (.mv (.tmp 6)), none⟩,
 ⟨(some 32), (.bin .neq (.tmp 31) (.const (.int .i64 1))), none⟩,
 ⟨(some 33), (.mv (.tmp 32)), none⟩,
 ⟨(some 34), (.mv (.tmp 5)), (some (33, false))⟩,
 ⟨(some 35), (.bin .neq (.tmp 34) (.const (.string { data := #[] }))), (some (33, false))⟩,
 ⟨(some 36), (.pick (.tmp 33) (.const (.bool true)) (.tmp 35)), none⟩])
 (.cond (.tmp 36) (.seq (.reg [⟨(some 4), (.mv (.const (.bool false))), none⟩])
 .ret)
 .skip))
 (.seq (.reg [⟨(some 37), (.mv (.tmp 6)), none⟩,
 ⟨(some 38), (.bin .neq (.tmp 37) (.const (.int .i64 0))), none⟩,
 ⟨(some 39), (.mv (.tmp 38)), none⟩,
 ⟨(some 40), (.mv (.tmp 8)), (some (39, false))⟩,
 ⟨(some 41), (.bin .neq (.tmp 40) (.const (.int .i64 0))), (some (39, false))⟩,
 ⟨(some 42), (.pick (.tmp 39) (.const (.bool true)) (.tmp 41)), none⟩,
 ⟨(some 43), (.mv (.tmp 42)), none⟩,
 ⟨(some 44), (.mv (.tmp 7)), (some (43, false))⟩,
 ⟨(some 45), (.mv (.tmp 0)), (some (43, false))⟩,
 ⟨(some 46), (.bin .neq (.tmp 44) (.tmp 45)), (some (43, false))⟩,
 ⟨(some 47), (.pick (.tmp 43) (.const (.bool true)) (.tmp 46)), none⟩])
 (.cond (.tmp 47) (.seq (.reg [⟨(some 4), (.mv (.const (.bool false))), none⟩])
 .ret)
 .skip))))
 (.seq (.reg [⟨(some 49), (.mv (.tmp 1)), none⟩,
 ⟨(some 50), (.call 21 [(.tmp 49)]), none⟩,
 ⟨(some 48), (.mv (.tmp 50)), none⟩,
 ⟨(some 51), (.ext 0 (.tmp 48)), none⟩,
 ⟨(some 52), (.ext 1 (.tmp 48)), none⟩,
 ⟨(some 9), (.mv (.tmp 51)), none⟩,
 ⟨(some 10), (.mv (.tmp 52)), none⟩])
 (.seq (.seq (.reg [⟨(some 53), (.mv (.tmp 10)), none⟩,
 ⟨(some 54), (.bin .neq (.tmp 53) (.const (.int .i64 0))), none⟩])
 (.cond (.tmp 54) (.seq (.reg [⟨(some 55), (.mv (.tmp 9)), none⟩,
 ⟨(some 56), (.bin .eql (.tmp 55) (.const (.int .i64 0))), none⟩,
 ⟨(some 57), (.mv (.tmp 56)), none⟩,
 ⟨(some 58), (.mv (.tmp 10)), (some (57, true))⟩,
 ⟨(some 59), (.bin .eql (.tmp 58) (.const (.int .i64 30))), (some (57, true))⟩,
 ⟨(some 60), (.pick (.tmp 57) (.tmp 59) (.const (.bool false))), none⟩,
 ⟨(some 4), (.mv (.tmp 60)), none⟩])
 .ret)
 .skip))
 (.seq (.reg [⟨(some 62), (.mv (.tmp 9)), none⟩,
 ⟨(some 63), (.call 19 [(.tmp 62)]), none⟩,
 ⟨(some 61), (.mv (.tmp 63)), none⟩,
 ⟨(some 64), (.ext 0 (.tmp 61)), none⟩,
 ⟨(some 65), (.ext 1 (.tmp 61)), none⟩,
 ⟨(some 11), (.mv (.tmp 64)), none⟩,
 ⟨(some 12), (.mv (.tmp 65)), none⟩])
 (.seq (.reg [⟨(some 66), (.mv (.tmp 12)), none⟩,
 ⟨(some 67), (.bin .eql (.tmp 66) (.const (.int .i64 0))), none⟩,
 ⟨(some 68), (.mv (.tmp 67)), none⟩,
 ⟨(some 69), (.mv (.tmp 11)), (some (68, true))⟩,
 ⟨(some 70), (.mv (.tmp 1)), (some (68, true))⟩,
 ⟨(some 71), (.bin .eql (.tmp 69) (.tmp 70)), (some (68, true))⟩,
 ⟨(some 72), (.pick (.tmp 68) (.tmp 71) (.const (.bool false))), none⟩,
 ⟨(some 4), (.mv (.tmp 72)), none⟩])
 .ret)))))))))
def r5 : List RV := [.tmp 4]
theorem ok5 : FnOk Tryd.prog 5 73 c5 r5 := ⟨[25, 24], _, _, Tryd.func5, rfl, rfl, by kernel_rfl, by kernel_rfl, by kernel_rfl⟩
/-- vouch/vouchlaw16.SessionFloors -/
def c6 : C := (.seq (.reg [⟨(some 2), (.mv (.const (.bool false))), none⟩])
 (.seq (.seq (.reg [⟨(some 9), (.call 13 []), none⟩,
 ⟨(some 10), (.nt (.tmp 9)), none⟩])
 (.cond (.tmp 10) (.seq (.reg [⟨(some 2), (.mv (.const (.bool false))), none⟩])
 .ret)
 .skip))
 (.seq (.reg [⟨(some 11), (.call 14 [(.const (.int .i64 0))]), none⟩,
 ⟨(some 3), (.mv (.tmp 11)), none⟩])
 (.seq (.reg [⟨(some 4), (.mv (.const (.int .i64 0))), none⟩])
 (.seq (.seq (.reg [⟨(some 5), (.mv (.const (.int .i64 0))), none⟩])
 (.block 0 (.loop (.seq (.seq (.reg [⟨(some 12), (.mv (.tmp 5)), none⟩,
 ⟨(some 13), (.mv (.tmp 0)), none⟩,
 ⟨(some 14), (.len true (.tmp 13)), none⟩,
 ⟨(some 15), (.bin .lss (.tmp 12) (.tmp 14)), none⟩])
 (.cond (.tmp 15) .skip
 (.exit 0)))
 (.seq (.block 1 (.seq (.reg [⟨(some 18), (.mv (.tmp 0)), none⟩,
 ⟨(some 19), (.mv (.tmp 5)), none⟩,
 ⟨(some 20), (.ia 20 (.tmp 18) (.tmp 19)), none⟩,
 ⟨(some 21), (.ld (some 20) (.tmp 20)), none⟩,
 ⟨(some 6), (.new 55 [.int .u8 (0), .slice none 0 0, .int .i64 (0), .int .i64 (0), .int .i64 (0), .int .i64 (0), .int .i64 (0), .int .i64 (0), .int .i64 (0), .string ⟨#[]⟩, .int .i64 (0), .int .i64 (0), .bool false, .string ⟨#[]⟩, .bool false, .int .i64 (0), .int .i64 (0), .slice none 0 0, .slice none 0 0, .string ⟨#[]⟩]), none⟩,
 ⟨none, (.st 20 (.tmp 6) (.tmp 21)), none⟩])
 (.seq (.reg [⟨(some 7), (.mv (.const (.int .i64 (-1)))), none⟩])
 (.seq (.seq (.reg [⟨(some 22), (.fa 0 (.tmp 6)), none⟩,
 ⟨(some 23), (.ld none (.tmp 22)), none⟩,
 ⟨(some 24), (.bin .rem (.tmp 23) (.const (.int .u8 4))), none⟩])
 (.block 2 (.seq (.reg [⟨(some 26), (.bin .eql (.tmp 24) (.const (.int .u8 0))), none⟩,
 ⟨(some 25), (.mv (.tmp 26)), none⟩])
 (.cond (.tmp 25) (.seq (.reg [⟨(some 27), (.mv (.tmp 3)), none⟩,
 ⟨(some 28), (.fa 2 (.tmp 6)), none⟩,
 ⟨(some 29), (.ld none (.tmp 28)), none⟩,
 ⟨(some 30), (.call 23 [(.tmp 27), (.tmp 29)]), none⟩])
 (.reg [⟨(some 31), (.fa 2 (.tmp 6)), none⟩,
 ⟨(some 32), (.ld none (.tmp 31)), none⟩,
 ⟨(some 7), (.mv (.tmp 32)), none⟩]))
 (.seq (.reg [⟨(some 34), (.bin .eql (.tmp 24) (.const (.int .u8 1))), none⟩,
 ⟨(some 33), (.mv (.tmp 34)), none⟩])
 (.cond (.tmp 33) (.seq (.reg [⟨(some 35), (.mv (.tmp 3)), none⟩,
 ⟨(some 36), (.fa 19 (.tmp 6)), none⟩,
 ⟨(some 37), (.ld none (.tmp 36)), none⟩,
 ⟨(some 38), (.call 24 [(.tmp 35), (.tmp 37)]), none⟩,
 ⟨(some 39), (.bin .eql (.tmp 38) (.const (.int .i64 0))), none⟩])
 (.cond (.tmp 39) (.reg [⟨(some 41), (.fa 19 (.tmp 6)), none⟩,
 ⟨(some 42), (.ld none (.tmp 41)), none⟩,
 ⟨(some 43), (.call 21 [(.tmp 42)]), none⟩,
 ⟨(some 40), (.mv (.tmp 43)), none⟩,
 ⟨(some 44), (.ext 0 (.tmp 40)), none⟩,
 ⟨(some 45), (.ext 1 (.tmp 40)), none⟩,
 ⟨(some 7), (.mv (.tmp 44)), none⟩])
 .skip))
 (.seq (.reg [⟨(some 47), (.bin .eql (.tmp 24) (.const (.int .u8 2))), none⟩,
 ⟨(some 46), (.mv (.tmp 47)), none⟩])
 (.cond (.tmp 46) (.reg [⟨(some 48), (.mv (.tmp 3)), none⟩,
 ⟨(some 49), (.fa 1 (.tmp 6)), none⟩,
 ⟨(some 50), (.ld none (.tmp 49)), none⟩,
 ⟨(some 51), (.call 15 [(.tmp 48), (.tmp 50)]), none⟩])
 (.seq (.reg [⟨(some 53), (.bin .eql (.tmp 24) (.const (.int .u8 3))), none⟩,
 ⟨(some 52), (.mv (.tmp 53)), none⟩])
 (.cond (.tmp 52) (.seq (.draw [⟨⟨(some 54), (.mv (.tmp 3)), none⟩, .p⟩,
 ⟨⟨(some 55), (.call 18 [(.tmp 54)]), none⟩, .g⟩,
 ⟨⟨(some 56), (.fld none 2 (.tmp 55)), none⟩, .p⟩,
 ⟨⟨(some 57), (.fa 2 (.tmp 6)), none⟩, .p⟩,
 ⟨⟨(some 58), (.ld none (.tmp 57)), none⟩, .l⟩,
 ⟨⟨(some 59), (.fa 3 (.tmp 6)), none⟩, .p⟩,
 ⟨⟨(some 60), (.fa 12 (.tmp 59)), none⟩, .p⟩,
 ⟨⟨(some 61), (.ld none (.tmp 60)), none⟩, .l⟩,
 ⟨⟨(some 62), (.bld [.int .i64 (0), .int .i64 (0), .int .i64 (0), .int .i64 (0), .int .i64 (0), .int .i64 (0), .string ⟨#[]⟩, .int .i64 (0), .int .i64 (0), .bool false, .string ⟨#[]⟩, .bool false, .int .i64 (0), .int .i64 (0), .slice none 0 0, .slice none 0 0] [(0, 1, (.const (.int .i64 2))), (5, 1, (.tmp 56)), (13, 1, (.tmp 58)), (12, 1, (.tmp 61))]), none⟩, .p⟩,
 ⟨⟨(some 8), (.new 33 [.int .i64 (0), .int .i64 (0), .int .i64 (0), .int .i64 (0), .int .i64 (0), .int .i64 (0), .string ⟨#[]⟩, .int .i64 (0), .int .i64 (0), .bool false, .string ⟨#[]⟩, .bool false, .int .i64 (0), .int .i64 (0), .slice none 0 0, .slice none 0 0]), none⟩, .f⟩,
 ⟨⟨none, (.st 16 (.tmp 8) (.tmp 62)), none⟩, .m⟩])
 (.seq (.reg [⟨(some 63), (.mv (.tmp 3)), none⟩,
 ⟨(some 64), (.ld (some 16) (.tmp 8)), none⟩,
 ⟨(some 65), (.call 25 [(.tmp 63), (.tmp 64)]), none⟩,
 ⟨(some 66), (.mv (.tmp 65)), none⟩,
 ⟨(some 67), (.fa 12 (.tmp 8)), (some (66, true))⟩,
 ⟨(some 68), (.ld none (.tmp 67)), (some (66, true))⟩,
 ⟨(some 69), (.bin .eql (.tmp 68) (.const (.int .i64 0))), (some (66, true))⟩,
 ⟨(some 70), (.pick (.tmp 66) (.tmp 69) (.const (.bool false))), none⟩])
 (.cond (.tmp 70) (.reg [⟨(some 71), (.fa 2 (.tmp 6)), none⟩,
 ⟨(some 72), (.ld none (.tmp 71)), none⟩,
 ⟨(some 7), (.mv (.tmp 72)), none⟩])
 .skip)))
 .skip))))))))))
 (.seq (.seq (.reg [⟨(some 73), (.mv (.tmp 7)), none⟩,
 ⟨(some 74), (.mv (.tmp 4)), none⟩,
 ⟨(some 75), (.bin .gtr (.tmp 73) (.tmp 74)), none⟩,
 ⟨(some 76), (.mv (.tmp 75)), none⟩,
 ⟨(some 77), (.mv (.tmp 7)), (some (76, true))⟩,
 ⟨(some 78), (.bin .leq (.tmp 77) (.const (.int .i64 1099511627776))), (some (76, true))⟩,
 ⟨(some 79), (.pick (.tmp 76) (.tmp 78) (.const (.bool false))), none⟩])
 (.cond (.tmp 79) (.reg [⟨(some 80), (.mv (.tmp 7)), none⟩,
 ⟨(some 4), (.mv (.tmp 80)), none⟩])
 .skip))
 (.seq (.reg [⟨(some 81), (.mv (.tmp 3)), none⟩,
 ⟨(some 82), (.call 26 [(.tmp 81)]), none⟩,
 ⟨(some 83), (.mv (.tmp 4)), none⟩,
 ⟨(some 84), (.bin .neq (.tmp 82) (.tmp 83)), none⟩])
 (.cond (.tmp 84) (.seq (.reg [⟨(some 2), (.mv (.const (.bool false))), none⟩])
 .ret)
 .skip)))))))
 (.reg [⟨(some 16), (.mv (.tmp 5)), none⟩,
 ⟨(some 17), (.bin .add (.tmp 16) (.const (.int .i64 1))), none⟩,
 ⟨(some 5), (.mv (.tmp 17)), none⟩]))))))
 (.seq (.reg [⟨(some 2), (.mv (.const (.bool true))), none⟩])
 .ret))))))
def r6 : List RV := [.tmp 2]
theorem ok6 : FnOk Tryd.prog 6 85 c6 r6 := ⟨[25, 24], _, _, Tryd.func6, rfl, rfl, by kernel_rfl, by kernel_rfl, by kernel_rfl⟩
/-- vouch/vouchlaw16.SessionPlays -/
def c7 : C := (.seq (.reg [⟨(some 4), (.mv (.const (.bool false))), none⟩])
 (.seq (.seq (.reg [⟨(some 8), (.call 13 []), none⟩,
 ⟨(some 9), (.nt (.tmp 8)), none⟩])
 (.cond (.tmp 9) (.seq (.reg [⟨(some 4), (.mv (.const (.bool false))), none⟩])
 .ret)
 .skip))
 (.seq (.reg [⟨(some 10), (.mv (.tmp 0)), none⟩,
 ⟨(some 11), (.call 14 [(.tmp 10)]), none⟩,
 ⟨(some 12), (.mv (.tmp 0)), none⟩,
 ⟨(some 13), (.bld [.int .i64 (0), .int .i64 (0), .bool false, .int .i64 (0), .int .i64 (0), .int .i64 (0), .int .i64 (0), .slice none 0 0] [(0, 1, (.tmp 12))]), none⟩,
 ⟨(some 14), (.box 63 (.tmp 13)), none⟩,
 ⟨(some 5), (.mv (.tmp 11)), none⟩,
 ⟨(some 6), (.mv (.tmp 14)), none⟩])
 (.seq (.seq (.reg [⟨(some 15), (.mv (.tmp 5)), none⟩,
 ⟨(some 16), (.eqs false .ptr (.tmp 15) (.const (.pointer none))), none⟩])
 (.cond (.tmp 16) (.seq (.reg [⟨(some 4), (.mv (.const (.bool false))), none⟩])
 .ret)
 .skip))
 (.seq (.seq (.reg [⟨(some 7), (.mv (.const (.int .i64 0))), none⟩])
 (.block 0 (.loop (.seq (.seq (.reg [⟨(some 17), (.mv (.tmp 7)), none⟩,
 ⟨(some 18), (.mv (.tmp 1)), none⟩,
 ⟨(some 19), (.len true (.tmp 18)), none⟩,
 ⟨(some 20), (.bin .lss (.tmp 17) (.tmp 19)), none⟩])
 (.cond (.tmp 20) .skip
 (.exit 0)))
 (.seq (.block 1 (.seq (.reg [⟨(some 23), (.mv (.tmp 5)), none⟩,
 ⟨(some 24), (.mv (.tmp 6)), none⟩,
 ⟨(some 25), (.mv (.tmp 1)), none⟩,
 ⟨(some 26), (.mv (.tmp 7)), none⟩,
 ⟨(some 27), (.ia 20 (.tmp 25) (.tmp 26)), none⟩,
 ⟨(some 28), (.ld (some 20) (.tmp 27)), none⟩,
 ⟨(some 29), (.call 27 [(.tmp 23), (.tmp 24), (.tmp 28)]), none⟩,
 ⟨(some 30), (.nt (.tmp 29)), none⟩])
 (.cond (.tmp 30) (.seq (.reg [⟨(some 4), (.mv (.const (.bool false))), none⟩])
 .ret)
 .skip)))
 (.reg [⟨(some 21), (.mv (.tmp 7)), none⟩,
 ⟨(some 22), (.bin .add (.tmp 21) (.const (.int .i64 1))), none⟩,
 ⟨(some 7), (.mv (.tmp 22)), none⟩]))))))
 (.seq (.reg [⟨(some 4), (.mv (.const (.bool true))), none⟩])
 .ret))))))
def r7 : List RV := [.tmp 4]
theorem ok7 : FnOk Tryd.prog 7 31 c7 r7 := ⟨[25, 24], _, _, Tryd.func7, rfl, rfl, by kernel_rfl, by kernel_rfl, by kernel_rfl⟩
/-- vouch/vouchlaw16.SessionNone -/
def c9 : C := (.seq (.reg [⟨(some 1), (.box 55 (.tmp 0)), none⟩,
 ⟨(some 2), (.mv (.const (.bool false))), none⟩])
 (.seq (.seq (.reg [⟨(some 8), (.call 13 []), none⟩,
 ⟨(some 9), (.nt (.tmp 8)), none⟩])
 (.cond (.tmp 9) (.seq (.reg [⟨(some 2), (.mv (.const (.bool false))), none⟩])
 .ret)
 .skip))
 (.seq (.reg [⟨(some 3), (.mv (.const (.pointer none))), none⟩])
 (.seq (.reg [⟨(some 10), (.mv (.tmp 3)), none⟩,
 ⟨(some 11), (.fa 2 (.tmp 1)), none⟩,
 ⟨(some 12), (.ld none (.tmp 11)), none⟩,
 ⟨(some 13), (.call 23 [(.tmp 10), (.tmp 12)]), none⟩])
 (.seq (.reg [⟨(some 15), (.mv (.tmp 3)), none⟩,
 ⟨(some 16), (.fa 1 (.tmp 1)), none⟩,
 ⟨(some 17), (.ld none (.tmp 16)), none⟩,
 ⟨(some 18), (.call 15 [(.tmp 15), (.tmp 17)]), none⟩,
 ⟨(some 14), (.mv (.tmp 18)), none⟩,
 ⟨(some 19), (.ext 0 (.tmp 14)), none⟩,
 ⟨(some 20), (.ext 1 (.tmp 14)), none⟩,
 ⟨(some 4), (.new 33 [.int .i64 (0), .int .i64 (0), .int .i64 (0), .int .i64 (0), .int .i64 (0), .int .i64 (0), .string ⟨#[]⟩, .int .i64 (0), .int .i64 (0), .bool false, .string ⟨#[]⟩, .bool false, .int .i64 (0), .int .i64 (0), .slice none 0 0, .slice none 0 0]), none⟩,
 ⟨none, (.st 16 (.tmp 4) (.tmp 19)), none⟩,
 ⟨(some 5), (.mv (.tmp 20)), none⟩])
 (.seq (.reg [⟨(some 22), (.mv (.tmp 3)), none⟩,
 ⟨(some 23), (.fa 2 (.tmp 1)), none⟩,
 ⟨(some 24), (.ld none (.tmp 23)), none⟩,
 ⟨(some 25), (.call 17 [(.tmp 22), (.tmp 24)]), none⟩,
 ⟨(some 21), (.mv (.tmp 25)), none⟩,
 ⟨(some 26), (.ext 0 (.tmp 21)), none⟩,
 ⟨(some 27), (.ext 1 (.tmp 21)), none⟩,
 ⟨(some 6), (.new 33 [.int .i64 (0), .int .i64 (0), .int .i64 (0), .int .i64 (0), .int .i64 (0), .int .i64 (0), .string ⟨#[]⟩, .int .i64 (0), .int .i64 (0), .bool false, .string ⟨#[]⟩, .bool false, .int .i64 (0), .int .i64 (0), .slice none 0 0, .slice none 0 0]), none⟩,
 ⟨none, (.st 16 (.tmp 6) (.tmp 26)), none⟩,
 ⟨(some 7), (.mv (.tmp 27)), none⟩])
 (.seq (.reg [⟨(some 28), (.fa 0 (.tmp 4)), none⟩,
 ⟨(some 29), (.ld none (.tmp 28)), none⟩,
 ⟨(some 30), (.bin .eql (.tmp 29) (.const (.int .i64 0))), none⟩,
 ⟨(some 31), (.mv (.tmp 30)), none⟩,
 ⟨(some 32), (.mv (.tmp 5)), (some (31, true))⟩,
 ⟨(some 33), (.bin .eql (.tmp 32) (.const (.int .i64 3))), (some (31, true))⟩,
 ⟨(some 34), (.pick (.tmp 31) (.tmp 33) (.const (.bool false))), none⟩,
 ⟨(some 35), (.mv (.tmp 34)), none⟩,
 ⟨(some 36), (.fa 0 (.tmp 6)), (some (35, true))⟩,
 ⟨(some 37), (.ld none (.tmp 36)), (some (35, true))⟩,
 ⟨(some 38), (.bin .eql (.tmp 37) (.const (.int .i64 0))), (some (35, true))⟩,
 ⟨(some 39), (.pick (.tmp 35) (.tmp 38) (.const (.bool false))), none⟩,
 ⟨(some 40), (.mv (.tmp 39)), none⟩,
 ⟨(some 41), (.mv (.tmp 7)), (some (40, true))⟩,
 ⟨(some 42), (.bin .eql (.tmp 41) (.const (.int .i64 3))), (some (40, true))⟩,
 ⟨(some 43), (.pick (.tmp 40) (.tmp 42) (.const (.bool false))), none⟩,
 ⟨(some 44), (.mv (.tmp 43)), none⟩,
 ⟨(some 45), (.mv (.tmp 3)), (some (44, true))⟩,
 ⟨(some 46), (.call 26 [(.tmp 45)]), (some (44, true))⟩,
 ⟨(some 47), (.bin .eql (.tmp 46) (.const (.int .i64 0))), (some (44, true))⟩,
 ⟨(some 48), (.pick (.tmp 44) (.tmp 47) (.const (.bool false))), none⟩,
 ⟨(some 49), (.mv (.tmp 48)), none⟩,
 ⟨(some 50), (.mv (.tmp 3)), (some (49, true))⟩,
 ⟨(some 51), (.fa 19 (.tmp 1)), (some (49, true))⟩,
 ⟨(some 52), (.ld none (.tmp 51)), (some (49, true))⟩,
 ⟨(some 53), (.call 24 [(.tmp 50), (.tmp 52)]), (some (49, true))⟩,
 ⟨(some 54), (.bin .eql (.tmp 53) (.const (.int .i64 3))), (some (49, true))⟩,
 ⟨(some 55), (.pick (.tmp 49) (.tmp 54) (.const (.bool false))), none⟩,
 ⟨(some 56), (.mv (.tmp 55)), none⟩,
 ⟨(some 57), (.mv (.tmp 3)), (some (56, true))⟩,
 ⟨(some 58), (.fa 3 (.tmp 1)), (some (56, true))⟩,
 ⟨(some 59), (.ld (some 16) (.tmp 58)), (some (56, true))⟩,
 ⟨(some 60), (.call 25 [(.tmp 57), (.tmp 59)]), (some (56, true))⟩,
 ⟨(some 61), (.nt (.tmp 60)), (some (56, true))⟩,
 ⟨(some 62), (.pick (.tmp 56) (.tmp 61) (.const (.bool false))), none⟩,
 ⟨(some 63), (.mv (.tmp 62)), none⟩,
 ⟨(some 64), (.mv (.tmp 3)), (some (63, true))⟩,
 ⟨(some 65), (.call 18 [(.tmp 64)]), (some (63, true))⟩,
 ⟨(some 66), (.bld [.int .i64 (0), .bool false, .int .i64 (0), .int .i64 (0), .int .i64 (0), .int .i64 (0)] []), (some (63, true))⟩,
 ⟨(some 67), (.eqa false [.num, .truth, .num, .num, .num, .num] (.tmp 65) (.tmp 66)), (some (63, true))⟩,
 ⟨(some 68), (.pick (.tmp 63) (.tmp 67) (.const (.bool false))), none⟩,
 ⟨(some 69), (.mv (.tmp 68)), none⟩,
 ⟨(some 70), (.mv (.tmp 3)), (some (69, true))⟩,
 ⟨(some 71), (.call 28 [(.tmp 70)]), (some (69, true))⟩,
 ⟨(some 72), (.eqs false .ptr (.tmp 71) (.const (.pointer none))), (some (69, true))⟩,
 ⟨(some 73), (.pick (.tmp 69) (.tmp 72) (.const (.bool false))), none⟩,
 ⟨(some 2), (.mv (.tmp 73)), none⟩])
 .ret)))))))
def r9 : List RV := [.tmp 2]
theorem ok9 : FnOk Tryd.prog 9 74 c9 r9 := ⟨[25, 24], _, _, Tryd.func9, rfl, rfl, by kernel_rfl, by kernel_rfl, by kernel_rfl⟩
/-- vouch/vouchlaw16.fixed -/
def c13 : C := (.seq (.reg [⟨(some 0), (.mv (.const (.bool false))), none⟩])
 (.seq (.reg [⟨(some 8), (.call 14 [(.const (.int .i64 4))]), none⟩,
 ⟨(some 1), (.mv (.tmp 8)), none⟩])
 (.seq (.seq (.reg [⟨(some 9), (.mv (.tmp 1)), none⟩,
 ⟨(some 10), (.eqs false .ptr (.tmp 9) (.const (.pointer none))), none⟩])
 (.cond (.tmp 10) (.seq (.reg [⟨(some 0), (.mv (.const (.bool false))), none⟩])
 .ret)
 .skip))
 (.seq (.reg [⟨(some 12), (.mv (.tmp 1)), none⟩,
 ⟨(some 13), (.call 16 [(.const (.string { data := #[97] })), (.const (.string { data := #[120] }))]), none⟩,
 ⟨(some 14), (.lit 37 1 3 [.string ⟨#[]⟩, .bool false, .string ⟨#[]⟩] [(0, 3, (.tmp 13))]), none⟩,
 ⟨(some 15), (.call 15 [(.tmp 12), (.tmp 14)]), none⟩,
 ⟨(some 11), (.mv (.tmp 15)), none⟩,
 ⟨(some 16), (.ext 0 (.tmp 11)), none⟩,
 ⟨(some 17), (.ext 1 (.tmp 11)), none⟩,
 ⟨(some 2), (.new 33 [.int .i64 (0), .int .i64 (0), .int .i64 (0), .int .i64 (0), .int .i64 (0), .int .i64 (0), .string ⟨#[]⟩, .int .i64 (0), .int .i64 (0), .bool false, .string ⟨#[]⟩, .bool false, .int .i64 (0), .int .i64 (0), .slice none 0 0, .slice none 0 0]), none⟩,
 ⟨none, (.st 16 (.tmp 2) (.tmp 16)), none⟩,
 ⟨(some 3), (.mv (.tmp 17)), none⟩])
 (.seq (.reg [⟨(some 19), (.mv (.tmp 1)), none⟩,
 ⟨(some 20), (.call 16 [(.const (.string { data := #[98] })), (.const (.string { data := #[121] }))]), none⟩,
 ⟨(some 21), (.lit 37 1 3 [.string ⟨#[]⟩, .bool false, .string ⟨#[]⟩] [(0, 3, (.tmp 20))]), none⟩,
 ⟨(some 22), (.call 15 [(.tmp 19), (.tmp 21)]), none⟩,
 ⟨(some 18), (.mv (.tmp 22)), none⟩,
 ⟨(some 23), (.ext 0 (.tmp 18)), none⟩,
 ⟨(some 24), (.ext 1 (.tmp 18)), none⟩,
 ⟨(some 4), (.new 33 [.int .i64 (0), .int .i64 (0), .int .i64 (0), .int .i64 (0), .int .i64 (0), .int .i64 (0), .string ⟨#[]⟩, .int .i64 (0), .int .i64 (0), .bool false, .string ⟨#[]⟩, .bool false, .int .i64 (0), .int .i64 (0), .slice none 0 0, .slice none 0 0]), none⟩,
 ⟨none, (.st 16 (.tmp 4) (.tmp 23)), none⟩,
 ⟨(some 5), (.mv (.tmp 24)), none⟩])
 (.seq (.reg [⟨(some 26), (.call 19 [(.const (.int .i64 12))]), none⟩,
 ⟨(some 25), (.mv (.tmp 26)), none⟩,
 ⟨(some 27), (.ext 0 (.tmp 25)), none⟩,
 ⟨(some 28), (.ext 1 (.tmp 25)), none⟩,
 ⟨(some 6), (.mv (.tmp 27)), none⟩,
 ⟨(some 7), (.mv (.tmp 28)), none⟩])
 (.seq (.reg [⟨(some 29), (.fa 0 (.tmp 2)), none⟩,
 ⟨(some 30), (.ld none (.tmp 29)), none⟩,
 ⟨(some 31), (.bin .eql (.tmp 30) (.const (.int .i64 1))), none⟩,
 ⟨(some 32), (.mv (.tmp 31)), none⟩,
 ⟨(some 33), (.fa 3 (.tmp 2)), (some (32, true))⟩,
 ⟨(some 34), (.ld none (.tmp 33)), (some (32, true))⟩,
 ⟨(some 35), (.bin .eql (.tmp 34) (.const (.int .i64 4))), (some (32, true))⟩,
 ⟨(some 36), (.pick (.tmp 32) (.tmp 35) (.const (.bool false))), none⟩,
 ⟨(some 37), (.mv (.tmp 36)), none⟩,
 ⟨(some 38), (.fa 5 (.tmp 2)), (some (37, true))⟩,
 ⟨(some 39), (.ld none (.tmp 38)), (some (37, true))⟩,
 ⟨(some 40), (.bin .eql (.tmp 39) (.const (.int .i64 1))), (some (37, true))⟩,
 ⟨(some 41), (.pick (.tmp 37) (.tmp 40) (.const (.bool false))), none⟩,
 ⟨(some 42), (.mv (.tmp 41)), none⟩,
 ⟨(some 43), (.fa 14 (.tmp 2)), (some (42, true))⟩,
 ⟨(some 44), (.ld none (.tmp 43)), (some (42, true))⟩,
 ⟨(some 45), (.len true (.tmp 44)), (some (42, true))⟩,
 ⟨(some 46), (.bin .eql (.tmp 45) (.const (.int .i64 1))), (some (42, true))⟩,
 ⟨(some 47), (.pick (.tmp 42) (.tmp 46) (.const (.bool false))), none⟩,
 ⟨(some 48), (.mv (.tmp 47)), none⟩,
 ⟨(some 49), (.mv (.tmp 3)), (some (48, true))⟩,
 ⟨(some 50), (.bin .eql (.tmp 49) (.const (.int .i64 0))), (some (48, true))⟩,
 ⟨(some 51), (.pick (.tmp 48) (.tmp 50) (.const (.bool false))), none⟩,
 ⟨(some 52), (.mv (.tmp 51)), none⟩,
 ⟨(some 53), (.mv (.tmp 5)), (some (52, true))⟩,
 ⟨(some 54), (.bin .eql (.tmp 53) (.const (.int .i64 31))), (some (52, true))⟩,
 ⟨(some 55), (.pick (.tmp 52) (.tmp 54) (.const (.bool false))), none⟩,
 ⟨(some 56), (.mv (.tmp 55)), none⟩,
 ⟨(some 57), (.mv (.tmp 1)), (some (56, true))⟩,
 ⟨(some 58), (.bld [.int .i64 (0), .int .i64 (0), .int .i64 (0), .int .i64 (0), .int .i64 (0), .int .i64 (0), .string ⟨#[]⟩, .int .i64 (0), .int .i64 (0), .bool false, .string ⟨#[]⟩, .bool false, .int .i64 (0), .int .i64 (0), .slice none 0 0, .slice none 0 0] [(0, 1, (.const (.int .i64 2))), (3, 1, (.const (.int .i64 4))), (5, 1, (.const (.int .i64 1))), (13, 1, (.const (.int .i64 10)))]), (some (56, true))⟩,
 ⟨(some 59), (.call 25 [(.tmp 57), (.tmp 58)]), (some (56, true))⟩,
 ⟨(some 60), (.pick (.tmp 56) (.tmp 59) (.const (.bool false))), none⟩,
 ⟨(some 61), (.mv (.tmp 60)), none⟩,
 ⟨(some 62), (.mv (.tmp 1)), (some (61, true))⟩,
 ⟨(some 63), (.call 26 [(.tmp 62)]), (some (61, true))⟩,
 ⟨(some 64), (.bin .eql (.tmp 63) (.const (.int .i64 10))), (some (61, true))⟩,
 ⟨(some 65), (.pick (.tmp 61) (.tmp 64) (.const (.bool false))), none⟩,
 ⟨(some 66), (.mv (.tmp 65)), none⟩,
 ⟨(some 67), (.mv (.tmp 6)), (some (66, true))⟩,
 ⟨(some 68), (.bin .eql (.tmp 67) (.const (.string { data := #[116, 49, 50, 46, 106] }))), (some (66, true))⟩,
 ⟨(some 69), (.pick (.tmp 66) (.tmp 68) (.const (.bool false))), none⟩,
 ⟨(some 70), (.mv (.tmp 69)), none⟩,
 ⟨(some 71), (.mv (.tmp 7)), (some (70, true))⟩,
 ⟨(some 72), (.bin .eql (.tmp 71) (.const (.int .i64 0))), (some (70, true))⟩,
 ⟨(some 73), (.pick (.tmp 70) (.tmp 72) (.const (.bool false))), none⟩,
 ⟨(some 0), (.mv (.tmp 73)), none⟩])
 .ret)))))))
def r13 : List RV := [.tmp 0]
theorem ok13 : FnOk Tryd.prog 13 74 c13 r13 := ⟨[25, 24], _, _, Tryd.func13, rfl, rfl, by kernel_rfl, by kernel_rfl, by kernel_rfl⟩
/-- vouch/session.New -/
def c14 : C := (.seq (.reg [⟨(some 2), (.mv (.const (.pointer none))), none⟩])
 (.seq (.reg [⟨(some 3), (.mv (.tmp 0)), none⟩,
 ⟨(some 4), (.bld [.int .i64 (0), .int .i64 (0), .bool false, .int .i64 (0), .int .i64 (0), .int .i64 (0), .int .i64 (0), .slice none 0 0] [(0, 1, (.tmp 3))]), none⟩,
 ⟨(some 5), (.box 101 (.tmp 4)), none⟩,
 ⟨(some 2), (.mv (.tmp 5)), none⟩])
 .ret))
def r14 : List RV := [.tmp 2]
theorem ok14 : FnOk Tryd.prog 14 6 c14 r14 := ⟨[25, 24], _, _, Tryd.func14, rfl, rfl, by kernel_rfl, by kernel_rfl, by kernel_rfl⟩
/-- (*vouch/session.Session).Send -/
def c15 : C := (.seq (.reg [⟨(some 4), (.new 33 [.int .i64 (0), .int .i64 (0), .int .i64 (0), .int .i64 (0), .int .i64 (0), .int .i64 (0), .string ⟨#[]⟩, .int .i64 (0), .int .i64 (0), .bool false, .string ⟨#[]⟩, .bool false, .int .i64 (0), .int .i64 (0), .slice none 0 0, .slice none 0 0]), none⟩,
 ⟨(some 5), (.mv (.const (.int .i64 0))), none⟩])
 (.seq (.block 0 (.seq (.reg [⟨(some 9), (.mv (.tmp 0)), none⟩,
 ⟨(some 10), (.eqs false .ptr (.tmp 9) (.const (.pointer none))), none⟩,
 ⟨(some 8), (.mv (.tmp 10)), none⟩])
 (.cond (.tmp 8) (.seq (.reg [⟨(some 11), (.bld [.int .i64 (0), .int .i64 (0), .int .i64 (0), .int .i64 (0), .int .i64 (0), .int .i64 (0), .string ⟨#[]⟩, .int .i64 (0), .int .i64 (0), .bool false, .string ⟨#[]⟩, .bool false, .int .i64 (0), .int .i64 (0), .slice none 0 0, .slice none 0 0] []), none⟩,
 ⟨none, (.st 16 (.tmp 4) (.tmp 11)), none⟩,
 ⟨(some 5), (.mv (.const (.int .i64 3))), none⟩])
 .ret)
 (.seq (.reg [⟨(some 13), (.mv (.tmp 0)), none⟩,
 ⟨(some 14), (.nilc (.tmp 13)), none⟩,
 ⟨(some 15), (.fa 1 (.tmp 14)), none⟩,
 ⟨(some 16), (.fa 1 (.tmp 15)), none⟩,
 ⟨(some 17), (.ld none (.tmp 16)), none⟩,
 ⟨(some 12), (.mv (.tmp 17)), none⟩])
 (.cond (.tmp 12) (.seq (.reg [⟨(some 18), (.bld [.int .i64 (0), .int .i64 (0), .int .i64 (0), .int .i64 (0), .int .i64 (0), .int .i64 (0), .string ⟨#[]⟩, .int .i64 (0), .int .i64 (0), .bool false, .string ⟨#[]⟩, .bool false, .int .i64 (0), .int .i64 (0), .slice none 0 0, .slice none 0 0] []), none⟩,
 ⟨none, (.st 16 (.tmp 4) (.tmp 18)), none⟩,
 ⟨(some 5), (.mv (.const (.int .i64 31))), none⟩])
 .ret)
 .skip)))))
 (.seq (.seq (.reg [⟨(some 20), (.call 44 [(.const (.int .i64 1))]), none⟩,
 ⟨(some 21), (.mv (.tmp 1)), none⟩,
 ⟨(some 22), (.call 45 [(.tmp 20), (.tmp 21)]), none⟩,
 ⟨(some 19), (.mv (.tmp 22)), none⟩,
 ⟨(some 23), (.ext 0 (.tmp 19)), none⟩,
 ⟨(some 24), (.ext 1 (.tmp 19)), none⟩,
 ⟨(some 6), (.mv (.tmp 23)), none⟩,
 ⟨(some 7), (.mv (.tmp 24)), none⟩])
 (.seq (.reg [⟨(some 25), (.mv (.tmp 7)), none⟩,
 ⟨(some 26), (.bin .neq (.tmp 25) (.const (.int .i64 0))), none⟩])
 (.cond (.tmp 26) (.seq (.reg [⟨(some 27), (.bld [.int .i64 (0), .int .i64 (0), .int .i64 (0), .int .i64 (0), .int .i64 (0), .int .i64 (0), .string ⟨#[]⟩, .int .i64 (0), .int .i64 (0), .bool false, .string ⟨#[]⟩, .bool false, .int .i64 (0), .int .i64 (0), .slice none 0 0, .slice none 0 0] []), none⟩,
 ⟨(some 28), (.mv (.tmp 7)), none⟩,
 ⟨none, (.st 16 (.tmp 4) (.tmp 27)), none⟩,
 ⟨(some 5), (.mv (.tmp 28)), none⟩])
 .ret)
 .skip)))
 (.seq (.seq (.reg [⟨(some 29), (.mv (.tmp 0)), none⟩,
 ⟨(some 30), (.nilc (.tmp 29)), none⟩,
 ⟨(some 31), (.fa 1 (.tmp 30)), none⟩,
 ⟨(some 32), (.fa 2 (.tmp 31)), none⟩,
 ⟨(some 33), (.ld none (.tmp 32)), none⟩,
 ⟨(some 34), (.bin .geq (.tmp 33) (.const (.int .i64 2147483647))), none⟩])
 (.cond (.tmp 34) (.seq (.reg [⟨(some 35), (.bld [.int .i64 (0), .int .i64 (0), .int .i64 (0), .int .i64 (0), .int .i64 (0), .int .i64 (0), .string ⟨#[]⟩, .int .i64 (0), .int .i64 (0), .bool false, .string ⟨#[]⟩, .bool false, .int .i64 (0), .int .i64 (0), .slice none 0 0, .slice none 0 0] []), none⟩,
 ⟨none, (.st 16 (.tmp 4) (.tmp 35)), none⟩,
 ⟨(some 5), (.mv (.const (.int .i64 2))), none⟩])
 .ret)
 .skip))
 (.seq (.reg [⟨(some 36), (.mv (.tmp 0)), none⟩,
 ⟨(some 37), (.nilc (.tmp 36)), none⟩,
 ⟨(some 38), (.fa 1 (.tmp 37)), none⟩,
 ⟨(some 39), (.fa 2 (.tmp 38)), none⟩,
 ⟨(some 40), (.ld none (.tmp 39)), none⟩,
 ⟨(some 41), (.bin .add (.tmp 40) (.const (.int .i64 1))), none⟩,
 ⟨(some 42), (.nilc (.tmp 36)), none⟩,
 ⟨(some 43), (.fa 1 (.tmp 42)), none⟩,
 ⟨(some 44), (.fa 2 (.tmp 43)), none⟩,
 ⟨none, (.st 1 (.tmp 44) (.tmp 41)), none⟩])
 (.seq (.reg [⟨(some 45), (.mv (.tmp 0)), none⟩,
 ⟨(some 46), (.mv (.tmp 0)), none⟩,
 ⟨(some 47), (.nilc (.tmp 45)), none⟩,
 ⟨(some 48), (.fa 1 (.tmp 47)), none⟩,
 ⟨(some 49), (.fa 1 (.tmp 48)), none⟩,
 ⟨none, (.st 1 (.tmp 49) (.const (.bool true))), none⟩,
 ⟨(some 50), (.nilc (.tmp 46)), none⟩,
 ⟨(some 51), (.fa 1 (.tmp 50)), none⟩,
 ⟨(some 52), (.fa 3 (.tmp 51)), none⟩,
 ⟨none, (.st 1 (.tmp 52) (.const (.int .i64 0))), none⟩])
 (.seq (.reg [⟨(some 53), (.mv (.tmp 0)), none⟩,
 ⟨(some 54), (.mv (.tmp 1)), none⟩,
 ⟨(some 55), (.call 46 [(.tmp 54)]), none⟩,
 ⟨(some 56), (.nilc (.tmp 53)), none⟩,
 ⟨(some 57), (.fa 7 (.tmp 56)), none⟩,
 ⟨none, (.st 1 (.tmp 57) (.tmp 55)), none⟩])
 (.seq (.reg [⟨(some 58), (.mv (.tmp 0)), none⟩,
 ⟨(some 59), (.call 47 [(.tmp 58)]), none⟩,
 ⟨none, (.st 16 (.tmp 4) (.tmp 59)), none⟩,
 ⟨(some 5), (.mv (.const (.int .i64 0))), none⟩])
 .ret))))))))
def r15 : List RV := [.agg 4 16, .tmp 5]
theorem ok15 : FnOk Tryd.prog 15 60 c15 r15 := ⟨[25, 24], _, _, Tryd.func15, rfl, rfl, by kernel_rfl, by kernel_rfl, by kernel_rfl⟩
/-- vouch/vouchlaw16.put -/
def c16 : C := (.seq (.reg [⟨(some 4), (.new 37 [.string ⟨#[]⟩, .bool false, .string ⟨#[]⟩]), none⟩])
 (.seq (.reg [⟨(some 5), (.mv (.tmp 0)), none⟩,
 ⟨(some 6), (.mv (.tmp 1)), none⟩,
 ⟨(some 7), (.bld [.bool false, .string ⟨#[]⟩] [(0, 1, (.const (.bool true))), (1, 1, (.tmp 6))]), none⟩,
 ⟨(some 8), (.bld [.string ⟨#[]⟩, .bool false, .string ⟨#[]⟩] [(0, 1, (.tmp 5)), (1, 2, (.tmp 7))]), none⟩,
 ⟨none, (.st 3 (.tmp 4) (.tmp 8)), none⟩])
 .ret))
def r16 : List RV := [.agg 4 3]
theorem ok16 : FnOk Tryd.prog 16 9 c16 r16 := ⟨[25, 24], _, _, Tryd.func16, rfl, rfl, by kernel_rfl, by kernel_rfl, by kernel_rfl⟩
/-- (*vouch/session.Session).Again -/
def c17 : C := (.seq (.reg [⟨(some 4), (.new 33 [.int .i64 (0), .int .i64 (0), .int .i64 (0), .int .i64 (0), .int .i64 (0), .int .i64 (0), .string ⟨#[]⟩, .int .i64 (0), .int .i64 (0), .bool false, .string ⟨#[]⟩, .bool false, .int .i64 (0), .int .i64 (0), .slice none 0 0, .slice none 0 0]), none⟩,
 ⟨(some 5), (.mv (.const (.int .i64 0))), none⟩])
 (.seq (.block 0 (.seq (.reg [⟨(some 7), (.mv (.tmp 0)), none⟩,
 ⟨(some 8), (.eqs false .ptr (.tmp 7) (.const (.pointer none))), none⟩,
 ⟨(some 9), (.mv (.tmp 8)), none⟩,
 ⟨(some 10), (.mv (.tmp 0)), (some (9, false))⟩,
 ⟨(some 11), (.nilc (.tmp 10)), (some (9, false))⟩,
 ⟨(some 12), (.fa 1 (.tmp 11)), (some (9, false))⟩,
 ⟨(some 13), (.fa 1 (.tmp 12)), (some (9, false))⟩,
 ⟨(some 14), (.ld none (.tmp 13)), (some (9, false))⟩,
 ⟨(some 15), (.nt (.tmp 14)), (some (9, false))⟩,
 ⟨(some 16), (.pick (.tmp 9) (.const (.bool true)) (.tmp 15)), none⟩,
 ⟨(some 6), (.mv (.tmp 16)), none⟩])
 (.cond (.tmp 6) (.seq (.reg [⟨(some 17), (.bld [.int .i64 (0), .int .i64 (0), .int .i64 (0), .int .i64 (0), .int .i64 (0), .int .i64 (0), .string ⟨#[]⟩, .int .i64 (0), .int .i64 (0), .bool false, .string ⟨#[]⟩, .bool false, .int .i64 (0), .int .i64 (0), .slice none 0 0, .slice none 0 0] []), none⟩,
 ⟨none, (.st 16 (.tmp 4) (.tmp 17)), none⟩,
 ⟨(some 5), (.mv (.const (.int .i64 3))), none⟩])
 .ret)
 (.seq (.reg [⟨(some 19), (.mv (.tmp 0)), none⟩,
 ⟨(some 20), (.nilc (.tmp 19)), none⟩,
 ⟨(some 21), (.fa 1 (.tmp 20)), none⟩,
 ⟨(some 22), (.fa 3 (.tmp 21)), none⟩,
 ⟨(some 23), (.ld none (.tmp 22)), none⟩,
 ⟨(some 24), (.mv (.tmp 1)), none⟩,
 ⟨(some 25), (.bin .geq (.tmp 23) (.tmp 24)), none⟩,
 ⟨(some 18), (.mv (.tmp 25)), none⟩])
 (.cond (.tmp 18) (.seq (.reg [⟨(some 26), (.mv (.tmp 0)), none⟩,
 ⟨(some 27), (.call 48 [(.tmp 26), (.const (.int .i64 41))]), none⟩])
 (.seq (.reg [⟨(some 28), (.bld [.int .i64 (0), .int .i64 (0), .int .i64 (0), .int .i64 (0), .int .i64 (0), .int .i64 (0), .string ⟨#[]⟩, .int .i64 (0), .int .i64 (0), .bool false, .string ⟨#[]⟩, .bool false, .int .i64 (0), .int .i64 (0), .slice none 0 0, .slice none 0 0] []), none⟩,
 ⟨none, (.st 16 (.tmp 4) (.tmp 28)), none⟩,
 ⟨(some 5), (.mv (.const (.int .i64 41))), none⟩])
 .ret))
 .skip)))))
 (.seq (.reg [⟨(some 29), (.mv (.tmp 0)), none⟩,
 ⟨(some 30), (.nilc (.tmp 29)), none⟩,
 ⟨(some 31), (.fa 1 (.tmp 30)), none⟩,
 ⟨(some 32), (.fa 3 (.tmp 31)), none⟩,
 ⟨(some 33), (.ld none (.tmp 32)), none⟩,
 ⟨(some 34), (.bin .add (.tmp 33) (.const (.int .i64 1))), none⟩,
 ⟨(some 35), (.nilc (.tmp 29)), none⟩,
 ⟨(some 36), (.fa 1 (.tmp 35)), none⟩,
 ⟨(some 37), (.fa 3 (.tmp 36)), none⟩,
 ⟨none, (.st 1 (.tmp 37) (.tmp 34)), none⟩])
 (.seq (.reg [⟨(some 38), (.mv (.tmp 0)), none⟩,
 ⟨(some 39), (.call 47 [(.tmp 38)]), none⟩,
 ⟨none, (.st 16 (.tmp 4) (.tmp 39)), none⟩,
 ⟨(some 5), (.mv (.const (.int .i64 0))), none⟩])
 .ret))))
def r17 : List RV := [.agg 4 16, .tmp 5]
theorem ok17 : FnOk Tryd.prog 17 40 c17 r17 := ⟨[25, 24], _, _, Tryd.func17, rfl, rfl, by kernel_rfl, by kernel_rfl, by kernel_rfl⟩
/-- (*vouch/session.Session).View -/
def c18 : C := (.seq (.reg [⟨(some 2), (.new 41 [.int .i64 (0), .bool false, .int .i64 (0), .int .i64 (0), .int .i64 (0), .int .i64 (0)]), none⟩])
 (.seq (.seq (.reg [⟨(some 3), (.mv (.tmp 0)), none⟩,
 ⟨(some 4), (.eqs false .ptr (.tmp 3) (.const (.pointer none))), none⟩])
 (.cond (.tmp 4) (.seq (.reg [⟨(some 5), (.bld [.int .i64 (0), .bool false, .int .i64 (0), .int .i64 (0), .int .i64 (0), .int .i64 (0)] []), none⟩,
 ⟨none, (.st 6 (.tmp 2) (.tmp 5)), none⟩])
 .ret)
 .skip))
 (.seq (.reg [⟨(some 6), (.mv (.tmp 0)), none⟩,
 ⟨(some 7), (.nilc (.tmp 6)), none⟩,
 ⟨(some 8), (.fa 1 (.tmp 7)), none⟩,
 ⟨(some 9), (.ld (some 6) (.tmp 8)), none⟩,
 ⟨none, (.st 6 (.tmp 2) (.tmp 9)), none⟩])
 .ret)))
def r18 : List RV := [.agg 2 6]
theorem ok18 : FnOk Tryd.prog 18 10 c18 r18 := ⟨[25, 24], _, _, Tryd.func18, rfl, rfl, by kernel_rfl, by kernel_rfl, by kernel_rfl⟩
/-- vouch/session.Token -/
def c19 : C := (.seq (.reg [⟨(some 2), (.mv (.const (.string { data := #[] }))), none⟩,
 ⟨(some 3), (.mv (.const (.int .i64 0))), none⟩])
 (.seq (.seq (.reg [⟨(some 4), (.mv (.tmp 0)), none⟩,
 ⟨(some 5), (.bin .lss (.tmp 4) (.const (.int .i64 0))), none⟩,
 ⟨(some 6), (.mv (.tmp 5)), none⟩,
 ⟨(some 7), (.mv (.tmp 0)), (some (6, false))⟩,
 ⟨(some 8), (.bin .gtr (.tmp 7) (.const (.int .i64 1099511627776))), (some (6, false))⟩,
 ⟨(some 9), (.pick (.tmp 6) (.const (.bool true)) (.tmp 8)), none⟩])
 (.cond (.tmp 9) (.seq (.reg [⟨(some 2), (.mv (.const (.string { data := #[] }))), none⟩,
 ⟨(some 3), (.mv (.const (.int .i64 1))), none⟩])
 .ret)
 .skip))
 (.seq (.reg [⟨(some 10), (.mv (.tmp 0)), none⟩,
 ⟨(some 11), (.call 49 [(.tmp 10), (.const (.int .i64 10))]), none⟩,
 ⟨(some 12), (.bin .add (.const (.string { data := #[116] })) (.tmp 11)), none⟩,
 ⟨(some 13), (.bin .add (.tmp 12) (.const (.string { data := #[46] }))), none⟩,
 ⟨(some 14), (.mv (.tmp 0)), none⟩,
 ⟨(some 15), (.bin .mul (.tmp 14) (.const (.int .i64 7))), none⟩,
 ⟨(some 16), (.bin .add (.tmp 15) (.const (.int .i64 3))), none⟩,
 ⟨(some 17), (.bin .rem (.tmp 16) (.const (.int .i64 26))), none⟩,
 ⟨(some 18), (.bin .add (.const (.int .i64 97)) (.tmp 17)), none⟩,
 ⟨(some 19), (.conv .i32 (.tmp 18)), none⟩,
 ⟨(some 20), (.fnl .rune [(.tmp 19)]), none⟩,
 ⟨(some 21), (.bin .add (.tmp 13) (.tmp 20)), none⟩,
 ⟨(some 2), (.mv (.tmp 21)), none⟩,
 ⟨(some 3), (.mv (.const (.int .i64 0))), none⟩])
 .ret)))
def r19 : List RV := [.tmp 2, .tmp 3]
theorem ok19 : FnOk Tryd.prog 19 22 c19 r19 := ⟨[25, 24], _, _, Tryd.func19, rfl, rfl, by kernel_rfl, by kernel_rfl, by kernel_rfl⟩
/-- vouch/vouchref16.Token -/
def c20 : C := (.seq (.reg [⟨(some 2), (.mv (.const (.string { data := #[] }))), none⟩,
 ⟨(some 3), (.mv (.const (.int .i64 0))), none⟩])
 (.seq (.seq (.reg [⟨(some 4), (.mv (.tmp 0)), none⟩,
 ⟨(some 5), (.bin .lss (.tmp 4) (.const (.int .i64 0))), none⟩,
 ⟨(some 6), (.mv (.tmp 5)), none⟩,
 ⟨(some 7), (.mv (.tmp 0)), (some (6, false))⟩,
 ⟨(some 8), (.bin .gtr (.tmp 7) (.const (.int .i64 1099511627776))), (some (6, false))⟩,
 ⟨(some 9), (.pick (.tmp 6) (.const (.bool true)) (.tmp 8)), none⟩])
 (.cond (.tmp 9) (.seq (.reg [⟨(some 2), (.mv (.const (.string { data := #[] }))), none⟩,
 ⟨(some 3), (.mv (.const (.int .i64 1))), none⟩])
 .ret)
 .skip))
 (.seq (.draw [⟨⟨(some 10), (.mv (.tmp 0)), none⟩, .p⟩,
 ⟨⟨(some 11), (.call 50 [(.tmp 10)]), none⟩, .g⟩,
 ⟨⟨(some 12), (.bin .add (.const (.string { data := #[116] })) (.tmp 11)), none⟩, .p⟩,
 ⟨⟨(some 13), (.bin .add (.tmp 12) (.const (.string { data := #[46] }))), none⟩, .p⟩,
 ⟨⟨(some 14), (.mv (.tmp 0)), none⟩, .p⟩,
 ⟨⟨(some 15), (.bin .mul (.tmp 14) (.const (.int .i64 7))), none⟩, .p⟩,
 ⟨⟨(some 16), (.bin .add (.tmp 15) (.const (.int .i64 3))), none⟩, .p⟩,
 ⟨⟨(some 17), (.bin .rem (.tmp 16) (.const (.int .i64 26))), none⟩, .p⟩,
 ⟨⟨(some 18), (.bin .add (.const (.int .i64 97)) (.tmp 17)), none⟩, .p⟩,
 ⟨⟨(some 19), (.conv .u8 (.tmp 18)), none⟩, .p⟩,
 ⟨⟨(some 20), (.lit 5 1 1 [.int .u8 (0)] [(0, 1, (.tmp 19))]), none⟩, .f⟩,
 ⟨⟨(some 21), (.bys (.tmp 20)), none⟩, .r⟩,
 ⟨⟨(some 22), (.bin .add (.tmp 13) (.tmp 21)), none⟩, .p⟩,
 ⟨⟨(some 2), (.mv (.tmp 22)), none⟩, .p⟩,
 ⟨⟨(some 3), (.mv (.const (.int .i64 0))), none⟩, .p⟩])
 .ret)))
def r20 : List RV := [.tmp 2, .tmp 3]
theorem ok20 : FnOk Tryd.prog 20 23 c20 r20 := ⟨[25, 24], _, _, Tryd.func20, rfl, rfl, by kernel_rfl, by kernel_rfl, by kernel_rfl⟩
/-- vouch/session.Parse -/
def c21 : C := (.seq (.reg [⟨(some 2), (.mv (.const (.int .i64 0))), none⟩,
 ⟨(some 3), (.mv (.const (.int .i64 0))), none⟩])
 (.seq (.seq (.reg [⟨(some 8), (.mv (.tmp 0)), none⟩,
 ⟨(some 9), (.len false (.tmp 8)), none⟩,
 ⟨(some 10), (.bin .lss (.tmp 9) (.const (.int .i64 4))), none⟩])
 (.cond (.tmp 10) (.seq (.reg [⟨(some 2), (.mv (.const (.int .i64 0))), none⟩,
 ⟨(some 3), (.mv (.const (.int .i64 30))), none⟩])
 .ret)
 .skip))
 (.seq (.reg [⟨(some 12), (.mv (.tmp 0)), none⟩,
 ⟨(some 13), (.mv (.tmp 0)), none⟩,
 ⟨(some 14), (.len false (.tmp 13)), none⟩,
 ⟨(some 15), (.bin .sub (.tmp 14) (.const (.int .i64 2))), none⟩,
 ⟨(some 16), (.fnl .sls [(.tmp 12), (.const (.int .i64 1)), (.tmp 15)]), none⟩,
 ⟨(some 17), (.call 51 [(.tmp 16), (.const (.int .i64 10)), (.const (.int .i64 64))]), none⟩,
 ⟨(some 11), (.mv (.tmp 17)), none⟩,
 ⟨(some 18), (.ext 0 (.tmp 11)), none⟩,
 ⟨(some 19), (.ext 1 (.tmp 11)), none⟩,
 ⟨(some 4), (.mv (.tmp 18)), none⟩,
 ⟨(some 5), (.mv (.tmp 19)), none⟩])
 (.seq (.seq (.reg [⟨(some 21), (.mv (.tmp 4)), none⟩,
 ⟨(some 22), (.call 19 [(.tmp 21)]), none⟩,
 ⟨(some 20), (.mv (.tmp 22)), none⟩,
 ⟨(some 23), (.ext 0 (.tmp 20)), none⟩,
 ⟨(some 24), (.ext 1 (.tmp 20)), none⟩,
 ⟨(some 6), (.mv (.tmp 23)), none⟩,
 ⟨(some 7), (.mv (.tmp 24)), none⟩])
 (.seq (.reg [⟨(some 25), (.mv (.tmp 5)), none⟩,
 ⟨(some 26), (.fnl (.ifn true) [(.tmp 25)]), none⟩,
 ⟨(some 27), (.mv (.tmp 26)), none⟩,
 ⟨(some 28), (.mv (.tmp 7)), (some (27, false))⟩,
 ⟨(some 29), (.bin .neq (.tmp 28) (.const (.int .i64 0))), (some (27, false))⟩,
 ⟨(some 30), (.pick (.tmp 27) (.const (.bool true)) (.tmp 29)), none⟩,
 ⟨(some 31), (.mv (.tmp 30)), none⟩,
 ⟨(some 32), (.mv (.tmp 6)), (some (31, false))⟩,
 ⟨(some 33), (.mv (.tmp 0)), (some (31, false))⟩,
 ⟨(some 34), (.bin .neq (.tmp 32) (.tmp 33)), (some (31, false))⟩,
 ⟨(some 35), (.pick (.tmp 31) (.const (.bool true)) (.tmp 34)), none⟩])
 (.cond (.tmp 35) (.seq (.reg [⟨(some 2), (.mv (.const (.int .i64 0))), none⟩,
 ⟨(some 3), (.mv (.const (.int .i64 30))), none⟩])
 .ret)
 .skip)))
 (.seq (.reg [⟨(some 36), (.mv (.tmp 4)), none⟩,
 ⟨(some 2), (.mv (.tmp 36)), none⟩,
 ⟨(some 3), (.mv (.const (.int .i64 0))), none⟩])
 .ret)))))
def r21 : List RV := [.tmp 2, .tmp 3]
theorem ok21 : FnOk Tryd.prog 21 37 c21 r21 := ⟨[25, 24], _, _, Tryd.func21, rfl, rfl, by kernel_rfl, by kernel_rfl, by kernel_rfl⟩
/-- vouch/vouchref16.Parse -/
def c22 : C := (.seq (.reg [⟨(some 2), (.mv (.const (.int .i64 0))), none⟩,
 ⟨(some 3), (.mv (.const (.int .i64 0))), none⟩])
 (.seq (.reg [⟨(some 4), (.mv (.const (.int .i64 0))), none⟩])
 (.seq (.reg [⟨(some 5), (.mv (.const (.int .i64 1))), none⟩])
 (.seq (.block 0 (.loop (.seq (.seq (.reg [⟨(some 8), (.mv (.tmp 5)), none⟩,
 ⟨(some 9), (.mv (.tmp 0)), none⟩,
 ⟨(some 10), (.len false (.tmp 9)), none⟩,
 ⟨(some 11), (.bin .lss (.tmp 8) (.tmp 10)), none⟩,
 ⟨(some 12), (.mv (.tmp 11)), none⟩,
 ⟨(some 13), (.mv (.tmp 5)), (some (12, true))⟩,
 ⟨(some 14), (.bin .lss (.tmp 13) (.const (.int .i64 20))), (some (12, true))⟩,
 ⟨(some 15), (.pick (.tmp 12) (.tmp 14) (.const (.bool false))), none⟩,
 ⟨(some 16), (.mv (.tmp 15)), none⟩,
 ⟨(some 17), (.mv (.tmp 0)), (some (16, true))⟩,
 ⟨(some 18), (.mv (.tmp 5)), (some (16, true))⟩,
 ⟨(some 19), (.ixs (.tmp 17) (.tmp 18)), (some (16, true))⟩,
 ⟨(some 20), (.bin .geq (.tmp 19) (.const (.int .u8 48))), (some (16, true))⟩,
 ⟨(some 21), (.pick (.tmp 16) (.tmp 20) (.const (.bool false))), none⟩,
 ⟨(some 22), (.mv (.tmp 21)), none⟩,
 ⟨(some 23), (.mv (.tmp 0)), (some (22, true))⟩,
 ⟨(some 24), (.mv (.tmp 5)), (some (22, true))⟩,
 ⟨(some 25), (.ixs (.tmp 23) (.tmp 24)), (some (22, true))⟩,
 ⟨(some 26), (.bin .leq (.tmp 25) (.const (.int .u8 57))), (some (22, true))⟩,
 ⟨(some 27), (.pick (.tmp 22) (.tmp 26) (.const (.bool false))), none⟩,
 ⟨(some 28), (.mv (.tmp 27)), none⟩,
 ⟨(some 29), (.mv (.tmp 4)), (some (28, true))⟩,
 ⟨(some 30), (.bin .leq (.tmp 29) (.const (.int .i64 1099511627776))), (some (28, true))⟩,
 ⟨(some 31), (.pick (.tmp 28) (.tmp 30) (.const (.bool false))), none⟩])
 (.cond (.tmp 31) .skip
 (.exit 0)))
 (.block 1 (.seq (.reg [⟨(some 32), (.mv (.tmp 4)), none⟩,
 ⟨(some 33), (.bin .mul (.const (.int .i64 10)) (.tmp 32)), none⟩,
 ⟨(some 34), (.mv (.tmp 0)), none⟩,
 ⟨(some 35), (.mv (.tmp 5)), none⟩,
 ⟨(some 36), (.ixs (.tmp 34) (.tmp 35)), none⟩,
 ⟨(some 37), (.bin .sub (.tmp 36) (.const (.int .u8 48))), none⟩,
 ⟨(some 38), (.conv .i64 (.tmp 37)), none⟩,
 ⟨(some 39), (.bin .add (.tmp 33) (.tmp 38)), none⟩,
 ⟨(some 4), (.mv (.tmp 39)), none⟩])
 (.reg [⟨(some 40), (.mv (.tmp 5)), none⟩,
 ⟨(some 41), (.bin .add (.tmp 40) (.const (.int .i64 1))), none⟩,
 ⟨(some 5), (.mv (.tmp 41)), none⟩]))))))
 (.seq (.reg [⟨(some 43), (.mv (.tmp 4)), none⟩,
 ⟨(some 44), (.call 20 [(.tmp 43)]), none⟩,
 ⟨(some 42), (.mv (.tmp 44)), none⟩,
 ⟨(some 45), (.ext 0 (.tmp 42)), none⟩,
 ⟨(some 46), (.ext 1 (.tmp 42)), none⟩,
 ⟨(some 6), (.mv (.tmp 45)), none⟩,
 ⟨(some 7), (.mv (.tmp 46)), none⟩])
 (.seq (.seq (.reg [⟨(some 47), (.mv (.tmp 7)), none⟩,
 ⟨(some 48), (.bin .neq (.tmp 47) (.const (.int .i64 0))), none⟩,
 ⟨(some 49), (.mv (.tmp 48)), none⟩,
 ⟨(some 50), (.mv (.tmp 6)), (some (49, false))⟩,
 ⟨(some 51), (.mv (.tmp 0)), (some (49, false))⟩,
 ⟨(some 52), (.bin .neq (.tmp 50) (.tmp 51)), (some (49, false))⟩,
 ⟨(some 53), (.pick (.tmp 49) (.const (.bool true)) (.tmp 52)), none⟩])
 (.cond (.tmp 53) (.seq (.reg [⟨(some 2), (.mv (.const (.int .i64 0))), none⟩,
 ⟨(some 3), (.mv (.const (.int .i64 30))), none⟩])
 .ret)
 .skip))
 (.seq (.reg [⟨(some 54), (.mv (.tmp 4)), none⟩,
 ⟨(some 2), (.mv (.tmp 54)), none⟩,
 ⟨(some 3), (.mv (.const (.int .i64 0))), none⟩])
 .ret)))))))
def r22 : List RV := [.tmp 2, .tmp 3]
theorem ok22 : FnOk Tryd.prog 22 55 c22 r22 := ⟨[25, 24], _, _, Tryd.func22, rfl, rfl, by kernel_rfl, by kernel_rfl, by kernel_rfl⟩
/-- (*vouch/session.Session).Raise -/
def c23 : C := (.seq (.reg [⟨(some 4), (.mv (.tmp 0)), none⟩,
 ⟨(some 5), (.eqs true .ptr (.tmp 4) (.const (.pointer none))), none⟩,
 ⟨(some 6), (.mv (.tmp 5)), none⟩,
 ⟨(some 7), (.mv (.tmp 1)), (some (6, true))⟩,
 ⟨(some 8), (.bin .leq (.tmp 7) (.const (.int .i64 1099511627776))), (some (6, true))⟩,
 ⟨(some 9), (.pick (.tmp 6) (.tmp 8) (.const (.bool false))), none⟩])
 (.cond (.tmp 9) (.reg [⟨(some 10), (.mv (.tmp 0)), none⟩,
 ⟨(some 11), (.mv (.tmp 0)), none⟩,
 ⟨(some 12), (.nilc (.tmp 11)), none⟩,
 ⟨(some 13), (.fa 1 (.tmp 12)), none⟩,
 ⟨(some 14), (.fa 0 (.tmp 13)), none⟩,
 ⟨(some 15), (.ld none (.tmp 14)), none⟩,
 ⟨(some 16), (.mv (.tmp 1)), none⟩,
 ⟨(some 17), (.mx true (.tmp 15) (.tmp 16)), none⟩,
 ⟨(some 18), (.nilc (.tmp 10)), none⟩,
 ⟨(some 19), (.fa 1 (.tmp 18)), none⟩,
 ⟨(some 20), (.fa 0 (.tmp 19)), none⟩,
 ⟨none, (.st 1 (.tmp 20) (.tmp 17)), none⟩])
 .skip))
def r23 : List RV := []
theorem ok23 : FnOk Tryd.prog 23 21 c23 r23 := ⟨[25, 24], _, _, Tryd.func23, rfl, rfl, by kernel_rfl, by kernel_rfl, by kernel_rfl⟩
/-- (*vouch/session.Session).Join -/
def c24 : C := (.seq (.reg [⟨(some 4), (.mv (.const (.int .i64 0))), none⟩])
 (.seq (.seq (.reg [⟨(some 7), (.mv (.tmp 0)), none⟩,
 ⟨(some 8), (.eqs false .ptr (.tmp 7) (.const (.pointer none))), none⟩])
 (.cond (.tmp 8) (.seq (.reg [⟨(some 4), (.mv (.const (.int .i64 3))), none⟩])
 .ret)
 .skip))
 (.seq (.reg [⟨(some 10), (.mv (.tmp 1)), none⟩,
 ⟨(some 11), (.call 21 [(.tmp 10)]), none⟩,
 ⟨(some 9), (.mv (.tmp 11)), none⟩,
 ⟨(some 12), (.ext 0 (.tmp 9)), none⟩,
 ⟨(some 13), (.ext 1 (.tmp 9)), none⟩,
 ⟨(some 5), (.mv (.tmp 12)), none⟩,
 ⟨(some 6), (.mv (.tmp 13)), none⟩])
 (.seq (.seq (.reg [⟨(some 14), (.mv (.tmp 6)), none⟩,
 ⟨(some 15), (.bin .eql (.tmp 14) (.const (.int .i64 0))), none⟩])
 (.cond (.tmp 15) (.reg [⟨(some 16), (.mv (.tmp 0)), none⟩,
 ⟨(some 17), (.mv (.tmp 5)), none⟩,
 ⟨(some 18), (.call 23 [(.tmp 16), (.tmp 17)]), none⟩])
 .skip))
 (.seq (.reg [⟨(some 19), (.mv (.tmp 6)), none⟩,
 ⟨(some 4), (.mv (.tmp 19)), none⟩])
 .ret)))))
def r24 : List RV := [.tmp 4]
theorem ok24 : FnOk Tryd.prog 24 20 c24 r24 := ⟨[25, 24], _, _, Tryd.func24, rfl, rfl, by kernel_rfl, by kernel_rfl, by kernel_rfl⟩
/-- (*vouch/session.Session).Ack -/
def c25 : C := (.seq (.reg [⟨(some 3), (.box 33 (.tmp 1)), none⟩,
 ⟨(some 4), (.mv (.const (.bool false))), none⟩])
 (.seq (.seq (.draw [⟨⟨(some 5), (.mv (.tmp 0)), none⟩, .p⟩,
 ⟨⟨(some 6), (.eqs false .ptr (.tmp 5) (.const (.pointer none))), none⟩, .p⟩,
 ⟨⟨(some 7), (.mv (.tmp 6)), none⟩, .p⟩,
 ⟨⟨(some 8), (.mv (.tmp 0)), (some (7, false))⟩, .p⟩,
 ⟨⟨(some 9), (.nilc (.tmp 8)), (some (7, false))⟩, .p⟩,
 ⟨⟨(some 10), (.fa 1 (.tmp 9)), (some (7, false))⟩, .p⟩,
 ⟨⟨(some 11), (.fa 1 (.tmp 10)), (some (7, false))⟩, .p⟩,
 ⟨⟨(some 12), (.ld none (.tmp 11)), (some (7, false))⟩, .l⟩,
 ⟨⟨(some 13), (.nt (.tmp 12)), (some (7, false))⟩, .p⟩,
 ⟨⟨(some 14), (.pick (.tmp 7) (.const (.bool true)) (.tmp 13)), none⟩, .p⟩,
 ⟨⟨(some 15), (.mv (.tmp 14)), none⟩, .p⟩,
 ⟨⟨(some 16), (.fa 0 (.tmp 3)), (some (15, false))⟩, .p⟩,
 ⟨⟨(some 17), (.ld none (.tmp 16)), (some (15, false))⟩, .l⟩,
 ⟨⟨(some 18), (.bin .neq (.tmp 17) (.const (.int .i64 2))), (some (15, false))⟩, .p⟩,
 ⟨⟨(some 19), (.pick (.tmp 15) (.const (.bool true)) (.tmp 18)), none⟩, .p⟩,
 ⟨⟨(some 20), (.mv (.tmp 19)), none⟩, .p⟩,
 ⟨⟨(some 21), (.fa 3 (.tmp 3)), (some (20, false))⟩, .p⟩,
 ⟨⟨(some 22), (.ld none (.tmp 21)), (some (20, false))⟩, .l⟩,
 ⟨⟨(some 23), (.mv (.tmp 0)), (some (20, false))⟩, .p⟩,
 ⟨⟨(some 24), (.nilc (.tmp 23)), (some (20, false))⟩, .p⟩,
 ⟨⟨(some 25), (.fa 0 (.tmp 24)), (some (20, false))⟩, .p⟩,
 ⟨⟨(some 26), (.ld none (.tmp 25)), (some (20, false))⟩, .l⟩,
 ⟨⟨(some 27), (.bin .neq (.tmp 22) (.tmp 26)), (some (20, false))⟩, .p⟩,
 ⟨⟨(some 28), (.pick (.tmp 20) (.const (.bool true)) (.tmp 27)), none⟩, .p⟩,
 ⟨⟨(some 29), (.mv (.tmp 28)), none⟩, .p⟩,
 ⟨⟨(some 30), (.fa 5 (.tmp 3)), (some (29, false))⟩, .p⟩,
 ⟨⟨(some 31), (.ld none (.tmp 30)), (some (29, false))⟩, .l⟩,
 ⟨⟨(some 32), (.mv (.tmp 0)), (some (29, false))⟩, .p⟩,
 ⟨⟨(some 33), (.nilc (.tmp 32)), (some (29, false))⟩, .p⟩,
 ⟨⟨(some 34), (.fa 1 (.tmp 33)), (some (29, false))⟩, .p⟩,
 ⟨⟨(some 35), (.fa 2 (.tmp 34)), (some (29, false))⟩, .p⟩,
 ⟨⟨(some 36), (.ld none (.tmp 35)), (some (29, false))⟩, .l⟩,
 ⟨⟨(some 37), (.bin .neq (.tmp 31) (.tmp 36)), (some (29, false))⟩, .p⟩,
 ⟨⟨(some 38), (.pick (.tmp 29) (.const (.bool true)) (.tmp 37)), none⟩, .p⟩])
 (.cond (.tmp 38) (.seq (.reg [⟨(some 4), (.mv (.const (.bool false))), none⟩])
 .ret)
 .skip))
 (.seq (.reg [⟨(some 39), (.mv (.tmp 0)), none⟩,
 ⟨(some 40), (.fa 12 (.tmp 3)), none⟩,
 ⟨(some 41), (.ld none (.tmp 40)), none⟩,
 ⟨(some 42), (.call 48 [(.tmp 39), (.tmp 41)]), none⟩])
 (.seq (.seq (.reg [⟨(some 43), (.fa 12 (.tmp 3)), none⟩,
 ⟨(some 44), (.ld none (.tmp 43)), none⟩,
 ⟨(some 45), (.bin .eql (.tmp 44) (.const (.int .i64 0))), none⟩])
 (.cond (.tmp 45) (.seq (.reg [⟨(some 46), (.mv (.tmp 0)), none⟩,
 ⟨(some 47), (.fa 13 (.tmp 3)), none⟩,
 ⟨(some 48), (.ld none (.tmp 47)), none⟩,
 ⟨(some 49), (.nilc (.tmp 46)), none⟩,
 ⟨(some 50), (.fa 1 (.tmp 49)), none⟩,
 ⟨(some 51), (.fa 4 (.tmp 50)), none⟩,
 ⟨none, (.st 1 (.tmp 51) (.tmp 48)), none⟩])
 (.reg [⟨(some 52), (.mv (.tmp 0)), none⟩,
 ⟨(some 53), (.fa 13 (.tmp 3)), none⟩,
 ⟨(some 54), (.ld none (.tmp 53)), none⟩,
 ⟨(some 55), (.call 23 [(.tmp 52), (.tmp 54)]), none⟩]))
 .skip))
 (.seq (.reg [⟨(some 4), (.mv (.const (.bool true))), none⟩])
 .ret)))))
def r25 : List RV := [.tmp 4]
theorem ok25 : FnOk Tryd.prog 25 56 c25 r25 := ⟨[25, 24], _, _, Tryd.func25, rfl, rfl, by kernel_rfl, by kernel_rfl, by kernel_rfl⟩
/-- (*vouch/session.Session).Floor -/
def c26 : C := (.seq (.reg [⟨(some 2), (.mv (.const (.int .i64 0))), none⟩])
 (.seq (.reg [⟨(some 3), (.mv (.tmp 0)), none⟩,
 ⟨(some 4), (.call 18 [(.tmp 3)]), none⟩,
 ⟨(some 5), (.fld none 0 (.tmp 4)), none⟩,
 ⟨(some 2), (.mv (.tmp 5)), none⟩])
 .ret))
def r26 : List RV := [.tmp 2]
theorem ok26 : FnOk Tryd.prog 26 6 c26 r26 := ⟨[25, 24], _, _, Tryd.func26, rfl, rfl, by kernel_rfl, by kernel_rfl, by kernel_rfl⟩
/-- vouch/vouchlaw16.step -/
def c27 : C := (.seq (.reg [⟨(some 5), (.box 55 (.tmp 2)), none⟩,
 ⟨(some 6), (.mv (.const (.bool false))), none⟩])
 (.seq (.reg [⟨(some 7), (.mv (.const (.bool true))), none⟩])
 (.seq (.seq (.reg [⟨(some 16), (.fa 0 (.tmp 5)), none⟩,
 ⟨(some 17), (.ld none (.tmp 16)), none⟩,
 ⟨(some 18), (.bin .rem (.tmp 17) (.const (.int .u8 5))), none⟩])
 (.block 0 (.seq (.reg [⟨(some 20), (.bin .eql (.tmp 18) (.const (.int .u8 0))), none⟩,
 ⟨(some 19), (.mv (.tmp 20)), none⟩])
 (.cond (.tmp 19) (.seq (.reg [⟨(some 22), (.mv (.tmp 0)), none⟩,
 ⟨(some 23), (.fa 1 (.tmp 5)), none⟩,
 ⟨(some 24), (.ld none (.tmp 23)), none⟩,
 ⟨(some 25), (.call 15 [(.tmp 22), (.tmp 24)]), none⟩,
 ⟨(some 21), (.mv (.tmp 25)), none⟩,
 ⟨(some 26), (.ext 0 (.tmp 21)), none⟩,
 ⟨(some 27), (.ext 1 (.tmp 21)), none⟩,
 ⟨(some 8), (.new 33 [.int .i64 (0), .int .i64 (0), .int .i64 (0), .int .i64 (0), .int .i64 (0), .int .i64 (0), .string ⟨#[]⟩, .int .i64 (0), .int .i64 (0), .bool false, .string ⟨#[]⟩, .bool false, .int .i64 (0), .int .i64 (0), .slice none 0 0, .slice none 0 0]), none⟩,
 ⟨none, (.st 16 (.tmp 8) (.tmp 26)), none⟩,
 ⟨(some 9), (.mv (.tmp 27)), none⟩])
 (.seq (.reg [⟨(some 29), (.mv (.tmp 1)), none⟩,
 ⟨(some 30), (.fa 1 (.tmp 5)), none⟩,
 ⟨(some 31), (.ld none (.tmp 30)), none⟩,
 ⟨(some 32), (.call 52 [(.tmp 29), (.tmp 31)]), none⟩,
 ⟨(some 28), (.mv (.tmp 32)), none⟩,
 ⟨(some 33), (.ext 0 (.tmp 28)), none⟩,
 ⟨(some 34), (.ext 1 (.tmp 28)), none⟩,
 ⟨(some 10), (.new 33 [.int .i64 (0), .int .i64 (0), .int .i64 (0), .int .i64 (0), .int .i64 (0), .int .i64 (0), .string ⟨#[]⟩, .int .i64 (0), .int .i64 (0), .bool false, .string ⟨#[]⟩, .bool false, .int .i64 (0), .int .i64 (0), .slice none 0 0, .slice none 0 0]), none⟩,
 ⟨none, (.st 16 (.tmp 10) (.tmp 33)), none⟩,
 ⟨(some 11), (.mv (.tmp 34)), none⟩])
 (.reg [⟨(some 35), (.mv (.tmp 9)), none⟩,
 ⟨(some 36), (.mv (.tmp 11)), none⟩,
 ⟨(some 37), (.bin .eql (.tmp 35) (.tmp 36)), none⟩,
 ⟨(some 38), (.mv (.tmp 37)), none⟩,
 ⟨(some 39), (.ld (some 16) (.tmp 8)), (some (38, true))⟩,
 ⟨(some 40), (.ld (some 16) (.tmp 10)), (some (38, true))⟩,
 ⟨(some 41), (.call 53 [(.tmp 39), (.tmp 40)]), (some (38, true))⟩,
 ⟨(some 42), (.pick (.tmp 38) (.tmp 41) (.const (.bool false))), none⟩,
 ⟨(some 7), (.mv (.tmp 42)), none⟩])))
 (.seq (.reg [⟨(some 44), (.bin .eql (.tmp 18) (.const (.int .u8 1))), none⟩,
 ⟨(some 43), (.mv (.tmp 44)), none⟩])
 (.cond (.tmp 43) (.seq (.reg [⟨(some 46), (.mv (.tmp 0)), none⟩,
 ⟨(some 47), (.fa 2 (.tmp 5)), none⟩,
 ⟨(some 48), (.ld none (.tmp 47)), none⟩,
 ⟨(some 49), (.call 17 [(.tmp 46), (.tmp 48)]), none⟩,
 ⟨(some 45), (.mv (.tmp 49)), none⟩,
 ⟨(some 50), (.ext 0 (.tmp 45)), none⟩,
 ⟨(some 51), (.ext 1 (.tmp 45)), none⟩,
 ⟨(some 12), (.new 33 [.int .i64 (0), .int .i64 (0), .int .i64 (0), .int .i64 (0), .int .i64 (0), .int .i64 (0), .string ⟨#[]⟩, .int .i64 (0), .int .i64 (0), .bool false, .string ⟨#[]⟩, .bool false, .int .i64 (0), .int .i64 (0), .slice none 0 0, .slice none 0 0]), none⟩,
 ⟨none, (.st 16 (.tmp 12) (.tmp 50)), none⟩,
 ⟨(some 13), (.mv (.tmp 51)), none⟩])
 (.seq (.reg [⟨(some 53), (.mv (.tmp 1)), none⟩,
 ⟨(some 54), (.fa 2 (.tmp 5)), none⟩,
 ⟨(some 55), (.ld none (.tmp 54)), none⟩,
 ⟨(some 56), (.call 54 [(.tmp 53), (.tmp 55)]), none⟩,
 ⟨(some 52), (.mv (.tmp 56)), none⟩,
 ⟨(some 57), (.ext 0 (.tmp 52)), none⟩,
 ⟨(some 58), (.ext 1 (.tmp 52)), none⟩,
 ⟨(some 14), (.new 33 [.int .i64 (0), .int .i64 (0), .int .i64 (0), .int .i64 (0), .int .i64 (0), .int .i64 (0), .string ⟨#[]⟩, .int .i64 (0), .int .i64 (0), .bool false, .string ⟨#[]⟩, .bool false, .int .i64 (0), .int .i64 (0), .slice none 0 0, .slice none 0 0]), none⟩,
 ⟨none, (.st 16 (.tmp 14) (.tmp 57)), none⟩,
 ⟨(some 15), (.mv (.tmp 58)), none⟩])
 (.reg [⟨(some 59), (.mv (.tmp 13)), none⟩,
 ⟨(some 60), (.mv (.tmp 15)), none⟩,
 ⟨(some 61), (.bin .eql (.tmp 59) (.tmp 60)), none⟩,
 ⟨(some 62), (.mv (.tmp 61)), none⟩,
 ⟨(some 63), (.ld (some 16) (.tmp 12)), (some (62, true))⟩,
 ⟨(some 64), (.ld (some 16) (.tmp 14)), (some (62, true))⟩,
 ⟨(some 65), (.call 53 [(.tmp 63), (.tmp 64)]), (some (62, true))⟩,
 ⟨(some 66), (.pick (.tmp 62) (.tmp 65) (.const (.bool false))), none⟩,
 ⟨(some 7), (.mv (.tmp 66)), none⟩])))
 (.seq (.reg [⟨(some 68), (.bin .eql (.tmp 18) (.const (.int .u8 2))), none⟩,
 ⟨(some 67), (.mv (.tmp 68)), none⟩])
 (.cond (.tmp 67) (.draw [⟨⟨(some 69), (.mv (.tmp 0)), none⟩, .p⟩,
 ⟨⟨(some 70), (.fa 3 (.tmp 5)), none⟩, .p⟩,
 ⟨⟨(some 71), (.ld (some 16) (.tmp 70)), none⟩, .l⟩,
 ⟨⟨(some 72), (.call 25 [(.tmp 69), (.tmp 71)]), none⟩, .u⟩,
 ⟨⟨(some 73), (.mv (.tmp 1)), none⟩, .p⟩,
 ⟨⟨(some 74), (.fa 3 (.tmp 5)), none⟩, .p⟩,
 ⟨⟨(some 75), (.ld (some 16) (.tmp 74)), none⟩, .l⟩,
 ⟨⟨(some 76), (.call 55 [(.tmp 73), (.tmp 75)]), none⟩, .m⟩,
 ⟨⟨(some 77), (.eqs false .bool (.tmp 72) (.tmp 76)), none⟩, .p⟩,
 ⟨⟨(some 7), (.mv (.tmp 77)), none⟩, .p⟩])
 (.seq (.reg [⟨(some 79), (.bin .eql (.tmp 18) (.const (.int .u8 3))), none⟩,
 ⟨(some 78), (.mv (.tmp 79)), none⟩])
 (.cond (.tmp 78) (.seq (.reg [⟨(some 80), (.mv (.tmp 0)), none⟩,
 ⟨(some 81), (.fa 2 (.tmp 5)), none⟩,
 ⟨(some 82), (.ld none (.tmp 81)), none⟩,
 ⟨(some 83), (.call 23 [(.tmp 80), (.tmp 82)]), none⟩])
 (.reg [⟨(some 84), (.mv (.tmp 1)), none⟩,
 ⟨(some 85), (.fa 2 (.tmp 5)), none⟩,
 ⟨(some 86), (.ld none (.tmp 85)), none⟩,
 ⟨(some 87), (.call 56 [(.tmp 84), (.tmp 86)]), none⟩]))
 (.seq (.reg [⟨(some 89), (.bin .eql (.tmp 18) (.const (.int .u8 4))), none⟩,
 ⟨(some 88), (.mv (.tmp 89)), none⟩])
 (.cond (.tmp 88) (.draw [⟨⟨(some 90), (.mv (.tmp 0)), none⟩, .p⟩,
 ⟨⟨(some 91), (.fa 19 (.tmp 5)), none⟩, .p⟩,
 ⟨⟨(some 92), (.ld none (.tmp 91)), none⟩, .l⟩,
 ⟨⟨(some 93), (.call 24 [(.tmp 90), (.tmp 92)]), none⟩, .u⟩,
 ⟨⟨(some 94), (.mv (.tmp 1)), none⟩, .p⟩,
 ⟨⟨(some 95), (.fa 19 (.tmp 5)), none⟩, .p⟩,
 ⟨⟨(some 96), (.ld none (.tmp 95)), none⟩, .l⟩,
 ⟨⟨(some 97), (.call 57 [(.tmp 94), (.tmp 96)]), none⟩, .m⟩,
 ⟨⟨(some 98), (.bin .eql (.tmp 93) (.tmp 97)), none⟩, .p⟩,
 ⟨⟨(some 7), (.mv (.tmp 98)), none⟩, .p⟩])
 .skip))))))))))))
 (.seq (.draw [⟨⟨(some 99), (.mv (.tmp 7)), none⟩, .p⟩,
 ⟨⟨(some 100), (.mv (.tmp 99)), none⟩, .p⟩,
 ⟨⟨(some 101), (.mv (.tmp 0)), (some (100, true))⟩, .p⟩,
 ⟨⟨(some 102), (.call 18 [(.tmp 101)]), (some (100, true))⟩, .g⟩,
 ⟨⟨(some 103), (.mv (.tmp 1)), (some (100, true))⟩, .p⟩,
 ⟨⟨(some 104), (.nilc (.tmp 103)), (some (100, true))⟩, .p⟩,
 ⟨⟨(some 105), (.fa 1 (.tmp 104)), (some (100, true))⟩, .p⟩,
 ⟨⟨(some 106), (.ld (some 6) (.tmp 105)), (some (100, true))⟩, .l⟩,
 ⟨⟨(some 107), (.eqa false [.num, .truth, .num, .num, .num, .num] (.tmp 102) (.tmp 106)), (some (100, true))⟩, .p⟩,
 ⟨⟨(some 108), (.pick (.tmp 100) (.tmp 107) (.const (.bool false))), none⟩, .p⟩,
 ⟨⟨(some 109), (.mv (.tmp 108)), none⟩, .p⟩,
 ⟨⟨(some 110), (.mv (.tmp 0)), (some (109, true))⟩, .p⟩,
 ⟨⟨(some 111), (.call 26 [(.tmp 110)]), (some (109, true))⟩, .g⟩,
 ⟨⟨(some 112), (.mv (.tmp 1)), (some (109, true))⟩, .p⟩,
 ⟨⟨(some 113), (.nilc (.tmp 112)), (some (109, true))⟩, .p⟩,
 ⟨⟨(some 114), (.fa 1 (.tmp 113)), (some (109, true))⟩, .p⟩,
 ⟨⟨(some 115), (.fa 0 (.tmp 114)), (some (109, true))⟩, .p⟩,
 ⟨⟨(some 116), (.ld none (.tmp 115)), (some (109, true))⟩, .l⟩,
 ⟨⟨(some 117), (.bin .eql (.tmp 111) (.tmp 116)), (some (109, true))⟩, .p⟩,
 ⟨⟨(some 118), (.pick (.tmp 109) (.tmp 117) (.const (.bool false))), none⟩, .p⟩,
 ⟨⟨(some 6), (.mv (.tmp 118)), none⟩, .p⟩])
 .ret))))
def r27 : List RV := [.tmp 6]
theorem ok27 : FnOk Tryd.prog 27 119 c27 r27 := ⟨[25, 24], _, _, Tryd.func27, rfl, rfl, by kernel_rfl, by kernel_rfl, by kernel_rfl⟩
/-- (*vouch/session.Session).Clone -/
def c28 : C := (.seq (.reg [⟨(some 2), (.mv (.const (.pointer none))), none⟩])
 (.seq (.seq (.reg [⟨(some 3), (.mv (.tmp 0)), none⟩,
 ⟨(some 4), (.eqs false .ptr (.tmp 3) (.const (.pointer none))), none⟩])
 (.cond (.tmp 4) (.seq (.reg [⟨(some 2), (.mv (.const (.pointer none))), none⟩])
 .ret)
 .skip))
 (.seq (.draw [⟨⟨(some 5), (.mv (.tmp 0)), none⟩, .p⟩,
 ⟨⟨(some 6), (.nilc (.tmp 5)), none⟩, .p⟩,
 ⟨⟨(some 7), (.fa 0 (.tmp 6)), none⟩, .p⟩,
 ⟨⟨(some 8), (.ld none (.tmp 7)), none⟩, .l⟩,
 ⟨⟨(some 9), (.mv (.tmp 0)), none⟩, .p⟩,
 ⟨⟨(some 10), (.nilc (.tmp 9)), none⟩, .p⟩,
 ⟨⟨(some 11), (.fa 1 (.tmp 10)), none⟩, .p⟩,
 ⟨⟨(some 12), (.ld (some 6) (.tmp 11)), none⟩, .l⟩,
 ⟨⟨(some 13), (.mv (.tmp 0)), none⟩, .p⟩,
 ⟨⟨(some 14), (.nilc (.tmp 13)), none⟩, .p⟩,
 ⟨⟨(some 15), (.fa 7 (.tmp 14)), none⟩, .p⟩,
 ⟨⟨(some 16), (.ld none (.tmp 15)), none⟩, .l⟩,
 ⟨⟨(some 17), (.call 46 [(.tmp 16)]), none⟩, .g⟩,
 ⟨⟨(some 18), (.bld [.int .i64 (0), .int .i64 (0), .bool false, .int .i64 (0), .int .i64 (0), .int .i64 (0), .int .i64 (0), .slice none 0 0] [(0, 1, (.tmp 8)), (1, 6, (.tmp 12)), (7, 1, (.tmp 17))]), none⟩, .p⟩,
 ⟨⟨(some 19), (.box 101 (.tmp 18)), none⟩, .f⟩,
 ⟨⟨(some 2), (.mv (.tmp 19)), none⟩, .p⟩])
 .ret)))
def r28 : List RV := [.tmp 2]
theorem ok28 : FnOk Tryd.prog 28 20 c28 r28 := ⟨[25, 24], _, _, Tryd.func28, rfl, rfl, by kernel_rfl, by kernel_rfl, by kernel_rfl⟩
/-- vouch/store.New -/
def c44 : C := (.seq (.reg [⟨(some 2), (.mv (.const (.pointer none))), none⟩])
 (.seq (.reg [⟨(some 3), .mkmap, none⟩,
 ⟨(some 4), (.mv (.tmp 0)), none⟩,
 ⟨(some 5), (.mx true (.tmp 4) (.const (.int .i64 1))), none⟩,
 ⟨(some 6), (.mx false (.tmp 5) (.const (.int .i64 64))), none⟩,
 ⟨(some 7), (.bld [.map none, .int .i64 (0), .int .i64 (0)] [(0, 1, (.tmp 3)), (1, 1, (.tmp 6))]), none⟩,
 ⟨(some 8), (.box 137 (.tmp 7)), none⟩,
 ⟨(some 2), (.mv (.tmp 8)), none⟩])
 .ret))
def r44 : List RV := [.tmp 2]
theorem ok44 : FnOk Tryd.prog 44 9 c44 r44 := ⟨[25, 24], _, _, Tryd.func44, rfl, rfl, by kernel_rfl, by kernel_rfl, by kernel_rfl⟩
/-- (*vouch/store.Store).Commit -/
def c45 : C := (.seq (.reg [⟨(some 4), (.mv (.const (.int .i64 0))), none⟩,
 ⟨(some 5), (.mv (.const (.int .i64 0))), none⟩])
 (.seq (.seq (.reg [⟨(some 11), (.mv (.tmp 0)), none⟩,
 ⟨(some 12), (.eqs false .ptr (.tmp 11) (.const (.pointer none))), none⟩])
 (.cond (.tmp 12) (.seq (.reg [⟨(some 4), (.mv (.const (.int .i64 0))), none⟩,
 ⟨(some 5), (.mv (.const (.int .i64 3))), none⟩])
 .ret)
 .skip))
 (.seq (.seq (.reg [⟨(some 13), (.mv (.tmp 1)), none⟩,
 ⟨(some 14), (.call 70 [(.tmp 13)]), none⟩,
 ⟨(some 6), (.mv (.tmp 14)), none⟩])
 (.seq (.reg [⟨(some 15), (.mv (.tmp 6)), none⟩,
 ⟨(some 16), (.bin .neq (.tmp 15) (.const (.int .i64 0))), none⟩])
 (.cond (.tmp 16) (.seq (.reg [⟨(some 17), (.mv (.tmp 6)), none⟩,
 ⟨(some 4), (.mv (.const (.int .i64 0))), none⟩,
 ⟨(some 5), (.mv (.tmp 17)), none⟩])
 .ret)
 .skip)))
 (.seq (.seq (.reg [⟨(some 18), (.mv (.tmp 0)), none⟩,
 ⟨(some 19), (.nilc (.tmp 18)), none⟩,
 ⟨(some 20), (.fa 2 (.tmp 19)), none⟩,
 ⟨(some 21), (.ld none (.tmp 20)), none⟩,
 ⟨(some 22), (.bin .geq (.tmp 21) (.const (.int .i64 1099511627776))), none⟩])
 (.cond (.tmp 22) (.seq (.reg [⟨(some 4), (.mv (.const (.int .i64 0))), none⟩,
 ⟨(some 5), (.mv (.const (.int .i64 2))), none⟩])
 .ret)
 .skip))
 (.seq (.reg [⟨(some 23), (.mv (.tmp 0)), none⟩,
 ⟨(some 24), (.nilc (.tmp 23)), none⟩,
 ⟨(some 25), (.fa 2 (.tmp 24)), none⟩,
 ⟨(some 26), (.ld none (.tmp 25)), none⟩,
 ⟨(some 27), (.bin .add (.tmp 26) (.const (.int .i64 1))), none⟩,
 ⟨(some 28), (.nilc (.tmp 23)), none⟩,
 ⟨(some 29), (.fa 2 (.tmp 28)), none⟩,
 ⟨none, (.st 1 (.tmp 29) (.tmp 27)), none⟩])
 (.seq (.seq (.reg [⟨(some 30), (.mv (.tmp 1)), none⟩,
 ⟨(some 31), (.len true (.tmp 30)), none⟩,
 ⟨(some 32), (.mv (.const (.int .i64 0))), none⟩])
 (.block 0 (.loop (.seq (.reg [⟨(some 33), (.bin .lss (.tmp 32) (.tmp 31)), none⟩])
 (.seq (.cond (.tmp 33) .skip
 (.exit 0))
 (.seq (.block 1 (.seq (.reg [⟨(some 34), (.ia 3 (.tmp 30) (.tmp 32)), none⟩,
 ⟨(some 35), (.ld (some 3) (.tmp 34)), none⟩,
 ⟨(some 8), (.new 37 [.string ⟨#[]⟩, .bool false, .string ⟨#[]⟩]), none⟩,
 ⟨none, (.st 3 (.tmp 8) (.tmp 35)), none⟩])
 (.seq (.draw [⟨⟨(some 36), (.mv (.tmp 0)), none⟩, .p⟩,
 ⟨⟨(some 37), (.nilc (.tmp 36)), none⟩, .p⟩,
 ⟨⟨(some 38), (.fa 0 (.tmp 37)), none⟩, .p⟩,
 ⟨⟨(some 39), (.ld none (.tmp 38)), none⟩, .l⟩,
 ⟨⟨(some 40), (.fa 0 (.tmp 8)), none⟩, .p⟩,
 ⟨⟨(some 41), (.ld none (.tmp 40)), none⟩, .l⟩,
 ⟨⟨(some 42), (.look false (.agg #[.slice none 0 0, .bool false]) (.tmp 39) (.tmp 41)), none⟩, .l⟩,
 ⟨⟨(some 9), (.new 141 [.slice none 0 0, .bool false]), none⟩, .f⟩,
 ⟨⟨none, (.st 2 (.tmp 9) (.tmp 42)), none⟩, .m⟩])
 (.seq (.draw [⟨⟨(some 43), (.fa 0 (.tmp 9)), none⟩, .p⟩,
 ⟨⟨(some 44), (.ld none (.tmp 43)), none⟩, .l⟩,
 ⟨⟨(some 45), (.call 71 [(.tmp 44)]), none⟩, .g⟩,
 ⟨⟨(some 46), (.mv (.tmp 0)), none⟩, .p⟩,
 ⟨⟨(some 47), (.nilc (.tmp 46)), none⟩, .p⟩,
 ⟨⟨(some 48), (.fa 2 (.tmp 47)), none⟩, .p⟩,
 ⟨⟨(some 49), (.ld none (.tmp 48)), none⟩, .l⟩,
 ⟨⟨(some 50), (.fa 1 (.tmp 8)), none⟩, .p⟩,
 ⟨⟨(some 51), (.ld (some 2) (.tmp 50)), none⟩, .l⟩,
 ⟨⟨(some 52), (.bld [.int .i64 (0), .bool false, .string ⟨#[]⟩] [(0, 1, (.tmp 49)), (1, 2, (.tmp 51))]), none⟩, .p⟩,
 ⟨⟨(some 53), (.lit 144 1 3 [.int .i64 (0), .bool false, .string ⟨#[]⟩] [(0, 3, (.tmp 52))]), none⟩, .f⟩,
 ⟨⟨(some 54), (.app 144 3 32 (.tmp 45) (.tmp 53)), none⟩, .m⟩,
 ⟨⟨(some 10), (.mv (.tmp 54)), none⟩, .p⟩])
 (.seq (.seq (.reg [⟨(some 55), (.mv (.tmp 10)), none⟩,
 ⟨(some 56), (.len true (.tmp 55)), none⟩,
 ⟨(some 57), (.mv (.tmp 0)), none⟩,
 ⟨(some 58), (.nilc (.tmp 57)), none⟩,
 ⟨(some 59), (.fa 1 (.tmp 58)), none⟩,
 ⟨(some 60), (.ld none (.tmp 59)), none⟩,
 ⟨(some 61), (.bin .gtr (.tmp 56) (.tmp 60)), none⟩])
 (.cond (.tmp 61) (.reg [⟨(some 62), (.mv (.tmp 10)), none⟩,
 ⟨(some 63), (.mv (.tmp 10)), none⟩,
 ⟨(some 64), (.len true (.tmp 63)), none⟩,
 ⟨(some 65), (.mv (.tmp 0)), none⟩,
 ⟨(some 66), (.nilc (.tmp 65)), none⟩,
 ⟨(some 67), (.fa 1 (.tmp 66)), none⟩,
 ⟨(some 68), (.ld none (.tmp 67)), none⟩,
 ⟨(some 69), (.bin .sub (.tmp 64) (.tmp 68)), none⟩,
 ⟨(some 70), (.fnl (.sll 3) [(.tmp 62), (.tmp 69)]), none⟩,
 ⟨(some 10), (.mv (.tmp 70)), none⟩,
 ⟨(some 71), (.fa 1 (.tmp 9)), none⟩,
 ⟨none, (.st 1 (.tmp 71) (.const (.bool true))), none⟩])
 .skip))
 (.draw [⟨⟨(some 72), (.mv (.tmp 0)), none⟩, .p⟩,
 ⟨⟨(some 73), (.nilc (.tmp 72)), none⟩, .p⟩,
 ⟨⟨(some 74), (.fa 0 (.tmp 73)), none⟩, .p⟩,
 ⟨⟨(some 75), (.ld none (.tmp 74)), none⟩, .l⟩,
 ⟨⟨(some 76), (.fa 0 (.tmp 8)), none⟩, .p⟩,
 ⟨⟨(some 77), (.ld none (.tmp 76)), none⟩, .l⟩,
 ⟨⟨(some 78), (.mv (.tmp 10)), none⟩, .p⟩,
 ⟨⟨(some 79), (.fa 1 (.tmp 9)), none⟩, .p⟩,
 ⟨⟨(some 80), (.ld none (.tmp 79)), none⟩, .l⟩,
 ⟨⟨(some 81), (.bld [.slice none 0 0, .bool false] [(0, 1, (.tmp 78)), (1, 1, (.tmp 80))]), none⟩, .p⟩,
 ⟨⟨none, (.mset (.tmp 75) (.tmp 77) (.tmp 81)), none⟩, .m⟩]))))))
 (.reg [⟨(some 82), (.bin .add (.tmp 32) (.const (.int .i64 1))), none⟩,
 ⟨(some 32), (.mv (.tmp 82)), none⟩])))))))
 (.seq (.reg [⟨(some 83), (.mv (.tmp 0)), none⟩,
 ⟨(some 84), (.nilc (.tmp 83)), none⟩,
 ⟨(some 85), (.fa 2 (.tmp 84)), none⟩,
 ⟨(some 86), (.ld none (.tmp 85)), none⟩,
 ⟨(some 4), (.mv (.tmp 86)), none⟩,
 ⟨(some 5), (.mv (.const (.int .i64 0))), none⟩])
 .ret)))))))
def r45 : List RV := [.tmp 4, .tmp 5]
theorem ok45 : FnOk Tryd.prog 45 87 c45 r45 := ⟨[25, 24], _, _, Tryd.func45, rfl, rfl, by kernel_rfl, by kernel_rfl, by kernel_rfl⟩
/-- slices.Clone[[]vouch/api.Write,vouch/api.Write] -/
def c46 : C := (.seq (.reg [⟨(some 2), (.mv (.const (.slice none 0 0))), none⟩])
 (.seq (.seq (.reg [⟨(some 3), (.mv (.tmp 0)), none⟩,
 ⟨(some 4), (.eqs false .slice (.tmp 3) (.const (.slice none 0 0))), none⟩])
 (.cond (.tmp 4) (.seq (.reg [⟨(some 2), (.mv (.const (.slice none 0 0))), none⟩])
 .ret)
 .skip))
 (.seq (.reg [⟨(some 5), (.lit 37 0 3 [] []), none⟩,
 ⟨(some 6), (.mv (.tmp 0)), none⟩,
 ⟨(some 7), (.app 37 3 40 (.tmp 5) (.tmp 6)), none⟩,
 ⟨(some 2), (.mv (.tmp 7)), none⟩])
 .ret)))
def r46 : List RV := [.tmp 2]
theorem ok46 : FnOk Tryd.prog 46 8 c46 r46 := ⟨[25, 24], _, _, Tryd.func46, rfl, rfl, by kernel_rfl, by kernel_rfl, by kernel_rfl⟩
/-- (*vouch/session.Session).message -/
def c47 : C := (.seq (.reg [⟨(some 2), (.new 33 [.int .i64 (0), .int .i64 (0), .int .i64 (0), .int .i64 (0), .int .i64 (0), .int .i64 (0), .string ⟨#[]⟩, .int .i64 (0), .int .i64 (0), .bool false, .string ⟨#[]⟩, .bool false, .int .i64 (0), .int .i64 (0), .slice none 0 0, .slice none 0 0]), none⟩])
 (.seq (.draw [⟨⟨(some 3), (.mv (.tmp 0)), none⟩, .p⟩,
 ⟨⟨(some 4), (.nilc (.tmp 3)), none⟩, .p⟩,
 ⟨⟨(some 5), (.fa 0 (.tmp 4)), none⟩, .p⟩,
 ⟨⟨(some 6), (.ld none (.tmp 5)), none⟩, .l⟩,
 ⟨⟨(some 7), (.mv (.tmp 0)), none⟩, .p⟩,
 ⟨⟨(some 8), (.nilc (.tmp 7)), none⟩, .p⟩,
 ⟨⟨(some 9), (.fa 1 (.tmp 8)), none⟩, .p⟩,
 ⟨⟨(some 10), (.fa 2 (.tmp 9)), none⟩, .p⟩,
 ⟨⟨(some 11), (.ld none (.tmp 10)), none⟩, .l⟩,
 ⟨⟨(some 12), (.mv (.tmp 0)), none⟩, .p⟩,
 ⟨⟨(some 13), (.nilc (.tmp 12)), none⟩, .p⟩,
 ⟨⟨(some 14), (.fa 7 (.tmp 13)), none⟩, .p⟩,
 ⟨⟨(some 15), (.ld none (.tmp 14)), none⟩, .l⟩,
 ⟨⟨(some 16), (.call 46 [(.tmp 15)]), none⟩, .g⟩,
 ⟨⟨(some 17), (.bld [.int .i64 (0), .int .i64 (0), .int .i64 (0), .int .i64 (0), .int .i64 (0), .int .i64 (0), .string ⟨#[]⟩, .int .i64 (0), .int .i64 (0), .bool false, .string ⟨#[]⟩, .bool false, .int .i64 (0), .int .i64 (0), .slice none 0 0, .slice none 0 0] [(0, 1, (.const (.int .i64 1))), (3, 1, (.tmp 6)), (5, 1, (.tmp 11)), (14, 1, (.tmp 16))]), none⟩, .p⟩,
 ⟨⟨none, (.st 16 (.tmp 2) (.tmp 17)), none⟩, .m⟩])
 .ret))
def r47 : List RV := [.agg 2 16]
theorem ok47 : FnOk Tryd.prog 47 18 c47 r47 := ⟨[25, 24], _, _, Tryd.func47, rfl, rfl, by kernel_rfl, by kernel_rfl, by kernel_rfl⟩
/-- (*vouch/session.Session).end -/
def c48 : C := (.reg [⟨(some 4), (.mv (.tmp 0)), none⟩,
 ⟨(some 5), (.mv (.tmp 0)), none⟩,
 ⟨(some 6), (.mv (.tmp 0)), none⟩,
 ⟨(some 7), (.mv (.tmp 0)), none⟩,
 ⟨(some 8), (.mv (.tmp 1)), none⟩,
 ⟨(some 9), (.nilc (.tmp 4)), none⟩,
 ⟨(some 10), (.fa 1 (.tmp 9)), none⟩,
 ⟨(some 11), (.fa 1 (.tmp 10)), none⟩,
 ⟨none, (.st 1 (.tmp 11) (.const (.bool false))), none⟩,
 ⟨(some 12), (.nilc (.tmp 5)), none⟩,
 ⟨(some 13), (.fa 1 (.tmp 12)), none⟩,
 ⟨(some 14), (.fa 3 (.tmp 13)), none⟩,
 ⟨none, (.st 1 (.tmp 14) (.const (.int .i64 0))), none⟩,
 ⟨(some 15), (.nilc (.tmp 6)), none⟩,
 ⟨(some 16), (.fa 1 (.tmp 15)), none⟩,
 ⟨(some 17), (.fa 5 (.tmp 16)), none⟩,
 ⟨none, (.st 1 (.tmp 17) (.tmp 8)), none⟩,
 ⟨(some 18), (.nilc (.tmp 7)), none⟩,
 ⟨(some 19), (.fa 7 (.tmp 18)), none⟩,
 ⟨none, (.st 1 (.tmp 19) (.const (.slice none 0 0))), none⟩])
def r48 : List RV := []
theorem ok48 : FnOk Tryd.prog 48 20 c48 r48 := ⟨[25, 24], _, _, Tryd.func48, rfl, rfl, by kernel_rfl, by kernel_rfl, by kernel_rfl⟩
/-- vouch/vouchref16.digits -/
def c50 : C := (.seq (.reg [⟨(some 2), (.mv (.const (.string { data := #[] }))), none⟩])
 (.seq (.reg [⟨(some 4), (.mv (.tmp 0)), none⟩,
 ⟨(some 5), (.bin .rem (.tmp 4) (.const (.int .i64 10))), none⟩,
 ⟨(some 6), (.bin .add (.const (.int .i64 48)) (.tmp 5)), none⟩,
 ⟨(some 7), (.conv .u8 (.tmp 6)), none⟩,
 ⟨(some 8), (.lit 5 1 1 [.int .u8 (0)] [(0, 1, (.tmp 7))]), none⟩,
 ⟨(some 9), (.bys (.tmp 8)), none⟩,
 ⟨(some 3), (.mv (.tmp 9)), none⟩])
 (.seq (.seq (.reg [⟨(some 10), (.mv (.tmp 0)), none⟩,
 ⟨(some 11), (.bin .lss (.tmp 10) (.const (.int .i64 10))), none⟩])
 (.cond (.tmp 11) (.seq (.reg [⟨(some 12), (.mv (.tmp 3)), none⟩,
 ⟨(some 2), (.mv (.tmp 12)), none⟩])
 .ret)
 .skip))
 (.seq (.reg [⟨(some 13), (.mv (.tmp 0)), none⟩,
 ⟨(some 14), (.bin .quo (.tmp 13) (.const (.int .i64 10))), none⟩,
 ⟨(some 15), (.call 50 [(.tmp 14)]), none⟩,
 ⟨(some 16), (.mv (.tmp 3)), none⟩,
 ⟨(some 17), (.bin .add (.tmp 15) (.tmp 16)), none⟩,
 ⟨(some 2), (.mv (.tmp 17)), none⟩])
 .ret))))
def r50 : List RV := [.tmp 2]
theorem ok50 : FnOk Tryd.prog 50 18 c50 r50 := ⟨[25, 24], _, _, Tryd.func50, rfl, rfl, by kernel_rfl, by kernel_rfl, by kernel_rfl⟩
/-- (*vouch/vouchref16.Session).Send -/
def c52 : C := (.seq (.reg [⟨(some 4), (.new 33 [.int .i64 (0), .int .i64 (0), .int .i64 (0), .int .i64 (0), .int .i64 (0), .int .i64 (0), .string ⟨#[]⟩, .int .i64 (0), .int .i64 (0), .bool false, .string ⟨#[]⟩, .bool false, .int .i64 (0), .int .i64 (0), .slice none 0 0, .slice none 0 0]), none⟩,
 ⟨(some 5), (.mv (.const (.int .i64 0))), none⟩])
 (.seq (.seq (.reg [⟨(some 7), (.mv (.tmp 0)), none⟩,
 ⟨(some 8), (.nilc (.tmp 7)), none⟩,
 ⟨(some 9), (.fa 1 (.tmp 8)), none⟩,
 ⟨(some 10), (.fa 1 (.tmp 9)), none⟩,
 ⟨(some 11), (.ld none (.tmp 10)), none⟩])
 (.cond (.tmp 11) (.seq (.reg [⟨(some 12), (.bld [.int .i64 (0), .int .i64 (0), .int .i64 (0), .int .i64 (0), .int .i64 (0), .int .i64 (0), .string ⟨#[]⟩, .int .i64 (0), .int .i64 (0), .bool false, .string ⟨#[]⟩, .bool false, .int .i64 (0), .int .i64 (0), .slice none 0 0, .slice none 0 0] []), none⟩,
 ⟨none, (.st 16 (.tmp 4) (.tmp 12)), none⟩,
 ⟨(some 5), (.mv (.const (.int .i64 31))), none⟩])
 .ret)
 .skip))
 (.seq (.reg [⟨(some 13), (.mv (.tmp 1)), none⟩,
 ⟨(some 14), (.call 75 [(.tmp 13)]), none⟩,
 ⟨(some 6), (.mv (.tmp 14)), none⟩])
 (.seq (.seq (.reg [⟨(some 15), (.mv (.tmp 6)), none⟩,
 ⟨(some 16), (.bin .neq (.tmp 15) (.const (.int .i64 0))), none⟩])
 (.cond (.tmp 16) (.seq (.reg [⟨(some 17), (.bld [.int .i64 (0), .int .i64 (0), .int .i64 (0), .int .i64 (0), .int .i64 (0), .int .i64 (0), .string ⟨#[]⟩, .int .i64 (0), .int .i64 (0), .bool false, .string ⟨#[]⟩, .bool false, .int .i64 (0), .int .i64 (0), .slice none 0 0, .slice none 0 0] []), none⟩,
 ⟨(some 18), (.mv (.tmp 6)), none⟩,
 ⟨none, (.st 16 (.tmp 4) (.tmp 17)), none⟩,
 ⟨(some 5), (.mv (.tmp 18)), none⟩])
 .ret)
 .skip))
 (.seq (.reg [⟨(some 19), (.mv (.tmp 0)), none⟩,
 ⟨(some 20), (.nilc (.tmp 19)), none⟩,
 ⟨(some 21), (.fa 1 (.tmp 20)), none⟩,
 ⟨(some 22), (.fa 2 (.tmp 21)), none⟩,
 ⟨(some 23), (.ld none (.tmp 22)), none⟩,
 ⟨(some 24), (.bin .add (.tmp 23) (.const (.int .i64 1))), none⟩,
 ⟨(some 25), (.nilc (.tmp 19)), none⟩,
 ⟨(some 26), (.fa 1 (.tmp 25)), none⟩,
 ⟨(some 27), (.fa 2 (.tmp 26)), none⟩,
 ⟨none, (.st 1 (.tmp 27) (.tmp 24)), none⟩])
 (.seq (.reg [⟨(some 28), (.mv (.tmp 0)), none⟩,
 ⟨(some 29), (.nilc (.tmp 28)), none⟩,
 ⟨(some 30), (.fa 1 (.tmp 29)), none⟩,
 ⟨(some 31), (.fa 1 (.tmp 30)), none⟩,
 ⟨none, (.st 1 (.tmp 31) (.const (.bool true))), none⟩])
 (.seq (.reg [⟨(some 32), (.mv (.tmp 0)), none⟩,
 ⟨(some 33), (.nilc (.tmp 32)), none⟩,
 ⟨(some 34), (.fa 1 (.tmp 33)), none⟩,
 ⟨(some 35), (.fa 3 (.tmp 34)), none⟩,
 ⟨none, (.st 1 (.tmp 35) (.const (.int .i64 0))), none⟩])
 (.seq (.reg [⟨(some 36), (.mv (.tmp 0)), none⟩,
 ⟨(some 37), (.lit 37 0 3 [] []), none⟩,
 ⟨(some 38), (.mv (.tmp 1)), none⟩,
 ⟨(some 39), (.app 37 3 40 (.tmp 37) (.tmp 38)), none⟩,
 ⟨(some 40), (.nilc (.tmp 36)), none⟩,
 ⟨(some 41), (.fa 7 (.tmp 40)), none⟩,
 ⟨none, (.st 1 (.tmp 41) (.tmp 39)), none⟩])
 (.seq (.reg [⟨(some 42), (.mv (.tmp 0)), none⟩,
 ⟨(some 43), (.call 76 [(.tmp 42)]), none⟩,
 ⟨none, (.st 16 (.tmp 4) (.tmp 43)), none⟩,
 ⟨(some 5), (.mv (.const (.int .i64 0))), none⟩])
 .ret)))))))))
def r52 : List RV := [.agg 4 16, .tmp 5]
theorem ok52 : FnOk Tryd.prog 52 44 c52 r52 := ⟨[25, 24], _, _, Tryd.func52, rfl, rfl, by kernel_rfl, by kernel_rfl, by kernel_rfl⟩
/-- vouch/vouchref13.Same -/
def c53 : C := (.seq (.reg [⟨(some 2), (.box 33 (.tmp 0)), none⟩,
 ⟨(some 3), (.box 33 (.tmp 1)), none⟩,
 ⟨(some 4), (.mv (.const (.bool false))), none⟩])
 (.seq (.seq (.reg [⟨(some 6), (.fa 0 (.tmp 2)), none⟩,
 ⟨(some 7), (.ld none (.tmp 6)), none⟩,
 ⟨(some 8), (.fa 0 (.tmp 3)), none⟩,
 ⟨(some 9), (.ld none (.tmp 8)), none⟩,
 ⟨(some 10), (.bin .neq (.tmp 7) (.tmp 9)), none⟩,
 ⟨(some 11), (.mv (.tmp 10)), none⟩,
 ⟨(some 12), (.fa 1 (.tmp 2)), (some (11, false))⟩,
 ⟨(some 13), (.ld none (.tmp 12)), (some (11, false))⟩,
 ⟨(some 14), (.fa 1 (.tmp 3)), (some (11, false))⟩,
 ⟨(some 15), (.ld none (.tmp 14)), (some (11, false))⟩,
 ⟨(some 16), (.bin .neq (.tmp 13) (.tmp 15)), (some (11, false))⟩,
 ⟨(some 17), (.pick (.tmp 11) (.const (.bool true)) (.tmp 16)), none⟩,
 ⟨(some 18), (.mv (.tmp 17)), none⟩,
 ⟨(some 19), (.fa 2 (.tmp 2)), (some (18, false))⟩,
 ⟨(some 20), (.ld none (.tmp 19)), (some (18, false))⟩,
 ⟨(some 21), (.fa 2 (.tmp 3)), (some (18, false))⟩,
 ⟨(some 22), (.ld none (.tmp 21)), (some (18, false))⟩,
 ⟨(some 23), (.bin .neq (.tmp 20) (.tmp 22)), (some (18, false))⟩,
 ⟨(some 24), (.pick (.tmp 18) (.const (.bool true)) (.tmp 23)), none⟩,
 ⟨(some 25), (.mv (.tmp 24)), none⟩,
 ⟨(some 26), (.fa 3 (.tmp 2)), (some (25, false))⟩,
 ⟨(some 27), (.ld none (.tmp 26)), (some (25, false))⟩,
 ⟨(some 28), (.fa 3 (.tmp 3)), (some (25, false))⟩,
 ⟨(some 29), (.ld none (.tmp 28)), (some (25, false))⟩,
 ⟨(some 30), (.bin .neq (.tmp 27) (.tmp 29)), (some (25, false))⟩,
 ⟨(some 31), (.pick (.tmp 25) (.const (.bool true)) (.tmp 30)), none⟩,
 ⟨(some 32), (.mv (.tmp 31)), none⟩,
 ⟨(some 33), (.fa 4 (.tmp 2)), (some (32, false))⟩,
 ⟨(some 34), (.ld none (.tmp 33)), (some (32, false))⟩,
 ⟨(some 35), (.fa 4 (.tmp 3)), (some (32, false))⟩,
 ⟨(some 36), (.ld none (.tmp 35)), (some (32, false))⟩,
 ⟨(some 37), (.bin .neq (.tmp 34) (.tmp 36)), (some (32, false))⟩,
 ⟨(some 38), (.pick (.tmp 32) (.const (.bool true)) (.tmp 37)), none⟩,
 ⟨(some 39), (.mv (.tmp 38)), none⟩,
 ⟨(some 40), (.fa 5 (.tmp 2)), (some (39, false))⟩,
 ⟨(some 41), (.ld none (.tmp 40)), (some (39, false))⟩,
 ⟨(some 42), (.fa 5 (.tmp 3)), (some (39, false))⟩,
 ⟨(some 43), (.ld none (.tmp 42)), (some (39, false))⟩,
 ⟨(some 44), (.bin .neq (.tmp 41) (.tmp 43)), (some (39, false))⟩,
 ⟨(some 45), (.pick (.tmp 39) (.const (.bool true)) (.tmp 44)), none⟩,
 ⟨(some 46), (.mv (.tmp 45)), none⟩,
 ⟨(some 47), (.fa 6 (.tmp 2)), (some (46, false))⟩,
 ⟨(some 48), (.ld none (.tmp 47)), (some (46, false))⟩,
 ⟨(some 49), (.fa 6 (.tmp 3)), (some (46, false))⟩,
 ⟨(some 50), (.ld none (.tmp 49)), (some (46, false))⟩,
 ⟨(some 51), (.bin .neq (.tmp 48) (.tmp 50)), (some (46, false))⟩,
 ⟨(some 52), (.pick (.tmp 46) (.const (.bool true)) (.tmp 51)), none⟩,
 ⟨(some 53), (.mv (.tmp 52)), none⟩,
 ⟨(some 54), (.fa 7 (.tmp 2)), (some (53, false))⟩,
 ⟨(some 55), (.ld (some 2) (.tmp 54)), (some (53, false))⟩,
 ⟨(some 56), (.fa 7 (.tmp 3)), (some (53, false))⟩,
 ⟨(some 57), (.ld (some 2) (.tmp 56)), (some (53, false))⟩,
 ⟨(some 58), (.eqa true [.num, .num] (.tmp 55) (.tmp 57)), (some (53, false))⟩,
 ⟨(some 59), (.pick (.tmp 53) (.const (.bool true)) (.tmp 58)), none⟩,
 ⟨(some 60), (.mv (.tmp 59)), none⟩,
 ⟨(some 61), (.fa 9 (.tmp 2)), (some (60, false))⟩,
 ⟨(some 62), (.ld (some 2) (.tmp 61)), (some (60, false))⟩,
 ⟨(some 63), (.fa 9 (.tmp 3)), (some (60, false))⟩,
 ⟨(some 64), (.ld (some 2) (.tmp 63)), (some (60, false))⟩,
 ⟨(some 65), (.eqa true [.truth, .text] (.tmp 62) (.tmp 64)), (some (60, false))⟩,
 ⟨(some 66), (.pick (.tmp 60) (.const (.bool true)) (.tmp 65)), none⟩,
 ⟨(some 67), (.mv (.tmp 66)), none⟩,
 ⟨(some 68), (.fa 11 (.tmp 2)), (some (67, false))⟩,
 ⟨(some 69), (.ld none (.tmp 68)), (some (67, false))⟩,
 ⟨(some 70), (.fa 11 (.tmp 3)), (some (67, false))⟩,
 ⟨(some 71), (.ld none (.tmp 70)), (some (67, false))⟩,
 ⟨(some 72), (.eqs true .bool (.tmp 69) (.tmp 71)), (some (67, false))⟩,
 ⟨(some 73), (.pick (.tmp 67) (.const (.bool true)) (.tmp 72)), none⟩,
 ⟨(some 74), (.mv (.tmp 73)), none⟩,
 ⟨(some 75), (.fa 12 (.tmp 2)), (some (74, false))⟩,
 ⟨(some 76), (.ld none (.tmp 75)), (some (74, false))⟩,
 ⟨(some 77), (.fa 12 (.tmp 3)), (some (74, false))⟩,
 ⟨(some 78), (.ld none (.tmp 77)), (some (74, false))⟩,
 ⟨(some 79), (.bin .neq (.tmp 76) (.tmp 78)), (some (74, false))⟩,
 ⟨(some 80), (.pick (.tmp 74) (.const (.bool true)) (.tmp 79)), none⟩,
 ⟨(some 81), (.mv (.tmp 80)), none⟩,
 ⟨(some 82), (.fa 13 (.tmp 2)), (some (81, false))⟩,
 ⟨(some 83), (.ld none (.tmp 82)), (some (81, false))⟩,
 ⟨(some 84), (.fa 13 (.tmp 3)), (some (81, false))⟩,
 ⟨(some 85), (.ld none (.tmp 84)), (some (81, false))⟩,
 ⟨(some 86), (.bin .neq (.tmp 83) (.tmp 85)), (some (81, false))⟩,
 ⟨(some 87), (.pick (.tmp 81) (.const (.bool true)) (.tmp 86)), none⟩,
 ⟨(some 88), (.mv (.tmp 87)), none⟩,
 ⟨(some 89), (.fa 14 (.tmp 2)), (some (88, false))⟩,
 ⟨(some 90), (.ld none (.tmp 89)), (some (88, false))⟩,
 ⟨(some 91), (.len true (.tmp 90)), (some (88, false))⟩,
 ⟨(some 92), (.fa 14 (.tmp 3)), (some (88, false))⟩,
 ⟨(some 93), (.ld none (.tmp 92)), (some (88, false))⟩,
 ⟨(some 94), (.len true (.tmp 93)), (some (88, false))⟩,
 ⟨(some 95), (.bin .neq (.tmp 91) (.tmp 94)), (some (88, false))⟩,
 ⟨(some 96), (.pick (.tmp 88) (.const (.bool true)) (.tmp 95)), none⟩,
 ⟨(some 97), (.mv (.tmp 96)), none⟩,
 ⟨(some 98), (.fa 15 (.tmp 2)), (some (97, false))⟩,
 ⟨(some 99), (.ld none (.tmp 98)), (some (97, false))⟩,
 ⟨(some 100), (.len true (.tmp 99)), (some (97, false))⟩,
 ⟨(some 101), (.fa 15 (.tmp 3)), (some (97, false))⟩,
 ⟨(some 102), (.ld none (.tmp 101)), (some (97, false))⟩,
 ⟨(some 103), (.len true (.tmp 102)), (some (97, false))⟩,
 ⟨(some 104), (.bin .neq (.tmp 100) (.tmp 103)), (some (97, false))⟩,
 ⟨(some 105), (.pick (.tmp 97) (.const (.bool true)) (.tmp 104)), none⟩])
 (.cond (.tmp 105) (.seq (.reg [⟨(some 4), (.mv (.const (.bool false))), none⟩])
 .ret)
 .skip))
 (.seq (.seq (.reg [⟨(some 5), (.mv (.const (.int .i64 0))), none⟩])
 (.block 0 (.loop (.seq (.seq (.reg [⟨(some 106), (.mv (.tmp 5)), none⟩,
 ⟨(some 107), (.fa 14 (.tmp 2)), none⟩,
 ⟨(some 108), (.ld none (.tmp 107)), none⟩,
 ⟨(some 109), (.len true (.tmp 108)), none⟩,
 ⟨(some 110), (.bin .lss (.tmp 106) (.tmp 109)), none⟩])
 (.cond (.tmp 110) .skip
 (.exit 0)))
 (.seq (.block 1 (.seq (.draw [⟨⟨(some 113), (.fa 14 (.tmp 2)), none⟩, .p⟩,
 ⟨⟨(some 114), (.ld none (.tmp 113)), none⟩, .l⟩,
 ⟨⟨(some 115), (.mv (.tmp 5)), none⟩, .p⟩,
 ⟨⟨(some 116), (.ia 3 (.tmp 114) (.tmp 115)), none⟩, .p⟩,
 ⟨⟨(some 117), (.ld (some 3) (.tmp 116)), none⟩, .l⟩,
 ⟨⟨(some 118), (.fa 14 (.tmp 3)), none⟩, .p⟩,
 ⟨⟨(some 119), (.ld none (.tmp 118)), none⟩, .l⟩,
 ⟨⟨(some 120), (.mv (.tmp 5)), none⟩, .p⟩,
 ⟨⟨(some 121), (.ia 3 (.tmp 119) (.tmp 120)), none⟩, .p⟩,
 ⟨⟨(some 122), (.ld (some 3) (.tmp 121)), none⟩, .l⟩,
 ⟨⟨(some 123), (.eqa true [.text, .truth, .text] (.tmp 117) (.tmp 122)), none⟩, .p⟩])
 (.cond (.tmp 123) (.seq (.reg [⟨(some 4), (.mv (.const (.bool false))), none⟩])
 .ret)
 .skip)))
 (.reg [⟨(some 111), (.mv (.tmp 5)), none⟩,
 ⟨(some 112), (.bin .add (.tmp 111) (.const (.int .i64 1))), none⟩,
 ⟨(some 5), (.mv (.tmp 112)), none⟩]))))))
 (.seq (.reg [⟨(some 124), (.fa 15 (.tmp 2)), none⟩,
 ⟨(some 125), (.ld none (.tmp 124)), none⟩,
 ⟨(some 126), (.fa 15 (.tmp 3)), none⟩,
 ⟨(some 127), (.ld none (.tmp 126)), none⟩,
 ⟨(some 128), (.call 77 [(.tmp 125), (.tmp 127)]), none⟩,
 ⟨(some 4), (.mv (.tmp 128)), none⟩])
 .ret))))
def r53 : List RV := [.tmp 4]
theorem ok53 : FnOk Tryd.prog 53 129 c53 r53 := ⟨[25, 24], _, _, Tryd.func53, rfl, rfl, by kernel_rfl, by kernel_rfl, by kernel_rfl⟩
/-- (*vouch/vouchref16.Session).Again -/
def c54 : C := (.seq (.reg [⟨(some 4), (.new 33 [.int .i64 (0), .int .i64 (0), .int .i64 (0), .int .i64 (0), .int .i64 (0), .int .i64 (0), .string ⟨#[]⟩, .int .i64 (0), .int .i64 (0), .bool false, .string ⟨#[]⟩, .bool false, .int .i64 (0), .int .i64 (0), .slice none 0 0, .slice none 0 0]), none⟩,
 ⟨(some 5), (.mv (.const (.int .i64 0))), none⟩])
 (.seq (.seq (.reg [⟨(some 6), (.mv (.tmp 0)), none⟩,
 ⟨(some 7), (.nilc (.tmp 6)), none⟩,
 ⟨(some 8), (.fa 1 (.tmp 7)), none⟩,
 ⟨(some 9), (.fa 1 (.tmp 8)), none⟩,
 ⟨(some 10), (.ld none (.tmp 9)), none⟩,
 ⟨(some 11), (.nt (.tmp 10)), none⟩])
 (.cond (.tmp 11) (.seq (.reg [⟨(some 12), (.bld [.int .i64 (0), .int .i64 (0), .int .i64 (0), .int .i64 (0), .int .i64 (0), .int .i64 (0), .string ⟨#[]⟩, .int .i64 (0), .int .i64 (0), .bool false, .string ⟨#[]⟩, .bool false, .int .i64 (0), .int .i64 (0), .slice none 0 0, .slice none 0 0] []), none⟩,
 ⟨none, (.st 16 (.tmp 4) (.tmp 12)), none⟩,
 ⟨(some 5), (.mv (.const (.int .i64 3))), none⟩])
 .ret)
 .skip))
 (.seq (.seq (.reg [⟨(some 13), (.mv (.tmp 0)), none⟩,
 ⟨(some 14), (.nilc (.tmp 13)), none⟩,
 ⟨(some 15), (.fa 1 (.tmp 14)), none⟩,
 ⟨(some 16), (.fa 3 (.tmp 15)), none⟩,
 ⟨(some 17), (.ld none (.tmp 16)), none⟩,
 ⟨(some 18), (.mv (.tmp 1)), none⟩,
 ⟨(some 19), (.bin .geq (.tmp 17) (.tmp 18)), none⟩])
 (.cond (.tmp 19) (.seq (.reg [⟨(some 20), (.mv (.tmp 0)), none⟩,
 ⟨(some 21), (.nilc (.tmp 20)), none⟩,
 ⟨(some 22), (.fa 1 (.tmp 21)), none⟩,
 ⟨(some 23), (.fa 1 (.tmp 22)), none⟩,
 ⟨none, (.st 1 (.tmp 23) (.const (.bool false))), none⟩])
 (.seq (.reg [⟨(some 24), (.mv (.tmp 0)), none⟩,
 ⟨(some 25), (.nilc (.tmp 24)), none⟩,
 ⟨(some 26), (.fa 1 (.tmp 25)), none⟩,
 ⟨(some 27), (.fa 3 (.tmp 26)), none⟩,
 ⟨none, (.st 1 (.tmp 27) (.const (.int .i64 0))), none⟩])
 (.seq (.reg [⟨(some 28), (.mv (.tmp 0)), none⟩,
 ⟨(some 29), (.nilc (.tmp 28)), none⟩,
 ⟨(some 30), (.fa 1 (.tmp 29)), none⟩,
 ⟨(some 31), (.fa 5 (.tmp 30)), none⟩,
 ⟨none, (.st 1 (.tmp 31) (.const (.int .i64 41))), none⟩])
 (.seq (.reg [⟨(some 32), (.bld [.int .i64 (0), .int .i64 (0), .int .i64 (0), .int .i64 (0), .int .i64 (0), .int .i64 (0), .string ⟨#[]⟩, .int .i64 (0), .int .i64 (0), .bool false, .string ⟨#[]⟩, .bool false, .int .i64 (0), .int .i64 (0), .slice none 0 0, .slice none 0 0] []), none⟩,
 ⟨none, (.st 16 (.tmp 4) (.tmp 32)), none⟩,
 ⟨(some 5), (.mv (.const (.int .i64 41))), none⟩])
 .ret))))
 .skip))
 (.seq (.reg [⟨(some 33), (.mv (.tmp 0)), none⟩,
 ⟨(some 34), (.nilc (.tmp 33)), none⟩,
 ⟨(some 35), (.fa 1 (.tmp 34)), none⟩,
 ⟨(some 36), (.fa 3 (.tmp 35)), none⟩,
 ⟨(some 37), (.ld none (.tmp 36)), none⟩,
 ⟨(some 38), (.bin .add (.tmp 37) (.const (.int .i64 1))), none⟩,
 ⟨(some 39), (.nilc (.tmp 33)), none⟩,
 ⟨(some 40), (.fa 1 (.tmp 39)), none⟩,
 ⟨(some 41), (.fa 3 (.tmp 40)), none⟩,
 ⟨none, (.st 1 (.tmp 41) (.tmp 38)), none⟩])
 (.seq (.reg [⟨(some 42), (.mv (.tmp 0)), none⟩,
 ⟨(some 43), (.call 76 [(.tmp 42)]), none⟩,
 ⟨none, (.st 16 (.tmp 4) (.tmp 43)), none⟩,
 ⟨(some 5), (.mv (.const (.int .i64 0))), none⟩])
 .ret)))))
def r54 : List RV := [.agg 4 16, .tmp 5]
theorem ok54 : FnOk Tryd.prog 54 44 c54 r54 := ⟨[25, 24], _, _, Tryd.func54, rfl, rfl, by kernel_rfl, by kernel_rfl, by kernel_rfl⟩
/-- (*vouch/vouchref16.Session).Ack -/
def c55 : C := (.seq (.reg [⟨(some 3), (.box 33 (.tmp 1)), none⟩,
 ⟨(some 4), (.mv (.const (.bool false))), none⟩])
 (.seq (.seq (.draw [⟨⟨(some 5), (.mv (.tmp 0)), none⟩, .p⟩,
 ⟨⟨(some 6), (.nilc (.tmp 5)), none⟩, .p⟩,
 ⟨⟨(some 7), (.fa 1 (.tmp 6)), none⟩, .p⟩,
 ⟨⟨(some 8), (.fa 1 (.tmp 7)), none⟩, .p⟩,
 ⟨⟨(some 9), (.ld none (.tmp 8)), none⟩, .l⟩,
 ⟨⟨(some 10), (.nt (.tmp 9)), none⟩, .p⟩,
 ⟨⟨(some 11), (.mv (.tmp 10)), none⟩, .p⟩,
 ⟨⟨(some 12), (.fa 0 (.tmp 3)), (some (11, false))⟩, .p⟩,
 ⟨⟨(some 13), (.ld none (.tmp 12)), (some (11, false))⟩, .l⟩,
 ⟨⟨(some 14), (.bin .neq (.tmp 13) (.const (.int .i64 2))), (some (11, false))⟩, .p⟩,
 ⟨⟨(some 15), (.pick (.tmp 11) (.const (.bool true)) (.tmp 14)), none⟩, .p⟩,
 ⟨⟨(some 16), (.mv (.tmp 15)), none⟩, .p⟩,
 ⟨⟨(some 17), (.fa 3 (.tmp 3)), (some (16, false))⟩, .p⟩,
 ⟨⟨(some 18), (.ld none (.tmp 17)), (some (16, false))⟩, .l⟩,
 ⟨⟨(some 19), (.mv (.tmp 0)), (some (16, false))⟩, .p⟩,
 ⟨⟨(some 20), (.nilc (.tmp 19)), (some (16, false))⟩, .p⟩,
 ⟨⟨(some 21), (.fa 0 (.tmp 20)), (some (16, false))⟩, .p⟩,
 ⟨⟨(some 22), (.ld none (.tmp 21)), (some (16, false))⟩, .l⟩,
 ⟨⟨(some 23), (.bin .neq (.tmp 18) (.tmp 22)), (some (16, false))⟩, .p⟩,
 ⟨⟨(some 24), (.pick (.tmp 16) (.const (.bool true)) (.tmp 23)), none⟩, .p⟩,
 ⟨⟨(some 25), (.mv (.tmp 24)), none⟩, .p⟩,
 ⟨⟨(some 26), (.fa 5 (.tmp 3)), (some (25, false))⟩, .p⟩,
 ⟨⟨(some 27), (.ld none (.tmp 26)), (some (25, false))⟩, .l⟩,
 ⟨⟨(some 28), (.mv (.tmp 0)), (some (25, false))⟩, .p⟩,
 ⟨⟨(some 29), (.nilc (.tmp 28)), (some (25, false))⟩, .p⟩,
 ⟨⟨(some 30), (.fa 1 (.tmp 29)), (some (25, false))⟩, .p⟩,
 ⟨⟨(some 31), (.fa 2 (.tmp 30)), (some (25, false))⟩, .p⟩,
 ⟨⟨(some 32), (.ld none (.tmp 31)), (some (25, false))⟩, .l⟩,
 ⟨⟨(some 33), (.bin .neq (.tmp 27) (.tmp 32)), (some (25, false))⟩, .p⟩,
 ⟨⟨(some 34), (.pick (.tmp 25) (.const (.bool true)) (.tmp 33)), none⟩, .p⟩])
 (.cond (.tmp 34) (.seq (.reg [⟨(some 4), (.mv (.const (.bool false))), none⟩])
 .ret)
 .skip))
 (.seq (.reg [⟨(some 35), (.mv (.tmp 0)), none⟩,
 ⟨(some 36), (.nilc (.tmp 35)), none⟩,
 ⟨(some 37), (.fa 1 (.tmp 36)), none⟩,
 ⟨(some 38), (.fa 1 (.tmp 37)), none⟩,
 ⟨none, (.st 1 (.tmp 38) (.const (.bool false))), none⟩])
 (.seq (.reg [⟨(some 39), (.mv (.tmp 0)), none⟩,
 ⟨(some 40), (.nilc (.tmp 39)), none⟩,
 ⟨(some 41), (.fa 1 (.tmp 40)), none⟩,
 ⟨(some 42), (.fa 3 (.tmp 41)), none⟩,
 ⟨none, (.st 1 (.tmp 42) (.const (.int .i64 0))), none⟩])
 (.seq (.reg [⟨(some 43), (.mv (.tmp 0)), none⟩,
 ⟨(some 44), (.fa 12 (.tmp 3)), none⟩,
 ⟨(some 45), (.ld none (.tmp 44)), none⟩,
 ⟨(some 46), (.nilc (.tmp 43)), none⟩,
 ⟨(some 47), (.fa 1 (.tmp 46)), none⟩,
 ⟨(some 48), (.fa 5 (.tmp 47)), none⟩,
 ⟨none, (.st 1 (.tmp 48) (.tmp 45)), none⟩])
 (.seq (.seq (.reg [⟨(some 49), (.fa 12 (.tmp 3)), none⟩,
 ⟨(some 50), (.ld none (.tmp 49)), none⟩,
 ⟨(some 51), (.bin .eql (.tmp 50) (.const (.int .i64 0))), none⟩])
 (.cond (.tmp 51) (.seq (.reg [⟨(some 52), (.mv (.tmp 0)), none⟩,
 ⟨(some 53), (.fa 13 (.tmp 3)), none⟩,
 ⟨(some 54), (.ld none (.tmp 53)), none⟩,
 ⟨(some 55), (.nilc (.tmp 52)), none⟩,
 ⟨(some 56), (.fa 1 (.tmp 55)), none⟩,
 ⟨(some 57), (.fa 4 (.tmp 56)), none⟩,
 ⟨none, (.st 1 (.tmp 57) (.tmp 54)), none⟩])
 (.reg [⟨(some 58), (.mv (.tmp 0)), none⟩,
 ⟨(some 59), (.fa 13 (.tmp 3)), none⟩,
 ⟨(some 60), (.ld none (.tmp 59)), none⟩,
 ⟨(some 61), (.call 56 [(.tmp 58), (.tmp 60)]), none⟩]))
 .skip))
 (.seq (.reg [⟨(some 4), (.mv (.const (.bool true))), none⟩])
 .ret)))))))
def r55 : List RV := [.tmp 4]
theorem ok55 : FnOk Tryd.prog 55 62 c55 r55 := ⟨[25, 24], _, _, Tryd.func55, rfl, rfl, by kernel_rfl, by kernel_rfl, by kernel_rfl⟩
/-- (*vouch/vouchref16.Session).Raise -/
def c56 : C := (.seq (.reg [⟨(some 4), (.mv (.tmp 1)), none⟩,
 ⟨(some 5), (.mv (.tmp 0)), none⟩,
 ⟨(some 6), (.nilc (.tmp 5)), none⟩,
 ⟨(some 7), (.fa 1 (.tmp 6)), none⟩,
 ⟨(some 8), (.fa 0 (.tmp 7)), none⟩,
 ⟨(some 9), (.ld none (.tmp 8)), none⟩,
 ⟨(some 10), (.bin .gtr (.tmp 4) (.tmp 9)), none⟩,
 ⟨(some 11), (.mv (.tmp 10)), none⟩,
 ⟨(some 12), (.mv (.tmp 1)), (some (11, true))⟩,
 ⟨(some 13), (.bin .leq (.tmp 12) (.const (.int .i64 1099511627776))), (some (11, true))⟩,
 ⟨(some 14), (.pick (.tmp 11) (.tmp 13) (.const (.bool false))), none⟩])
 (.cond (.tmp 14) (.reg [⟨(some 15), (.mv (.tmp 0)), none⟩,
 ⟨(some 16), (.mv (.tmp 1)), none⟩,
 ⟨(some 17), (.nilc (.tmp 15)), none⟩,
 ⟨(some 18), (.fa 1 (.tmp 17)), none⟩,
 ⟨(some 19), (.fa 0 (.tmp 18)), none⟩,
 ⟨none, (.st 1 (.tmp 19) (.tmp 16)), none⟩])
 .skip))
def r56 : List RV := []
theorem ok56 : FnOk Tryd.prog 56 20 c56 r56 := ⟨[25, 24], _, _, Tryd.func56, rfl, rfl, by kernel_rfl, by kernel_rfl, by kernel_rfl⟩
/-- (*vouch/vouchref16.Session).Join -/
def c57 : C := (.seq (.reg [⟨(some 4), (.mv (.const (.int .i64 0))), none⟩])
 (.seq (.reg [⟨(some 8), (.mv (.tmp 1)), none⟩,
 ⟨(some 9), (.call 22 [(.tmp 8)]), none⟩,
 ⟨(some 7), (.mv (.tmp 9)), none⟩,
 ⟨(some 10), (.ext 0 (.tmp 7)), none⟩,
 ⟨(some 11), (.ext 1 (.tmp 7)), none⟩,
 ⟨(some 5), (.mv (.tmp 10)), none⟩,
 ⟨(some 6), (.mv (.tmp 11)), none⟩])
 (.seq (.seq (.reg [⟨(some 12), (.mv (.tmp 6)), none⟩,
 ⟨(some 13), (.bin .eql (.tmp 12) (.const (.int .i64 0))), none⟩])
 (.cond (.tmp 13) (.reg [⟨(some 14), (.mv (.tmp 0)), none⟩,
 ⟨(some 15), (.mv (.tmp 5)), none⟩,
 ⟨(some 16), (.call 56 [(.tmp 14), (.tmp 15)]), none⟩])
 .skip))
 (.seq (.reg [⟨(some 17), (.mv (.tmp 6)), none⟩,
 ⟨(some 4), (.mv (.tmp 17)), none⟩])
 .ret))))
def r57 : List RV := [.tmp 4]
theorem ok57 : FnOk Tryd.prog 57 18 c57 r57 := ⟨[25, 24], _, _, Tryd.func57, rfl, rfl, by kernel_rfl, by kernel_rfl, by kernel_rfl⟩
/-- vouch/store.check -/
def c70 : C := (.seq (.reg [⟨(some 2), (.mv (.const (.int .i64 0))), none⟩])
 (.seq (.seq (.reg [⟨(some 9), (.mv (.tmp 0)), none⟩,
 ⟨(some 10), (.len true (.tmp 9)), none⟩,
 ⟨(some 11), (.bin .eql (.tmp 10) (.const (.int .i64 0))), none⟩,
 ⟨(some 12), (.mv (.tmp 11)), none⟩,
 ⟨(some 13), (.mv (.tmp 0)), (some (12, false))⟩,
 ⟨(some 14), (.len true (.tmp 13)), (some (12, false))⟩,
 ⟨(some 15), (.bin .gtr (.tmp 14) (.const (.int .i64 8))), (some (12, false))⟩,
 ⟨(some 16), (.pick (.tmp 12) (.const (.bool true)) (.tmp 15)), none⟩])
 (.cond (.tmp 16) (.seq (.reg [⟨(some 2), (.mv (.const (.int .i64 1))), none⟩])
 .ret)
 .skip))
 (.seq (.reg [⟨(some 17), .mkmap, none⟩,
 ⟨(some 3), (.mv (.tmp 17)), none⟩])
 (.seq (.reg [⟨(some 4), (.mv (.const (.bool false))), none⟩])
 (.seq (.seq (.reg [⟨(some 18), (.mv (.tmp 0)), none⟩,
 ⟨(some 19), (.len true (.tmp 18)), none⟩,
 ⟨(some 20), (.mv (.const (.int .i64 0))), none⟩])
 (.block 0 (.loop (.seq (.reg [⟨(some 21), (.bin .lss (.tmp 20) (.tmp 19)), none⟩])
 (.seq (.cond (.tmp 21) .skip
 (.exit 0))
 (.seq (.block 1 (.seq (.reg [⟨(some 22), (.mv (.tmp 20)), none⟩,
 ⟨(some 23), (.ia 3 (.tmp 18) (.tmp 20)), none⟩,
 ⟨(some 24), (.ld (some 3) (.tmp 23)), none⟩,
 ⟨(some 6), (.new 37 [.string ⟨#[]⟩, .bool false, .string ⟨#[]⟩]), none⟩,
 ⟨(some 5), (.mv (.tmp 22)), none⟩,
 ⟨none, (.st 3 (.tmp 6) (.tmp 24)), none⟩])
 (.seq (.seq (.reg [⟨(some 25), (.ld (some 3) (.tmp 6)), none⟩,
 ⟨(some 26), (.call 85 [(.tmp 25)]), none⟩,
 ⟨(some 27), (.nt (.tmp 26)), none⟩])
 (.cond (.tmp 27) (.seq (.reg [⟨(some 2), (.mv (.const (.int .i64 1))), none⟩])
 .ret)
 .skip))
 (.seq (.reg [⟨(some 29), (.mv (.tmp 3)), none⟩,
 ⟨(some 30), (.fa 0 (.tmp 6)), none⟩,
 ⟨(some 31), (.ld none (.tmp 30)), none⟩,
 ⟨(some 32), (.look true (.int .i64 (0)) (.tmp 29) (.tmp 31)), none⟩,
 ⟨(some 28), (.mv (.tmp 32)), none⟩,
 ⟨(some 33), (.ext 0 (.tmp 28)), none⟩,
 ⟨(some 34), (.ext 1 (.tmp 28)), none⟩,
 ⟨(some 7), (.mv (.tmp 33)), none⟩,
 ⟨(some 8), (.mv (.tmp 34)), none⟩])
 (.seq (.reg [⟨(some 35), (.mv (.tmp 4)), none⟩,
 ⟨(some 36), (.mv (.tmp 35)), none⟩,
 ⟨(some 37), (.mv (.tmp 8)), (some (36, false))⟩,
 ⟨(some 38), (.pick (.tmp 36) (.const (.bool true)) (.tmp 37)), none⟩,
 ⟨(some 4), (.mv (.tmp 38)), none⟩])
 (.reg [⟨(some 39), (.mv (.tmp 3)), none⟩,
 ⟨(some 40), (.fa 0 (.tmp 6)), none⟩,
 ⟨(some 41), (.ld none (.tmp 40)), none⟩,
 ⟨(some 42), (.mv (.tmp 5)), none⟩,
 ⟨none, (.mset (.tmp 39) (.tmp 41) (.tmp 42)), none⟩]))))))
 (.reg [⟨(some 43), (.bin .add (.tmp 20) (.const (.int .i64 1))), none⟩,
 ⟨(some 20), (.mv (.tmp 43)), none⟩])))))))
 (.seq (.seq (.reg [⟨(some 44), (.mv (.tmp 4)), none⟩])
 (.cond (.tmp 44) (.seq (.reg [⟨(some 2), (.mv (.const (.int .i64 22))), none⟩])
 .ret)
 .skip))
 (.seq (.reg [⟨(some 2), (.mv (.const (.int .i64 0))), none⟩])
 .ret)))))))
def r70 : List RV := [.tmp 2]
theorem ok70 : FnOk Tryd.prog 70 45 c70 r70 := ⟨[25, 24], _, _, Tryd.func70, rfl, rfl, by kernel_rfl, by kernel_rfl, by kernel_rfl⟩
/-- slices.Clone[[]vouch/api.Version,vouch/api.Version] -/
def c71 : C := (.seq (.reg [⟨(some 2), (.mv (.const (.slice none 0 0))), none⟩])
 (.seq (.seq (.reg [⟨(some 3), (.mv (.tmp 0)), none⟩,
 ⟨(some 4), (.eqs false .slice (.tmp 3) (.const (.slice none 0 0))), none⟩])
 (.cond (.tmp 4) (.seq (.reg [⟨(some 2), (.mv (.const (.slice none 0 0))), none⟩])
 .ret)
 .skip))
 (.seq (.reg [⟨(some 5), (.lit 144 0 3 [] []), none⟩,
 ⟨(some 6), (.mv (.tmp 0)), none⟩,
 ⟨(some 7), (.app 144 3 32 (.tmp 5) (.tmp 6)), none⟩,
 ⟨(some 2), (.mv (.tmp 7)), none⟩])
 .ret)))
def r71 : List RV := [.tmp 2]
theorem ok71 : FnOk Tryd.prog 71 8 c71 r71 := ⟨[25, 24], _, _, Tryd.func71, rfl, rfl, by kernel_rfl, by kernel_rfl, by kernel_rfl⟩
/-- vouch/vouchref05.Check -/
def c75 : C := (.seq (.reg [⟨(some 2), (.mv (.const (.int .i64 0))), none⟩])
 (.seq (.seq (.reg [⟨(some 6), (.mv (.tmp 0)), none⟩,
 ⟨(some 7), (.len true (.tmp 6)), none⟩,
 ⟨(some 8), (.bin .lss (.tmp 7) (.const (.int .i64 1))), none⟩,
 ⟨(some 9), (.mv (.tmp 8)), none⟩,
 ⟨(some 10), (.mv (.tmp 0)), (some (9, false))⟩,
 ⟨(some 11), (.len true (.tmp 10)), (some (9, false))⟩,
 ⟨(some 12), (.bin .gtr (.tmp 11) (.const (.int .i64 8))), (some (9, false))⟩,
 ⟨(some 13), (.pick (.tmp 9) (.const (.bool true)) (.tmp 12)), none⟩])
 (.cond (.tmp 13) (.seq (.reg [⟨(some 2), (.mv (.const (.int .i64 1))), none⟩])
 .ret)
 .skip))
 (.seq (.seq (.reg [⟨(some 3), (.mv (.const (.int .i64 0))), none⟩])
 (.block 0 (.loop (.seq (.seq (.reg [⟨(some 14), (.mv (.tmp 3)), none⟩,
 ⟨(some 15), (.mv (.tmp 0)), none⟩,
 ⟨(some 16), (.len true (.tmp 15)), none⟩,
 ⟨(some 17), (.bin .lss (.tmp 14) (.tmp 16)), none⟩])
 (.cond (.tmp 17) .skip
 (.exit 0)))
 (.seq (.block 1 (.seq (.reg [⟨(some 20), (.mv (.tmp 0)), none⟩,
 ⟨(some 21), (.mv (.tmp 3)), none⟩,
 ⟨(some 22), (.ia 3 (.tmp 20) (.tmp 21)), none⟩,
 ⟨(some 23), (.fa 0 (.tmp 22)), none⟩,
 ⟨(some 24), (.ld none (.tmp 23)), none⟩,
 ⟨(some 25), (.call 95 [(.tmp 24)]), none⟩,
 ⟨(some 26), (.nt (.tmp 25)), none⟩,
 ⟨(some 27), (.mv (.tmp 26)), none⟩,
 ⟨(some 28), (.mv (.tmp 0)), (some (27, false))⟩,
 ⟨(some 29), (.mv (.tmp 3)), (some (27, false))⟩,
 ⟨(some 30), (.ia 3 (.tmp 28) (.tmp 29)), (some (27, false))⟩,
 ⟨(some 31), (.fa 1 (.tmp 30)), (some (27, false))⟩,
 ⟨(some 32), (.ld (some 2) (.tmp 31)), (some (27, false))⟩,
 ⟨(some 33), (.call 96 [(.tmp 32)]), (some (27, false))⟩,
 ⟨(some 34), (.nt (.tmp 33)), (some (27, false))⟩,
 ⟨(some 35), (.pick (.tmp 27) (.const (.bool true)) (.tmp 34)), none⟩])
 (.cond (.tmp 35) (.seq (.reg [⟨(some 2), (.mv (.const (.int .i64 1))), none⟩])
 .ret)
 .skip)))
 (.reg [⟨(some 18), (.mv (.tmp 3)), none⟩,
 ⟨(some 19), (.bin .add (.tmp 18) (.const (.int .i64 1))), none⟩,
 ⟨(some 3), (.mv (.tmp 19)), none⟩]))))))
 (.seq (.seq (.reg [⟨(some 4), (.mv (.const (.int .i64 0))), none⟩])
 (.block 2 (.loop (.seq (.seq (.reg [⟨(some 36), (.mv (.tmp 4)), none⟩,
 ⟨(some 37), (.mv (.tmp 0)), none⟩,
 ⟨(some 38), (.len true (.tmp 37)), none⟩,
 ⟨(some 39), (.bin .lss (.tmp 36) (.tmp 38)), none⟩])
 (.cond (.tmp 39) .skip
 (.exit 2)))
 (.seq (.block 3 (.seq (.reg [⟨(some 5), (.mv (.const (.int .i64 0))), none⟩])
 (.block 4 (.loop (.seq (.seq (.reg [⟨(some 42), (.mv (.tmp 5)), none⟩,
 ⟨(some 43), (.mv (.tmp 4)), none⟩,
 ⟨(some 44), (.bin .lss (.tmp 42) (.tmp 43)), none⟩])
 (.cond (.tmp 44) .skip
 (.exit 4)))
 (.seq (.block 5 (.seq (.draw [⟨⟨(some 47), (.mv (.tmp 0)), none⟩, .p⟩,
 ⟨⟨(some 48), (.mv (.tmp 5)), none⟩, .p⟩,
 ⟨⟨(some 49), (.ia 3 (.tmp 47) (.tmp 48)), none⟩, .p⟩,
 ⟨⟨(some 50), (.fa 0 (.tmp 49)), none⟩, .p⟩,
 ⟨⟨(some 51), (.ld none (.tmp 50)), none⟩, .l⟩,
 ⟨⟨(some 52), (.mv (.tmp 0)), none⟩, .p⟩,
 ⟨⟨(some 53), (.mv (.tmp 4)), none⟩, .p⟩,
 ⟨⟨(some 54), (.ia 3 (.tmp 52) (.tmp 53)), none⟩, .p⟩,
 ⟨⟨(some 55), (.fa 0 (.tmp 54)), none⟩, .p⟩,
 ⟨⟨(some 56), (.ld none (.tmp 55)), none⟩, .l⟩,
 ⟨⟨(some 57), (.bin .eql (.tmp 51) (.tmp 56)), none⟩, .p⟩])
 (.cond (.tmp 57) (.seq (.reg [⟨(some 2), (.mv (.const (.int .i64 22))), none⟩])
 .ret)
 .skip)))
 (.reg [⟨(some 45), (.mv (.tmp 5)), none⟩,
 ⟨(some 46), (.bin .add (.tmp 45) (.const (.int .i64 1))), none⟩,
 ⟨(some 5), (.mv (.tmp 46)), none⟩])))))))
 (.reg [⟨(some 40), (.mv (.tmp 4)), none⟩,
 ⟨(some 41), (.bin .add (.tmp 40) (.const (.int .i64 1))), none⟩,
 ⟨(some 4), (.mv (.tmp 41)), none⟩]))))))
 (.seq (.reg [⟨(some 2), (.mv (.const (.int .i64 0))), none⟩])
 .ret)))))
def r75 : List RV := [.tmp 2]
theorem ok75 : FnOk Tryd.prog 75 58 c75 r75 := ⟨[25, 24], _, _, Tryd.func75, rfl, rfl, by kernel_rfl, by kernel_rfl, by kernel_rfl⟩
/-- (*vouch/vouchref16.Session).message -/
def c76 : C := (.seq (.reg [⟨(some 2), (.new 33 [.int .i64 (0), .int .i64 (0), .int .i64 (0), .int .i64 (0), .int .i64 (0), .int .i64 (0), .string ⟨#[]⟩, .int .i64 (0), .int .i64 (0), .bool false, .string ⟨#[]⟩, .bool false, .int .i64 (0), .int .i64 (0), .slice none 0 0, .slice none 0 0]), none⟩])
 (.seq (.draw [⟨⟨(some 3), (.mv (.tmp 0)), none⟩, .p⟩,
 ⟨⟨(some 4), (.nilc (.tmp 3)), none⟩, .p⟩,
 ⟨⟨(some 5), (.fa 0 (.tmp 4)), none⟩, .p⟩,
 ⟨⟨(some 6), (.ld none (.tmp 5)), none⟩, .l⟩,
 ⟨⟨(some 7), (.mv (.tmp 0)), none⟩, .p⟩,
 ⟨⟨(some 8), (.nilc (.tmp 7)), none⟩, .p⟩,
 ⟨⟨(some 9), (.fa 1 (.tmp 8)), none⟩, .p⟩,
 ⟨⟨(some 10), (.fa 2 (.tmp 9)), none⟩, .p⟩,
 ⟨⟨(some 11), (.ld none (.tmp 10)), none⟩, .l⟩,
 ⟨⟨(some 12), (.lit 37 0 3 [] []), none⟩, .f⟩,
 ⟨⟨(some 13), (.mv (.tmp 0)), none⟩, .p⟩,
 ⟨⟨(some 14), (.nilc (.tmp 13)), none⟩, .p⟩,
 ⟨⟨(some 15), (.fa 7 (.tmp 14)), none⟩, .p⟩,
 ⟨⟨(some 16), (.ld none (.tmp 15)), none⟩, .l⟩,
 ⟨⟨(some 17), (.app 37 3 40 (.tmp 12) (.tmp 16)), none⟩, .w⟩,
 ⟨⟨(some 18), (.bld [.int .i64 (0), .int .i64 (0), .int .i64 (0), .int .i64 (0), .int .i64 (0), .int .i64 (0), .string ⟨#[]⟩, .int .i64 (0), .int .i64 (0), .bool false, .string ⟨#[]⟩, .bool false, .int .i64 (0), .int .i64 (0), .slice none 0 0, .slice none 0 0] [(0, 1, (.const (.int .i64 1))), (3, 1, (.tmp 6)), (5, 1, (.tmp 11)), (14, 1, (.tmp 17))]), none⟩, .p⟩,
 ⟨⟨none, (.st 16 (.tmp 2) (.tmp 18)), none⟩, .m⟩])
 .ret))
def r76 : List RV := [.agg 2 16]
theorem ok76 : FnOk Tryd.prog 76 19 c76 r76 := ⟨[25, 24], _, _, Tryd.func76, rfl, rfl, by kernel_rfl, by kernel_rfl, by kernel_rfl⟩
/-- vouch/vouchref05.SameTexts -/
def c77 : C := (.seq (.reg [⟨(some 4), (.mv (.const (.bool false))), none⟩])
 (.seq (.seq (.reg [⟨(some 6), (.mv (.tmp 0)), none⟩,
 ⟨(some 7), (.len true (.tmp 6)), none⟩,
 ⟨(some 8), (.mv (.tmp 1)), none⟩,
 ⟨(some 9), (.len true (.tmp 8)), none⟩,
 ⟨(some 10), (.bin .neq (.tmp 7) (.tmp 9)), none⟩])
 (.cond (.tmp 10) (.seq (.reg [⟨(some 4), (.mv (.const (.bool false))), none⟩])
 .ret)
 .skip))
 (.seq (.seq (.reg [⟨(some 5), (.mv (.const (.int .i64 0))), none⟩])
 (.block 0 (.loop (.seq (.seq (.reg [⟨(some 11), (.mv (.tmp 5)), none⟩,
 ⟨(some 12), (.mv (.tmp 0)), none⟩,
 ⟨(some 13), (.len true (.tmp 12)), none⟩,
 ⟨(some 14), (.bin .lss (.tmp 11) (.tmp 13)), none⟩])
 (.cond (.tmp 14) .skip
 (.exit 0)))
 (.seq (.block 1 (.seq (.draw [⟨⟨(some 17), (.mv (.tmp 0)), none⟩, .p⟩,
 ⟨⟨(some 18), (.mv (.tmp 5)), none⟩, .p⟩,
 ⟨⟨(some 19), (.ia 1 (.tmp 17) (.tmp 18)), none⟩, .p⟩,
 ⟨⟨(some 20), (.ld none (.tmp 19)), none⟩, .l⟩,
 ⟨⟨(some 21), (.mv (.tmp 1)), none⟩, .p⟩,
 ⟨⟨(some 22), (.mv (.tmp 5)), none⟩, .p⟩,
 ⟨⟨(some 23), (.ia 1 (.tmp 21) (.tmp 22)), none⟩, .p⟩,
 ⟨⟨(some 24), (.ld none (.tmp 23)), none⟩, .l⟩,
 ⟨⟨(some 25), (.bin .neq (.tmp 20) (.tmp 24)), none⟩, .p⟩])
 (.cond (.tmp 25) (.seq (.reg [⟨(some 4), (.mv (.const (.bool false))), none⟩])
 .ret)
 .skip)))
 (.reg [⟨(some 15), (.mv (.tmp 5)), none⟩,
 ⟨(some 16), (.bin .add (.tmp 15) (.const (.int .i64 1))), none⟩,
 ⟨(some 5), (.mv (.tmp 16)), none⟩]))))))
 (.seq (.reg [⟨(some 4), (.mv (.const (.bool true))), none⟩])
 .ret))))
def r77 : List RV := [.tmp 4]
theorem ok77 : FnOk Tryd.prog 77 26 c77 r77 := ⟨[25, 24], _, _, Tryd.func77, rfl, rfl, by kernel_rfl, by kernel_rfl, by kernel_rfl⟩
/-- vouch/store.goodWrite -/
def c85 : C := (.seq (.reg [⟨(some 1), (.box 37 (.tmp 0)), none⟩,
 ⟨(some 2), (.mv (.const (.bool false))), none⟩])
 (.seq (.reg [⟨(some 3), (.fa 0 (.tmp 1)), none⟩,
 ⟨(some 4), (.ld none (.tmp 3)), none⟩,
 ⟨(some 5), (.call 100 [(.tmp 4)]), none⟩,
 ⟨(some 6), (.mv (.tmp 5)), none⟩,
 ⟨(some 7), (.fa 1 (.tmp 1)), (some (6, true))⟩,
 ⟨(some 8), (.fa 1 (.tmp 7)), (some (6, true))⟩,
 ⟨(some 9), (.ld none (.tmp 8)), (some (6, true))⟩,
 ⟨(some 10), (.len false (.tmp 9)), (some (6, true))⟩,
 ⟨(some 11), (.bin .leq (.tmp 10) (.const (.int .i64 256))), (some (6, true))⟩,
 ⟨(some 12), (.pick (.tmp 6) (.tmp 11) (.const (.bool false))), none⟩,
 ⟨(some 13), (.mv (.tmp 12)), none⟩,
 ⟨(some 14), (.fa 1 (.tmp 1)), (some (13, true))⟩,
 ⟨(some 15), (.fa 0 (.tmp 14)), (some (13, true))⟩,
 ⟨(some 16), (.ld none (.tmp 15)), (some (13, true))⟩,
 ⟨(some 17), (.mv (.tmp 16)), (some (13, true))⟩,
 ⟨(some 18), (.fa 1 (.tmp 1)), (some (17, false))⟩,
 ⟨(some 19), (.fa 1 (.tmp 18)), (some (17, false))⟩,
 ⟨(some 20), (.ld none (.tmp 19)), (some (17, false))⟩,
 ⟨(some 21), (.bin .eql (.tmp 20) (.const (.string { data := #[] }))), (some (17, false))⟩,
 ⟨(some 22), (.pick (.tmp 17) (.const (.bool true)) (.tmp 21)), (some (13, true))⟩,
 ⟨(some 23), (.pick (.tmp 13) (.tmp 22) (.const (.bool false))), none⟩,
 ⟨(some 2), (.mv (.tmp 23)), none⟩])
 .ret))
def r85 : List RV := [.tmp 2]
theorem ok85 : FnOk Tryd.prog 85 24 c85 r85 := ⟨[25, 24], _, _, Tryd.func85, rfl, rfl, by kernel_rfl, by kernel_rfl, by kernel_rfl⟩
/-- vouch/vouchref05.GoodKey -/
def c95 : C := (.seq (.reg [⟨(some 2), (.mv (.const (.bool false))), none⟩])
 (.seq (.reg [⟨(some 3), (.mv (.tmp 0)), none⟩,
 ⟨(some 4), (.bin .neq (.tmp 3) (.const (.string { data := #[] }))), none⟩,
 ⟨(some 5), (.mv (.tmp 4)), none⟩,
 ⟨(some 6), (.mv (.tmp 0)), (some (5, true))⟩,
 ⟨(some 7), (.len false (.tmp 6)), (some (5, true))⟩,
 ⟨(some 8), (.bin .leq (.tmp 7) (.const (.int .i64 32))), (some (5, true))⟩,
 ⟨(some 9), (.pick (.tmp 5) (.tmp 8) (.const (.bool false))), none⟩,
 ⟨(some 2), (.mv (.tmp 9)), none⟩])
 .ret))
def r95 : List RV := [.tmp 2]
theorem ok95 : FnOk Tryd.prog 95 10 c95 r95 := ⟨[25, 24], _, _, Tryd.func95, rfl, rfl, by kernel_rfl, by kernel_rfl, by kernel_rfl⟩
/-- vouch/vouchref05.GoodValue -/
def c96 : C := (.seq (.reg [⟨(some 1), (.box 28 (.tmp 0)), none⟩,
 ⟨(some 2), (.mv (.const (.bool false))), none⟩])
 (.seq (.seq (.reg [⟨(some 3), (.fa 0 (.tmp 1)), none⟩,
 ⟨(some 4), (.ld none (.tmp 3)), none⟩,
 ⟨(some 5), (.nt (.tmp 4)), none⟩])
 (.cond (.tmp 5) (.seq (.reg [⟨(some 6), (.fa 1 (.tmp 1)), none⟩,
 ⟨(some 7), (.ld none (.tmp 6)), none⟩,
 ⟨(some 8), (.bin .eql (.tmp 7) (.const (.string { data := #[] }))), none⟩,
 ⟨(some 2), (.mv (.tmp 8)), none⟩])
 .ret)
 .skip))
 (.seq (.reg [⟨(some 9), (.fa 1 (.tmp 1)), none⟩,
 ⟨(some 10), (.ld none (.tmp 9)), none⟩,
 ⟨(some 11), (.len false (.tmp 10)), none⟩,
 ⟨(some 12), (.bin .leq (.tmp 11) (.const (.int .i64 256))), none⟩,
 ⟨(some 2), (.mv (.tmp 12)), none⟩])
 .ret)))
def r96 : List RV := [.tmp 2]
theorem ok96 : FnOk Tryd.prog 96 13 c96 r96 := ⟨[25, 24], _, _, Tryd.func96, rfl, rfl, by kernel_rfl, by kernel_rfl, by kernel_rfl⟩
/-- vouch/store.goodKey -/
def c100 : C := (.seq (.reg [⟨(some 2), (.mv (.const (.bool false))), none⟩])
 (.seq (.reg [⟨(some 3), (.mv (.tmp 0)), none⟩,
 ⟨(some 4), (.len false (.tmp 3)), none⟩,
 ⟨(some 5), (.bin .geq (.tmp 4) (.const (.int .i64 1))), none⟩,
 ⟨(some 6), (.mv (.tmp 5)), none⟩,
 ⟨(some 7), (.mv (.tmp 0)), (some (6, true))⟩,
 ⟨(some 8), (.len false (.tmp 7)), (some (6, true))⟩,
 ⟨(some 9), (.bin .leq (.tmp 8) (.const (.int .i64 32))), (some (6, true))⟩,
 ⟨(some 10), (.pick (.tmp 6) (.tmp 9) (.const (.bool false))), none⟩,
 ⟨(some 2), (.mv (.tmp 10)), none⟩])
 .ret))
def r100 : List RV := [.tmp 2]
theorem ok100 : FnOk Tryd.prog 100 11 c100 r100 := ⟨[25, 24], _, _, Tryd.func100, rfl, rfl, by kernel_rfl, by kernel_rfl, by kernel_rfl⟩
end Go.Proofs.YtaoafjlocjjbbaaDoor

-- C1
namespace Go.Proofs.YtaoafjlocjjbbaaDoor
open Go.Sp
set_option linter.unusedSimpArgs false
set_option linter.unusedVariables false
structure Wr where
  key : ByteArray
  has : Bool
  data : ByteArray
def Wr.cells (w : Wr) : List Value := [.string w.key, .bool w.has, .string w.data]
structure SesS where
  id : Int
  floor : Int
  busy : Bool
  seq : Int
  tries : Int
  last : Int
  err : Int
def SesS.cells (S : SesS) (v : Value) : List Value := [.int .i64 S.id, .int .i64 S.floor, .bool S.busy, .int .i64 S.seq, .int .i64 S.tries, .int .i64 S.last, .int .i64 S.err, v]
def SesS.view (S : SesS) : List Value := [.int .i64 S.floor, .bool S.busy, .int .i64 S.seq, .int .i64 S.tries, .int .i64 S.last, .int .i64 S.err]
def goodK (k : ByteArray) : Bool := decide ((k.size : Int) ≥ 1) && decide ((k.size : Int) ≤ 32)
theorem goodKey100 (k : ByteArray) (σ : Hp) : ACalls Tryd.prog 100 #[.string k] σ fun v σ' => v = .bool (goodK k) ∧ σ' = σ := by
  (refine acalls_F ok100 (by simp) ?_; unfold c100 r100; simp (config := { contextual := true, dsimp := false }) only [SesS.cells, SesS.view, Wr.cells, ↓reduceIte, ↓evP, evQ, if_true, if_false, eq_self, binv, eqv, lenv, fillO, splice, fldv, Sp.eqa, eqL, eq1, Nat.reduceAdd, Nat.reduceEqDiff, Nat.reduceLeDiff, Nat.reduceMul, reduceCtorEq, Int.reduceLT, Int.reduceLE, Int.reduceGT, Int.reduceGE, Int.reduceEq, Int.reduceNeg])
  (repeat' (first | (refine condF_split (fun hc => ?_) (fun hc => ?_) <;> (try simp only [Bool.not_eq_true', Bool.not_eq_false', Bool.and_eq_true, Bool.or_eq_false_iff] at hc) <;> (try (simp (config := { contextual := true, dsimp := false }) only [*, SesS.cells, SesS.view, Wr.cells, ↓reduceIte, ↓evP, evQ, if_true, if_false, eq_self, binv, eqv, lenv, fillO, splice, fldv, Sp.eqa, eqL, eq1, Nat.reduceAdd, Nat.reduceEqDiff, Nat.reduceLeDiff, Nat.reduceMul, reduceCtorEq, Int.reduceLT, Int.reduceLE, Int.reduceGT, Int.reduceGE, Int.reduceEq, Int.reduceNeg]))) | (intro _; intros) | ((refine And.intro ?_ ?_; focus (first | omega | (first | exact Sub.refl _ | ((repeat (first | exact Sub.refl _ | (refine Sub.drop ?_ ?_; focus (simp only [none_upd, none_set, not_false_eq_true, true_and, and_true, *]; done)) | refine Sub.both ?_)); done)) | ((simp only [decide_eq_true_eq, decide_eq_false_iff_not] at *); omega) | (simp_all; done) | (simp_all; omega))); (try (simp (config := { contextual := true, dsimp := false }) only [*, SesS.cells, SesS.view, Wr.cells, ↓reduceIte, ↓evP, evQ, if_true, if_false, eq_self, binv, eqv, lenv, fillO, splice, fldv, Sp.eqa, eqL, eq1, Nat.reduceAdd, Nat.reduceEqDiff, Nat.reduceLeDiff, Nat.reduceMul, reduceCtorEq, Int.reduceLT, Int.reduceLE, Int.reduceGT, Int.reduceGE, Int.reduceEq, Int.reduceNeg])))))
  all_goals exact endF_sub (by (first | exact Sub.refl _ | ((repeat (first | exact Sub.refl _ | (refine Sub.drop ?_ ?_; focus (simp only [none_upd, none_set, not_false_eq_true, true_and, and_true, *]; done)) | refine Sub.both ?_)); done))) ⟨by ((try simp only [decide_eq_true_eq, decide_eq_false_iff_not] at *) <;> first | rfl | (simp [goodK]; done) | (simp_all [goodK]; done) | (simp [goodK]; omega) | (simp [goodK]; (rw [Bool.eq_iff_iff]); simp; omega) | (simp_all [goodK] <;> omega) | ((try unfold goodK); (rw [Value.bool.injEq, Bool.eq_iff_iff]); simp <;> omega) | ((try unfold goodK); (repeat' split) <;> simp_all <;> omega) | (simp_all [goodK] <;> (repeat' split) <;> simp_all <;> omega)), rfl⟩
theorem put16 (k d : ByteArray) (σ : Hp) : ACalls Tryd.prog 16 #[.string k, .string d] σ fun v σ' => v = .agg #[.string k, .bool true, .string d] ∧ σ' = σ := by
  (refine acalls_F ok16 (by simp) ?_; unfold c16 r16; simp (config := { contextual := true, dsimp := false }) only [SesS.cells, SesS.view, Wr.cells, ↓reduceIte, ↓evP, evQ, if_true, if_false, eq_self, binv, eqv, lenv, fillO, splice, fldv, Sp.eqa, eqL, eq1, Nat.reduceAdd, Nat.reduceEqDiff, Nat.reduceLeDiff, Nat.reduceMul, reduceCtorEq, Int.reduceLT, Int.reduceLE, Int.reduceGT, Int.reduceGE, Int.reduceEq, Int.reduceNeg])
  (repeat' (first | (refine condF_split (fun hc => ?_) (fun hc => ?_) <;> (try simp only [Bool.not_eq_true', Bool.not_eq_false', Bool.and_eq_true, Bool.or_eq_false_iff] at hc) <;> (try (simp (config := { contextual := true, dsimp := false }) only [*, SesS.cells, SesS.view, Wr.cells, ↓reduceIte, ↓evP, evQ, if_true, if_false, eq_self, binv, eqv, lenv, fillO, splice, fldv, Sp.eqa, eqL, eq1, Nat.reduceAdd, Nat.reduceEqDiff, Nat.reduceLeDiff, Nat.reduceMul, reduceCtorEq, Int.reduceLT, Int.reduceLE, Int.reduceGT, Int.reduceGE, Int.reduceEq, Int.reduceNeg]))) | (intro _; intros) | ((refine And.intro ?_ ?_; focus (first | omega | (first | exact Sub.refl _ | ((repeat (first | exact Sub.refl _ | (refine Sub.drop ?_ ?_; focus (simp only [none_upd, none_set, not_false_eq_true, true_and, and_true, *]; done)) | refine Sub.both ?_)); done)) | ((simp only [decide_eq_true_eq, decide_eq_false_iff_not] at *); omega) | (simp_all; done) | (simp_all; omega))); (try (simp (config := { contextual := true, dsimp := false }) only [*, SesS.cells, SesS.view, Wr.cells, ↓reduceIte, ↓evP, evQ, if_true, if_false, eq_self, binv, eqv, lenv, fillO, splice, fldv, Sp.eqa, eqL, eq1, Nat.reduceAdd, Nat.reduceEqDiff, Nat.reduceLeDiff, Nat.reduceMul, reduceCtorEq, Int.reduceLT, Int.reduceLE, Int.reduceGT, Int.reduceGE, Int.reduceEq, Int.reduceNeg])))))
  all_goals (refine endF_det ?_ ?_; (focus ((try simp only [cond_true, cond_false, *]) <;> ((try simp only [decide_eq_true_eq, decide_eq_false_iff_not] at *) <;> first | rfl | (simp []; done) | (simp_all []; done) | (simp []; omega) | (simp []; (rw [Bool.eq_iff_iff]); simp; omega) | (simp_all [] <;> omega) | ((try unfold id); (rw [Value.bool.injEq, Bool.eq_iff_iff]); simp <;> omega) | ((try unfold id); (repeat' split) <;> simp_all <;> omega) | (simp_all [] <;> (repeat' split) <;> simp_all <;> omega)))); (focus ((try simp only [cond_true, cond_false, set_same, *]); exact (by (first | exact Sub.refl _ | ((repeat (first | exact Sub.refl _ | (refine Sub.drop ?_ ?_; focus (simp only [none_upd, none_set, not_false_eq_true, true_and, and_true, *]; done)) | refine Sub.both ?_)); done))))))
theorem new14 (id : Int) (σ : Hp) : ACalls Tryd.prog 14 #[.int .i64 id] σ fun u σ' => ∃ g, σ g = none ∧ u = .pointer (some ⟨g, 0, none⟩) ∧ σ' = upd σ g (.cells ((⟨id, 0, false, 0, 0, 0, 0⟩ : SesS).cells (.slice none 0 0)) 101) := by
  (refine acalls_F ok14 (by simp) ?_; unfold c14 r14; simp (config := { contextual := true, dsimp := false }) only [SesS.cells, SesS.view, Wr.cells, ↓reduceIte, ↓evP, evQ, if_true, if_false, eq_self, binv, eqv, lenv, fillO, splice, fldv, Sp.eqa, eqL, eq1, Nat.reduceAdd, Nat.reduceEqDiff, Nat.reduceLeDiff, Nat.reduceMul, reduceCtorEq, Int.reduceLT, Int.reduceLE, Int.reduceGT, Int.reduceGE, Int.reduceEq, Int.reduceNeg])
  (repeat' (first | (refine condF_split (fun hc => ?_) (fun hc => ?_) <;> (try simp only [Bool.not_eq_true', Bool.not_eq_false', Bool.and_eq_true, Bool.or_eq_false_iff] at hc) <;> (try (simp (config := { contextual := true, dsimp := false }) only [*, SesS.cells, SesS.view, Wr.cells, ↓reduceIte, ↓evP, evQ, if_true, if_false, eq_self, binv, eqv, lenv, fillO, splice, fldv, Sp.eqa, eqL, eq1, Nat.reduceAdd, Nat.reduceEqDiff, Nat.reduceLeDiff, Nat.reduceMul, reduceCtorEq, Int.reduceLT, Int.reduceLE, Int.reduceGT, Int.reduceGE, Int.reduceEq, Int.reduceNeg]))) | (intro _; intros) | ((refine And.intro ?_ ?_; focus (first | omega | (first | exact Sub.refl _ | ((repeat (first | exact Sub.refl _ | (refine Sub.drop ?_ ?_; focus (simp only [none_upd, none_set, not_false_eq_true, true_and, and_true, *]; done)) | refine Sub.both ?_)); done)) | ((simp only [decide_eq_true_eq, decide_eq_false_iff_not] at *); omega) | (simp_all; done) | (simp_all; omega))); (try (simp (config := { contextual := true, dsimp := false }) only [*, SesS.cells, SesS.view, Wr.cells, ↓reduceIte, ↓evP, evQ, if_true, if_false, eq_self, binv, eqv, lenv, fillO, splice, fldv, Sp.eqa, eqL, eq1, Nat.reduceAdd, Nat.reduceEqDiff, Nat.reduceLeDiff, Nat.reduceMul, reduceCtorEq, Int.reduceLT, Int.reduceLE, Int.reduceGT, Int.reduceGE, Int.reduceEq, Int.reduceNeg])))))
  exact endF_at ⟨_, ‹_›, rfl, rfl⟩
theorem view18 {σ : Hp} {g : Nat} {S : SesS} {v : Value} (hg : σ g = some (.cells (S.cells v) 101)) : ACalls Tryd.prog 18 #[.pointer (some ⟨g, 0, none⟩)] σ fun u σ' => u = .agg S.view.toArray ∧ σ' = σ := by
  (unfold SesS.cells at hg; obtain ⟨τ, rfl⟩ := open_upd hg; clear hg)
  (refine acalls_F ok18 (by simp) ?_; unfold c18 r18; simp (config := { contextual := true, dsimp := false }) only [SesS.cells, SesS.view, Wr.cells, ↓reduceIte, ↓evP, evQ, if_true, if_false, eq_self, binv, eqv, lenv, fillO, splice, fldv, Sp.eqa, eqL, eq1, Nat.reduceAdd, Nat.reduceEqDiff, Nat.reduceLeDiff, Nat.reduceMul, reduceCtorEq, Int.reduceLT, Int.reduceLE, Int.reduceGT, Int.reduceGE, Int.reduceEq, Int.reduceNeg])
  (repeat' (first | (refine condF_split (fun hc => ?_) (fun hc => ?_) <;> (try simp only [Bool.not_eq_true', Bool.not_eq_false', Bool.and_eq_true, Bool.or_eq_false_iff] at hc) <;> (try (simp (config := { contextual := true, dsimp := false }) only [*, SesS.cells, SesS.view, Wr.cells, ↓reduceIte, ↓evP, evQ, if_true, if_false, eq_self, binv, eqv, lenv, fillO, splice, fldv, Sp.eqa, eqL, eq1, Nat.reduceAdd, Nat.reduceEqDiff, Nat.reduceLeDiff, Nat.reduceMul, reduceCtorEq, Int.reduceLT, Int.reduceLE, Int.reduceGT, Int.reduceGE, Int.reduceEq, Int.reduceNeg]))) | (intro _; intros) | ((refine And.intro ?_ ?_; focus (first | omega | (first | exact Sub.refl _ | ((repeat (first | exact Sub.refl _ | (refine Sub.drop ?_ ?_; focus (simp only [none_upd, none_set, not_false_eq_true, true_and, and_true, *]; done)) | refine Sub.both ?_)); done)) | ((simp only [decide_eq_true_eq, decide_eq_false_iff_not] at *); omega) | (simp_all; done) | (simp_all; omega))); (try (simp (config := { contextual := true, dsimp := false }) only [*, SesS.cells, SesS.view, Wr.cells, ↓reduceIte, ↓evP, evQ, if_true, if_false, eq_self, binv, eqv, lenv, fillO, splice, fldv, Sp.eqa, eqL, eq1, Nat.reduceAdd, Nat.reduceEqDiff, Nat.reduceLeDiff, Nat.reduceMul, reduceCtorEq, Int.reduceLT, Int.reduceLE, Int.reduceGT, Int.reduceGE, Int.reduceEq, Int.reduceNeg])))))
  all_goals (refine endF_det ?_ ?_; (focus ((try simp only [cond_true, cond_false, *]) <;> ((try simp only [decide_eq_true_eq, decide_eq_false_iff_not] at *) <;> first | rfl | (simp []; done) | (simp_all []; done) | (simp []; omega) | (simp []; (rw [Bool.eq_iff_iff]); simp; omega) | (simp_all [] <;> omega) | ((try unfold id); (rw [Value.bool.injEq, Bool.eq_iff_iff]); simp <;> omega) | ((try unfold id); (repeat' split) <;> simp_all <;> omega) | (simp_all [] <;> (repeat' split) <;> simp_all <;> omega)))); (focus ((try simp only [cond_true, cond_false, set_same, *]); exact (by (first | exact Sub.refl _ | ((repeat (first | exact Sub.refl _ | (refine Sub.drop ?_ ?_; focus (simp only [none_upd, none_set, not_false_eq_true, true_and, and_true, *]; done)) | refine Sub.both ?_)); done))))))
theorem floor26 {σ : Hp} {g : Nat} {S : SesS} {v : Value} (hg : σ g = some (.cells (S.cells v) 101)) : ACalls Tryd.prog 26 #[.pointer (some ⟨g, 0, none⟩)] σ fun u σ' => u = .int .i64 S.floor ∧ σ' = σ := by
  (refine acalls_F ok26 (by simp) ?_; unfold c26 r26; simp (config := { contextual := true, dsimp := false }) only [SesS.cells, SesS.view, Wr.cells, ↓reduceIte, ↓evP, evQ, if_true, if_false, eq_self, binv, eqv, lenv, fillO, splice, fldv, Sp.eqa, eqL, eq1, Nat.reduceAdd, Nat.reduceEqDiff, Nat.reduceLeDiff, Nat.reduceMul, reduceCtorEq, Int.reduceLT, Int.reduceLE, Int.reduceGT, Int.reduceGE, Int.reduceEq, Int.reduceNeg])
  (repeat' (first | (refine condF_split (fun hc => ?_) (fun hc => ?_) <;> (try simp only [Bool.not_eq_true', Bool.not_eq_false', Bool.and_eq_true, Bool.or_eq_false_iff] at hc) <;> (try (simp (config := { contextual := true, dsimp := false }) only [*, SesS.cells, SesS.view, Wr.cells, ↓reduceIte, ↓evP, evQ, if_true, if_false, eq_self, binv, eqv, lenv, fillO, splice, fldv, Sp.eqa, eqL, eq1, Nat.reduceAdd, Nat.reduceEqDiff, Nat.reduceLeDiff, Nat.reduceMul, reduceCtorEq, Int.reduceLT, Int.reduceLE, Int.reduceGT, Int.reduceGE, Int.reduceEq, Int.reduceNeg]))) | (refine callF_v (view18 hg) ?_; (try (simp (config := { contextual := true, dsimp := false }) only [*, SesS.cells, SesS.view, Wr.cells, ↓reduceIte, ↓evP, evQ, if_true, if_false, eq_self, binv, eqv, lenv, fillO, splice, fldv, Sp.eqa, eqL, eq1, Nat.reduceAdd, Nat.reduceEqDiff, Nat.reduceLeDiff, Nat.reduceMul, reduceCtorEq, Int.reduceLT, Int.reduceLE, Int.reduceGT, Int.reduceGE, Int.reduceEq, Int.reduceNeg]))) | (refine ccallF_of (view18 hg) ?_; (try (simp (config := { contextual := true, dsimp := false }) only [*, SesS.cells, SesS.view, Wr.cells, ↓reduceIte, ↓evP, evQ, if_true, if_false, eq_self, binv, eqv, lenv, fillO, splice, fldv, Sp.eqa, eqL, eq1, Nat.reduceAdd, Nat.reduceEqDiff, Nat.reduceLeDiff, Nat.reduceMul, reduceCtorEq, Int.reduceLT, Int.reduceLE, Int.reduceGT, Int.reduceGE, Int.reduceEq, Int.reduceNeg]))) | (refine gcallF_of (view18 hg) ?_; (try (simp (config := { contextual := true, dsimp := false }) only [*, SesS.cells, SesS.view, Wr.cells, ↓reduceIte, ↓evP, evQ, if_true, if_false, eq_self, binv, eqv, lenv, fillO, splice, fldv, Sp.eqa, eqL, eq1, Nat.reduceAdd, Nat.reduceEqDiff, Nat.reduceLeDiff, Nat.reduceMul, reduceCtorEq, Int.reduceLT, Int.reduceLE, Int.reduceGT, Int.reduceGE, Int.reduceEq, Int.reduceNeg]))) | (intro _; intros) | ((refine And.intro ?_ ?_; focus (first | omega | (first | exact Sub.refl _ | ((repeat (first | exact Sub.refl _ | (refine Sub.drop ?_ ?_; focus (simp only [none_upd, none_set, not_false_eq_true, true_and, and_true, *]; done)) | refine Sub.both ?_)); done)) | ((simp only [decide_eq_true_eq, decide_eq_false_iff_not] at *); omega) | (simp_all; done) | (simp_all; omega))); (try (simp (config := { contextual := true, dsimp := false }) only [*, SesS.cells, SesS.view, Wr.cells, ↓reduceIte, ↓evP, evQ, if_true, if_false, eq_self, binv, eqv, lenv, fillO, splice, fldv, Sp.eqa, eqL, eq1, Nat.reduceAdd, Nat.reduceEqDiff, Nat.reduceLeDiff, Nat.reduceMul, reduceCtorEq, Int.reduceLT, Int.reduceLE, Int.reduceGT, Int.reduceGE, Int.reduceEq, Int.reduceNeg])))))
  all_goals (refine endF_det ?_ ?_; (focus ((try simp only [cond_true, cond_false, *]) <;> ((try simp only [decide_eq_true_eq, decide_eq_false_iff_not] at *) <;> first | rfl | (simp []; done) | (simp_all []; done) | (simp []; omega) | (simp []; (rw [Bool.eq_iff_iff]); simp; omega) | (simp_all [] <;> omega) | ((try unfold id); (rw [Value.bool.injEq, Bool.eq_iff_iff]); simp <;> omega) | ((try unfold id); (repeat' split) <;> simp_all <;> omega) | (simp_all [] <;> (repeat' split) <;> simp_all <;> omega)))); (focus ((try simp only [cond_true, cond_false, set_same, *]); exact (by (first | exact Sub.refl _ | ((repeat (first | exact Sub.refl _ | (refine Sub.drop ?_ ?_; focus (simp only [none_upd, none_set, not_false_eq_true, true_and, and_true, *]; done)) | refine Sub.both ?_)); done))))))
def SesS.raise (S : SesS) (n : Int) : SesS := cond (decide (n ≤ 1099511627776)) { S with floor := mxI S.floor n } S
theorem raise23 {σ : Hp} {g : Nat} {S : SesS} {v : Value} (hg : σ g = some (.cells (S.cells v) 101)) (n : Int) : ACalls Tryd.prog 23 #[.pointer (some ⟨g, 0, none⟩), .int .i64 n] σ fun u σ' => u = .tuple #[] ∧ σ' = set σ g (.cells ((S.raise n).cells v) 101) := by
  (unfold SesS.cells at hg; obtain ⟨τ, rfl⟩ := open_upd hg; clear hg)
  (refine acalls_F ok23 (by simp) ?_; unfold c23 r23; simp (config := { contextual := true, dsimp := false }) only [SesS.cells, SesS.view, Wr.cells, ↓reduceIte, ↓evP, evQ, if_true, if_false, eq_self, binv, eqv, lenv, fillO, splice, fldv, Sp.eqa, eqL, eq1, Nat.reduceAdd, Nat.reduceEqDiff, Nat.reduceLeDiff, Nat.reduceMul, reduceCtorEq, Int.reduceLT, Int.reduceLE, Int.reduceGT, Int.reduceGE, Int.reduceEq, Int.reduceNeg])
  (repeat' (first | (refine condF_split (fun hc => ?_) (fun hc => ?_) <;> (try simp only [Bool.not_eq_true', Bool.not_eq_false', Bool.and_eq_true, Bool.or_eq_false_iff] at hc) <;> (try (simp (config := { contextual := true, dsimp := false }) only [*, SesS.cells, SesS.view, Wr.cells, ↓reduceIte, ↓evP, evQ, if_true, if_false, eq_self, binv, eqv, lenv, fillO, splice, fldv, Sp.eqa, eqL, eq1, Nat.reduceAdd, Nat.reduceEqDiff, Nat.reduceLeDiff, Nat.reduceMul, reduceCtorEq, Int.reduceLT, Int.reduceLE, Int.reduceGT, Int.reduceGE, Int.reduceEq, Int.reduceNeg]))) | (intro _; intros) | ((refine And.intro ?_ ?_; focus (first | omega | (first | exact Sub.refl _ | ((repeat (first | exact Sub.refl _ | (refine Sub.drop ?_ ?_; focus (simp only [none_upd, none_set, not_false_eq_true, true_and, and_true, *]; done)) | refine Sub.both ?_)); done)) | ((simp only [decide_eq_true_eq, decide_eq_false_iff_not] at *); omega) | (simp_all; done) | (simp_all; omega))); (try (simp (config := { contextual := true, dsimp := false }) only [*, SesS.cells, SesS.view, Wr.cells, ↓reduceIte, ↓evP, evQ, if_true, if_false, eq_self, binv, eqv, lenv, fillO, splice, fldv, Sp.eqa, eqL, eq1, Nat.reduceAdd, Nat.reduceEqDiff, Nat.reduceLeDiff, Nat.reduceMul, reduceCtorEq, Int.reduceLT, Int.reduceLE, Int.reduceGT, Int.reduceGE, Int.reduceEq, Int.reduceNeg])))))
  all_goals (refine endF_det ?_ ?_; (focus ((try simp only [SesS.raise, cond_true, cond_false, *]) <;> ((try simp only [decide_eq_true_eq, decide_eq_false_iff_not] at *) <;> first | rfl | (simp [SesS.raise]; done) | (simp_all [SesS.raise]; done) | (simp [SesS.raise]; omega) | (simp [SesS.raise]; (rw [Bool.eq_iff_iff]); simp; omega) | (simp_all [SesS.raise] <;> omega) | ((try unfold SesS.raise); (rw [Value.bool.injEq, Bool.eq_iff_iff]); simp <;> omega) | ((try unfold SesS.raise); (repeat' split) <;> simp_all <;> omega) | (simp_all [SesS.raise] <;> (repeat' split) <;> simp_all <;> omega)))); (focus ((try simp only [SesS.raise, cond_true, cond_false, set_same, *]); exact (by (first | exact Sub.refl _ | ((repeat (first | exact Sub.refl _ | (refine Sub.drop ?_ ?_; focus (simp only [none_upd, none_set, not_false_eq_true, true_and, and_true, *]; done)) | refine Sub.both ?_)); done))))))
def SesS.ended (S : SesS) (e : Int) : SesS := { S with busy := false, tries := 0, err := e }
theorem end48 {σ : Hp} {g : Nat} {S : SesS} {v : Value} (hg : σ g = some (.cells (S.cells v) 101)) (e : Int) : ACalls Tryd.prog 48 #[.pointer (some ⟨g, 0, none⟩), .int .i64 e] σ fun u σ' => u = .tuple #[] ∧ σ' = set σ g (.cells ((S.ended e).cells (.slice none 0 0)) 101) := by
  (unfold SesS.cells at hg; obtain ⟨τ, rfl⟩ := open_upd hg; clear hg)
  (refine acalls_F ok48 (by simp) ?_; unfold c48 r48; simp (config := { contextual := true, dsimp := false }) only [SesS.cells, SesS.view, Wr.cells, ↓reduceIte, ↓evP, evQ, if_true, if_false, eq_self, binv, eqv, lenv, fillO, splice, fldv, Sp.eqa, eqL, eq1, Nat.reduceAdd, Nat.reduceEqDiff, Nat.reduceLeDiff, Nat.reduceMul, reduceCtorEq, Int.reduceLT, Int.reduceLE, Int.reduceGT, Int.reduceGE, Int.reduceEq, Int.reduceNeg])
  (repeat' (first | (refine condF_split (fun hc => ?_) (fun hc => ?_) <;> (try simp only [Bool.not_eq_true', Bool.not_eq_false', Bool.and_eq_true, Bool.or_eq_false_iff] at hc) <;> (try (simp (config := { contextual := true, dsimp := false }) only [*, SesS.cells, SesS.view, Wr.cells, ↓reduceIte, ↓evP, evQ, if_true, if_false, eq_self, binv, eqv, lenv, fillO, splice, fldv, Sp.eqa, eqL, eq1, Nat.reduceAdd, Nat.reduceEqDiff, Nat.reduceLeDiff, Nat.reduceMul, reduceCtorEq, Int.reduceLT, Int.reduceLE, Int.reduceGT, Int.reduceGE, Int.reduceEq, Int.reduceNeg]))) | (intro _; intros) | ((refine And.intro ?_ ?_; focus (first | omega | (first | exact Sub.refl _ | ((repeat (first | exact Sub.refl _ | (refine Sub.drop ?_ ?_; focus (simp only [none_upd, none_set, not_false_eq_true, true_and, and_true, *]; done)) | refine Sub.both ?_)); done)) | ((simp only [decide_eq_true_eq, decide_eq_false_iff_not] at *); omega) | (simp_all; done) | (simp_all; omega))); (try (simp (config := { contextual := true, dsimp := false }) only [*, SesS.cells, SesS.view, Wr.cells, ↓reduceIte, ↓evP, evQ, if_true, if_false, eq_self, binv, eqv, lenv, fillO, splice, fldv, Sp.eqa, eqL, eq1, Nat.reduceAdd, Nat.reduceEqDiff, Nat.reduceLeDiff, Nat.reduceMul, reduceCtorEq, Int.reduceLT, Int.reduceLE, Int.reduceGT, Int.reduceGE, Int.reduceEq, Int.reduceNeg])))))
  all_goals (refine endF_det ?_ ?_; (focus ((try simp only [SesS.ended, cond_true, cond_false, *]) <;> ((try simp only [decide_eq_true_eq, decide_eq_false_iff_not] at *) <;> first | rfl | (simp [SesS.ended]; done) | (simp_all [SesS.ended]; done) | (simp [SesS.ended]; omega) | (simp [SesS.ended]; (rw [Bool.eq_iff_iff]); simp; omega) | (simp_all [SesS.ended] <;> omega) | ((try unfold SesS.ended); (rw [Value.bool.injEq, Bool.eq_iff_iff]); simp <;> omega) | ((try unfold SesS.ended); (repeat' split) <;> simp_all <;> omega) | (simp_all [SesS.ended] <;> (repeat' split) <;> simp_all <;> omega)))); (focus ((try simp only [SesS.ended, cond_true, cond_false, set_same, *]); exact (by (first | exact Sub.refl _ | ((repeat (first | exact Sub.refl _ | (refine Sub.drop ?_ ?_; focus (simp only [none_upd, none_set, not_false_eq_true, true_and, and_true, *]; done)) | refine Sub.both ?_)); done))))))
def goodW (w : Wr) : Bool := goodK w.key && decide ((w.data.size : Int) ≤ 256) && (w.has || decide (w.data = ⟨#[]⟩))
theorem goodWrite85 (w : Wr) (σ : Hp) : ACalls Tryd.prog 85 #[.agg w.cells.toArray] σ fun v σ' => v = .bool (goodW w) ∧ σ' = σ := by
  (refine acalls_F ok85 (by simp) ?_; unfold c85 r85; simp (config := { contextual := true, dsimp := false }) only [SesS.cells, SesS.view, Wr.cells, ↓reduceIte, ↓evP, evQ, if_true, if_false, eq_self, binv, eqv, lenv, fillO, splice, fldv, Sp.eqa, eqL, eq1, Nat.reduceAdd, Nat.reduceEqDiff, Nat.reduceLeDiff, Nat.reduceMul, reduceCtorEq, Int.reduceLT, Int.reduceLE, Int.reduceGT, Int.reduceGE, Int.reduceEq, Int.reduceNeg])
  (repeat' (first | (refine condF_split (fun hc => ?_) (fun hc => ?_) <;> (try simp only [Bool.not_eq_true', Bool.not_eq_false', Bool.and_eq_true, Bool.or_eq_false_iff] at hc) <;> (try (simp (config := { contextual := true, dsimp := false }) only [*, SesS.cells, SesS.view, Wr.cells, ↓reduceIte, ↓evP, evQ, if_true, if_false, eq_self, binv, eqv, lenv, fillO, splice, fldv, Sp.eqa, eqL, eq1, Nat.reduceAdd, Nat.reduceEqDiff, Nat.reduceLeDiff, Nat.reduceMul, reduceCtorEq, Int.reduceLT, Int.reduceLE, Int.reduceGT, Int.reduceGE, Int.reduceEq, Int.reduceNeg]))) | (refine callF_v (goodKey100 _ _) ?_; (try (simp (config := { contextual := true, dsimp := false }) only [*, SesS.cells, SesS.view, Wr.cells, ↓reduceIte, ↓evP, evQ, if_true, if_false, eq_self, binv, eqv, lenv, fillO, splice, fldv, Sp.eqa, eqL, eq1, Nat.reduceAdd, Nat.reduceEqDiff, Nat.reduceLeDiff, Nat.reduceMul, reduceCtorEq, Int.reduceLT, Int.reduceLE, Int.reduceGT, Int.reduceGE, Int.reduceEq, Int.reduceNeg]))) | (refine ccallF_of (goodKey100 _ _) ?_; (try (simp (config := { contextual := true, dsimp := false }) only [*, SesS.cells, SesS.view, Wr.cells, ↓reduceIte, ↓evP, evQ, if_true, if_false, eq_self, binv, eqv, lenv, fillO, splice, fldv, Sp.eqa, eqL, eq1, Nat.reduceAdd, Nat.reduceEqDiff, Nat.reduceLeDiff, Nat.reduceMul, reduceCtorEq, Int.reduceLT, Int.reduceLE, Int.reduceGT, Int.reduceGE, Int.reduceEq, Int.reduceNeg]))) | (refine gcallF_of (goodKey100 _ _) ?_; (try (simp (config := { contextual := true, dsimp := false }) only [*, SesS.cells, SesS.view, Wr.cells, ↓reduceIte, ↓evP, evQ, if_true, if_false, eq_self, binv, eqv, lenv, fillO, splice, fldv, Sp.eqa, eqL, eq1, Nat.reduceAdd, Nat.reduceEqDiff, Nat.reduceLeDiff, Nat.reduceMul, reduceCtorEq, Int.reduceLT, Int.reduceLE, Int.reduceGT, Int.reduceGE, Int.reduceEq, Int.reduceNeg]))) | (intro _; intros) | ((refine And.intro ?_ ?_; focus (first | omega | (first | exact Sub.refl _ | ((repeat (first | exact Sub.refl _ | (refine Sub.drop ?_ ?_; focus (simp only [none_upd, none_set, not_false_eq_true, true_and, and_true, *]; done)) | refine Sub.both ?_)); done)) | ((simp only [decide_eq_true_eq, decide_eq_false_iff_not] at *); omega) | (simp_all; done) | (simp_all; omega))); (try (simp (config := { contextual := true, dsimp := false }) only [*, SesS.cells, SesS.view, Wr.cells, ↓reduceIte, ↓evP, evQ, if_true, if_false, eq_self, binv, eqv, lenv, fillO, splice, fldv, Sp.eqa, eqL, eq1, Nat.reduceAdd, Nat.reduceEqDiff, Nat.reduceLeDiff, Nat.reduceMul, reduceCtorEq, Int.reduceLT, Int.reduceLE, Int.reduceGT, Int.reduceGE, Int.reduceEq, Int.reduceNeg])))))
  all_goals (refine endF_det ?_ ?_; (focus ((try simp only [goodW, cond_true, cond_false, *]) <;> ((try simp only [decide_eq_true_eq, decide_eq_false_iff_not] at *) <;> first | rfl | (simp [goodW]; done) | (simp_all [goodW]; done) | (simp [goodW]; omega) | (simp [goodW]; (rw [Bool.eq_iff_iff]); simp; omega) | (simp_all [goodW] <;> omega) | ((try unfold goodW); (rw [Value.bool.injEq, Bool.eq_iff_iff]); simp <;> omega) | ((try unfold goodW); (repeat' split) <;> simp_all <;> omega) | (simp_all [goodW] <;> (repeat' split) <;> simp_all <;> omega)))); (focus ((try simp only [goodW, cond_true, cond_false, set_same, *]); exact (by (first | exact Sub.refl _ | ((repeat (first | exact Sub.refl _ | (refine Sub.drop ?_ ?_; focus (simp only [none_upd, none_set, not_false_eq_true, true_and, and_true, *]; done)) | refine Sub.both ?_)); done))))))
end Go.Proofs.YtaoafjlocjjbbaaDoor
