/- Texts of mine, part 2 of 6, laid together: The rules by which a text is worked out, bundled. Arguments opened by their types: whatever reads as data of a type is of a kind (Kd), and its weights bound its lengths. No condition but the reading itself. The texts of functions, compiled. DERIVED: THE SHELF's CONTRACTS AT THIS DUMP, IN PLAIN WORDS (tools/lay-plain.mjs out of 'YtaoafjlocjjbbaaGreatDoorC2src.lean', which tools/lay-shelf.mjs wrote) No condition. -/
import Derived.Test.YtaoafjlocjjbbaaGreatDoorMEC1
import Derived.WalkKit
import Derived.ChangeShapes
import Derived.WideShapes
import Derived.ProofKit
import Derived.SizedLaws
import Derived.ChangeArms
import Derived.Lib.SmallJoins
import Derived.Test.YtaoafjlocjjbbaaGreatDoorProg
import Derived.KernelRfl
import Derived.Shelf.Strconv.Itoa4
import Derived.Shelf.Strconv.ErrVarParseInt
import Derived.IntWalk
import Derived.Below
-- SpJ
namespace Go.Sp
set_option maxRecDepth 100000
theorem evP : type_of% (And.intro @opsF_r (And.intro @dopsF_r (And.intro @codeF_drawx (And.intro @opF_callv (And.intro @dopF_cv (And.intro @ev_func (And.intro @opF_mkmap (And.intro @opF_look (And.intro @opF_mset (And.intro @opF_fnl (And.intro @opF_bys (And.intro @opsF_nil (And.intro @opsF_none (And.intro @opsF_some (And.intro @opF_raw (And.intro @opF_mv (And.intro @opF_pick (And.intro @opF_nilc (And.intro @opF_fa (And.intro @opF_ia (And.intro @opF_bin (And.intro @opF_eqs (And.intro @opF_nt (And.intro @opF_ext (And.intro @opF_len (And.intro @opF_bld (And.intro @opF_conv (And.intro @opF_ixs (And.intro @opF_mx (And.intro @opF_eqa (And.intro @opF_fld (And.intro @opF_new (And.intro @opF_box (And.intro @opF_lit (And.intro @opF_ld (And.intro @opF_lds (And.intro @opF_st (And.intro @opF_call (And.intro @opF_app (And.intro @dopsF_nil (And.intro @dopsF_none (And.intro @dopsF_some (And.intro @dopF_p (And.intro @dopF_l (And.intro @dopF_f (And.intro @dopF_r (And.intro @dopF_u (And.intro @dopF_w (And.intro @dopF_m (And.intro @dopF_c (And.intro @dopF_g (And.intro @codeF_skip (And.intro @codeF_reg (And.intro @codeF_draw (And.intro @codeF_seq (And.intro @codeF_cond (And.intro @codeF_block (And.intro @codeF_loop (And.intro @codeF_exit (And.intro @codeF_ret (And.intro @thn_normal (And.intro @thn_exit (And.intro @thn_ret (And.intro @inBlk_normal (And.intro @inBlk_ret (And.intro @inBlk_exit (And.intro @fin_normalF (And.intro @fin_retF (And.intro @finF_eq (And.intro @putO_get (And.intro @putO_no (And.intro @ev_tmp (And.intro @ev_const (And.intro @init_zero (@init_succ))))))))))))))))))))))))))))))))))))))))))))))))))))))))))))))))))))))))))) := And.intro @opsF_r (And.intro @dopsF_r (And.intro @codeF_drawx (And.intro @opF_callv (And.intro @dopF_cv (And.intro @ev_func (And.intro @opF_mkmap (And.intro @opF_look (And.intro @opF_mset (And.intro @opF_fnl (And.intro @opF_bys (And.intro @opsF_nil (And.intro @opsF_none (And.intro @opsF_some (And.intro @opF_raw (And.intro @opF_mv (And.intro @opF_pick (And.intro @opF_nilc (And.intro @opF_fa (And.intro @opF_ia (And.intro @opF_bin (And.intro @opF_eqs (And.intro @opF_nt (And.intro @opF_ext (And.intro @opF_len (And.intro @opF_bld (And.intro @opF_conv (And.intro @opF_ixs (And.intro @opF_mx (And.intro @opF_eqa (And.intro @opF_fld (And.intro @opF_new (And.intro @opF_box (And.intro @opF_lit (And.intro @opF_ld (And.intro @opF_lds (And.intro @opF_st (And.intro @opF_call (And.intro @opF_app (And.intro @dopsF_nil (And.intro @dopsF_none (And.intro @dopsF_some (And.intro @dopF_p (And.intro @dopF_l (And.intro @dopF_f (And.intro @dopF_r (And.intro @dopF_u (And.intro @dopF_w (And.intro @dopF_m (And.intro @dopF_c (And.intro @dopF_g (And.intro @codeF_skip (And.intro @codeF_reg (And.intro @codeF_draw (And.intro @codeF_seq (And.intro @codeF_cond (And.intro @codeF_block (And.intro @codeF_loop (And.intro @codeF_exit (And.intro @codeF_ret (And.intro @thn_normal (And.intro @thn_exit (And.intro @thn_ret (And.intro @inBlk_normal (And.intro @inBlk_ret (And.intro @inBlk_exit (And.intro @fin_normalF (And.intro @fin_retF (And.intro @finF_eq (And.intro @putO_get (And.intro @putO_no (And.intro @ev_tmp (And.intro @ev_const (And.intro @init_zero (@init_succ))))))))))))))))))))))))))))))))))))))))))))))))))))))))))))))))))))))))))
theorem evQ : type_of% (And.intro @binv.eq_1 (And.intro @binv.eq_2 (And.intro @binv.eq_3 (And.intro @binv.eq_4 (And.intro @binv.eq_5 (And.intro @binv.eq_6 (And.intro @binv.eq_7 (And.intro @binv.eq_8 (And.intro @binv.eq_9 (And.intro @binv.eq_10 (And.intro @binv.eq_11 (And.intro @binv.eq_12 (And.intro @binv.eq_13 (And.intro @binv.eq_14 (And.intro @binv.eq_15 (And.intro @binv.eq_16 (And.intro @binv.eq_17 (And.intro @binv.eq_18 (And.intro @binv.eq_19 (And.intro @eqv.eq_1 (And.intro @eqv.eq_2 (And.intro @eqv.eq_3 (And.intro @eqv.eq_4 (And.intro @eqv.eq_5 (And.intro @lenv.eq_1 (And.intro @lenv.eq_2 (And.intro @fillO.eq_1 (And.intro @fillO.eq_2 (And.intro @fldv.eq_1 (And.intro @fldv.eq_2 (And.intro @Sp.eqa.eq_1 (And.intro @eqL.eq_1 (And.intro @eqL.eq_2 (And.intro @eq1.eq_1 (And.intro @eq1.eq_2 (And.intro @eq1.eq_3 (And.intro @if_true.{1} (And.intro @if_false.{1} (And.intro @eq_self.{1} (And.intro @meet_self (And.intro @meet_same (And.intro @mapF_eq (And.intro @ml_same (And.intro @ml_ne (And.intro @lookv_t (And.intro @lookv_f (And.intro @lf_rune_eq (And.intro @lf_ifn_nil (And.intro @lf_ifn_some (And.intro @u8s_nil (And.intro @u8s_cons (And.intro @cl_map (And.intro @one_map (And.intro @Option.getD_none.{0} (And.intro @Option.isSome_none.{0} (And.intro @Option.map_some.{0,0} (And.intro @List.map_cons.{0,0} (And.intro @List.map_nil.{0,0} (And.intro @runF_eq (And.intro @someF_eq (And.intro @ptrF_eq (And.intro @boolF_eq (And.intro @sliceF_eq (And.intro @i64F_eq (And.intro @tupleF_eq (And.intro @intF_eq (And.intro @strF_eq (And.intro @condF_true (And.intro @condF_false (And.intro @guardF_bool (And.intro @guardF_not (And.intro @guardF_undef (And.intro @onPtrO_mk (And.intro @cl_int (And.intro @cl_bool (And.intro @cl_string (And.intro @cl_pointer (And.intro @cl_slice (And.intro @cl_agg (And.intro @one_int (And.intro @one_bool (And.intro @one_string (And.intro @one_pointer (And.intro @one_slice (And.intro @rd_same (And.intro @rd_row (And.intro @rd_ne (And.intro @rdn_same (And.intro @rdn_row (And.intro @rdn_ne (And.intro @wr_same (And.intro @wr_row (And.intro @wr_ne (And.intro @rval_tmp (And.intro @rval_one (And.intro @rval_agg (And.intro @rvals_nil (And.intro @rvals_cons (And.intro @whole_one (And.intro @whole_nil (And.intro @whole_two (And.intro @seg_zero (And.intro @seg_cons (And.intro @seg_skip (And.intro @upd_upd (And.intro @set_same (And.intro @set_ne (And.intro @set_set (And.intro @none_upd (And.intro @none_set (And.intro @and_imp (And.intro @not_false_eq_true (And.intro @not_true_eq_false (And.intro @List.length_cons.{0} (And.intro @List.length_nil.{0} (And.intro @List.all_cons.{0} (And.intro @List.all_nil.{0} (And.intro @List.take_succ_cons.{0} (And.intro @List.take_zero.{0} (And.intro @List.take_nil.{0} (And.intro @List.drop_succ_cons.{0} (And.intro @List.drop_zero.{0} (And.intro @List.drop_nil.{0} (And.intro @List.cons_append.{0} (And.intro @List.nil_append.{0} (And.intro @List.append_nil.{0} (And.intro @List.getElem?_cons_succ.{0} (And.intro @List.getElem?_cons_zero.{0} (And.intro @List.getElem?_toArray.{0} (And.intro @List.map_cons.{0,0} (And.intro @List.map_nil.{0,0} (And.intro @Option.bind_some.{0,0} (And.intro @Option.map_some.{0,0} (And.intro @Bool.and_true (And.intro @Bool.true_and (And.intro @Bool.and_false (And.intro @Bool.false_and (And.intro @Bool.or_true (And.intro @Bool.true_or (And.intro @Bool.or_false (And.intro @Bool.false_or (And.intro @Bool.and_self (And.intro @Nat.zero_add (And.intro @Nat.add_zero (And.intro @true_and (And.intro @and_true (And.intro @Bool.not_true (And.intro @Bool.not_false (And.intro @beq_self_eq_true.{0} (And.intro @Bool.bne_true (And.intro @Bool.bne_false (And.intro @Option.isNone_none.{0} (And.intro @Option.isNone_some.{0} (And.intro @Bool.false_eq_true (((And.intro @decide_true (And.intro @decide_false (And.intro @Bool.true_bne (And.intro @Bool.false_bne (And.intro @bne_self_eq_false.{0} (And.intro @Bool.true_beq (And.intro @Bool.false_beq (And.intro @beq_true (And.intro @beq_false (And.intro @Int.toNat_natCast (And.intro @Int.natCast_nonneg (And.intro @int_beq (And.intro @int_bne (And.intro @str_beq (And.intro @decide_not (And.intro @Int.natCast_zero (@Int.cast_ofNat_Int))))))))))))))))))))))))))))))))))))))))))))))))))))))))))))))))))))))))))))))))))))))))))))))))))))))))))))))))))))))))))))))))))))))))))))))))))))))))))))))))))))))))))))) := And.intro @binv.eq_1 (And.intro @binv.eq_2 (And.intro @binv.eq_3 (And.intro @binv.eq_4 (And.intro @binv.eq_5 (And.intro @binv.eq_6 (And.intro @binv.eq_7 (And.intro @binv.eq_8 (And.intro @binv.eq_9 (And.intro @binv.eq_10 (And.intro @binv.eq_11 (And.intro @binv.eq_12 (And.intro @binv.eq_13 (And.intro @binv.eq_14 (And.intro @binv.eq_15 (And.intro @binv.eq_16 (And.intro @binv.eq_17 (And.intro @binv.eq_18 (And.intro @binv.eq_19 (And.intro @eqv.eq_1 (And.intro @eqv.eq_2 (And.intro @eqv.eq_3 (And.intro @eqv.eq_4 (And.intro @eqv.eq_5 (And.intro @lenv.eq_1 (And.intro @lenv.eq_2 (And.intro @fillO.eq_1 (And.intro @fillO.eq_2 (And.intro @fldv.eq_1 (And.intro @fldv.eq_2 (And.intro @Sp.eqa.eq_1 (And.intro @eqL.eq_1 (And.intro @eqL.eq_2 (And.intro @eq1.eq_1 (And.intro @eq1.eq_2 (And.intro @eq1.eq_3 (And.intro @if_true.{1} (And.intro @if_false.{1} (And.intro @eq_self.{1} (And.intro @meet_self (And.intro @meet_same (And.intro @mapF_eq (And.intro @ml_same (And.intro @ml_ne (And.intro @lookv_t (And.intro @lookv_f (And.intro @lf_rune_eq (And.intro @lf_ifn_nil (And.intro @lf_ifn_some (And.intro @u8s_nil (And.intro @u8s_cons (And.intro @cl_map (And.intro @one_map (And.intro @Option.getD_none.{0} (And.intro @Option.isSome_none.{0} (And.intro @Option.map_some.{0,0} (And.intro @List.map_cons.{0,0} (And.intro @List.map_nil.{0,0} (And.intro @runF_eq (And.intro @someF_eq (And.intro @ptrF_eq (And.intro @boolF_eq (And.intro @sliceF_eq (And.intro @i64F_eq (And.intro @tupleF_eq (And.intro @intF_eq (And.intro @strF_eq (And.intro @condF_true (And.intro @condF_false (And.intro @guardF_bool (And.intro @guardF_not (And.intro @guardF_undef (And.intro @onPtrO_mk (And.intro @cl_int (And.intro @cl_bool (And.intro @cl_string (And.intro @cl_pointer (And.intro @cl_slice (And.intro @cl_agg (And.intro @one_int (And.intro @one_bool (And.intro @one_string (And.intro @one_pointer (And.intro @one_slice (And.intro @rd_same (And.intro @rd_row (And.intro @rd_ne (And.intro @rdn_same (And.intro @rdn_row (And.intro @rdn_ne (And.intro @wr_same (And.intro @wr_row (And.intro @wr_ne (And.intro @rval_tmp (And.intro @rval_one (And.intro @rval_agg (And.intro @rvals_nil (And.intro @rvals_cons (And.intro @whole_one (And.intro @whole_nil (And.intro @whole_two (And.intro @seg_zero (And.intro @seg_cons (And.intro @seg_skip (And.intro @upd_upd (And.intro @set_same (And.intro @set_ne (And.intro @set_set (And.intro @none_upd (And.intro @none_set (And.intro @and_imp (And.intro @not_false_eq_true (And.intro @not_true_eq_false (And.intro @List.length_cons.{0} (And.intro @List.length_nil.{0} (And.intro @List.all_cons.{0} (And.intro @List.all_nil.{0} (And.intro @List.take_succ_cons.{0} (And.intro @List.take_zero.{0} (And.intro @List.take_nil.{0} (And.intro @List.drop_succ_cons.{0} (And.intro @List.drop_zero.{0} (And.intro @List.drop_nil.{0} (And.intro @List.cons_append.{0} (And.intro @List.nil_append.{0} (And.intro @List.append_nil.{0} (And.intro @List.getElem?_cons_succ.{0} (And.intro @List.getElem?_cons_zero.{0} (And.intro @List.getElem?_toArray.{0} (And.intro @List.map_cons.{0,0} (And.intro @List.map_nil.{0,0} (And.intro @Option.bind_some.{0,0} (And.intro @Option.map_some.{0,0} (And.intro @Bool.and_true (And.intro @Bool.true_and (And.intro @Bool.and_false (And.intro @Bool.false_and (And.intro @Bool.or_true (And.intro @Bool.true_or (And.intro @Bool.or_false (And.intro @Bool.false_or (And.intro @Bool.and_self (And.intro @Nat.zero_add (And.intro @Nat.add_zero (And.intro @true_and (And.intro @and_true (And.intro @Bool.not_true (And.intro @Bool.not_false (And.intro @beq_self_eq_true.{0} (And.intro @Bool.bne_true (And.intro @Bool.bne_false (And.intro @Option.isNone_none.{0} (And.intro @Option.isNone_some.{0} (And.intro @Bool.false_eq_true (((And.intro @decide_true (And.intro @decide_false (And.intro @Bool.true_bne (And.intro @Bool.false_bne (And.intro @bne_self_eq_false.{0} (And.intro @Bool.true_beq (And.intro @Bool.false_beq (And.intro @beq_true (And.intro @beq_false (And.intro @Int.toNat_natCast (And.intro @Int.natCast_nonneg (And.intro @int_beq (And.intro @int_bne (And.intro @str_beq (And.intro @decide_not (And.intro @Int.natCast_zero (@Int.cast_ofNat_Int))))))))))))))))))))))))))))))))))))))))))))))))))))))))))))))))))))))))))))))))))))))))))))))))))))))))))))))))))))))))))))))))))))))))))))))))))))))))))))))))))))))))))))
end Go.Sp

-- SpO
namespace Go.Sp.Open
open Go.RowKit Go.ChangeShapes Go.WideShapes
/-- How a value of a type lies in cells: so many, and these. -/
structure Kd (α : Type) where
  sz : Nat
  K : World → α → List Value → Prop
def Kd.int (k : IntKind) : Kd Int := ⟨1, fun _ n cs => cs = [.int k n]⟩
def Kd.bool : Kd Bool := ⟨1, fun _ b cs => cs = [.bool b]⟩
def Kd.string : Kd ByteArray := ⟨1, fun _ s cs => cs = [.string s]⟩
/-- A slice that is not looked into. -/
def Kd.shut : Kd Value := ⟨1, fun _ v cs => cs = [v] ∧ ∃ a n c, v = .slice a n c⟩
def Kd.pair {α β : Type} (a : Kd α) (b : Kd β) : Kd (α × β) := ⟨a.sz + b.sz, fun w x cs => ∃ c1 c2, cs = c1 ++ c2 ∧ a.K w x.1 c1 ∧ b.K w x.2 c2⟩
def Kd.C {α : Type} (d : Kd α) (w : World) (A : Option Addr) (xs : List α) : Prop := ∀ j x, xs[j]? = some x → ∃ a, A = some a ∧ ∃ cs, cs.length = d.sz ∧ d.K w x cs ∧ ∀ i u, cs[i]? = some u → w.cell? (a.add (j * d.sz + i)) = some u
def Kd.slice {α : Type} (d : Kd α) : Kd (List α) := ⟨1, fun w xs cs => ∃ A c, cs = [.slice A xs.length c] ∧ xs.length ≤ c ∧ d.C w A xs⟩
/-- The kind of a structure of mine, out of its cells. -/
def Kd.of {α : Type} (n : Nat) (f : α → List Value) : Kd α := ⟨n, fun _ x cs => cs = f x⟩

def Small {H : Type} (P : Program) (t : TypeId) (d : DataW H) : Prop := ∀ n ∈ d.weights P t, n ≤ 140737488351232
def Opens (P : Program) (t : TypeId) {α : Type} (d : Kd α) (G : α → Prop) : Prop :=
  ∀ (H : Type) (enc : TypeId × Value → H) (w : World) (base : Nat) (spare : Nat → Bool) (held : Bool) (fuel : Nat) (cs : List Value) (x : DataW H × List MemPlace),
    DataW.trod enc P w base spare held fuel t cs = some x → Small P t x.1 → ∃ a : α, d.K w a cs ∧ G a

theorem opens_int {P : Program} {t : TypeId} {k : IntKind} (ht : P.underlying t = some (.int k)) : Opens P t (Kd.int k) (fun n => (Lit.int k n).wf = true) := by
  intro H enc w base spare held fuel cs x h _
  obtain ⟨n, rfl, _, hw⟩ := DataW.trod_int ht h
  exact ⟨n, rfl, hw⟩
theorem opens_bool {P : Program} {t : TypeId} (ht : P.underlying t = some .bool) : Opens P t Kd.bool (fun _ => True) := by
  intro H enc w base spare held fuel cs x h _
  obtain ⟨b, rfl, _⟩ := DataW.trod_bool ht h
  exact ⟨b, rfl, trivial⟩
theorem opens_string {P : Program} {t : TypeId} (ht : P.underlying t = some .string) : Opens P t Kd.string (fun s => s.size ≤ 140737488351232) := by
  intro H enc w base spare held fuel cs x h hs
  obtain ⟨s, rfl, rfl, _⟩ := DataW.trod_string ht h
  refine ⟨s, rfl, ?_⟩
  have := hs s.data.toList.length (by simp [DataW.weights])
  rwa [Array.length_toList] at this
theorem mem_weightsAll {H : Type} {P : Program} {e : TypeId} {d : DataW H} : ∀ {l : List (DataW H)}, d ∈ l → ∀ n ∈ d.weights P e, n ∈ DataW.weightsAll P e l
  | _ :: l, h, n, hn => by
    unfold DataW.weightsAll
    rcases List.mem_cons.1 h with h | h
    · subst h
      exact List.mem_append_left _ hn
    · exact List.mem_append_right _ (mem_weightsAll h n hn)
theorem mapM_get {α : Type} {f : Nat → Option α} : ∀ {l : List Nat} {cs : List α}, l.mapM f = some cs → cs.length = l.length ∧ ∀ (j i : Nat), l[j]? = some i → f i = cs[j]?
  | [], cs, h => by
    simp at h
    subst h
    exact ⟨rfl, fun j i hj => by simp at hj⟩
  | a :: l, cs, h => by
    rw [List.mapM_cons] at h
    cases ha : f a with
    | none => simp [ha] at h
    | some c =>
      cases hl : l.mapM f with
      | none => simp [ha, hl] at h
      | some r =>
        simp [ha, hl] at h
        subst h
        obtain ⟨h1, h2⟩ := mapM_get hl
        refine ⟨by simp [h1], fun j i hj => ?_⟩
        cases j with
        | zero => simp at hj; subst hj; simpa using ha
        | succ j => simp at hj; simpa using h2 j i hj
theorem cells_get {w : World} {base : Nat} {a : Addr} {n : Nat} {cs : List Value} (h : w.cells? base a n = some cs) : cs.length = n ∧ ∀ j u, cs[j]? = some u → w.cell? (a.add j) = some u := by
  unfold World.cells? at h
  split at h
  · obtain ⟨h1, h2⟩ := mapM_get h
    simp only [List.length_range] at h1
    refine ⟨h1, fun j u hu => ?_⟩
    have hj : j < n := by have := (List.getElem?_eq_some_iff.1 hu).1; omega
    rw [h2 j j (by simp [hj]), hu]
  · cases h
theorem gather {α : Type} {Q : Nat → α → Prop} : ∀ {n : Nat}, (∀ i, i < n → ∃ a, Q i a) → ∃ xs : List α, xs.length = n ∧ ∀ i p, xs[i]? = some p → Q i p
  | 0, _ => ⟨[], rfl, fun i p hp => by simp at hp⟩
  | n + 1, one => by
    obtain ⟨xs, h1, h2⟩ := gather (n := n) (fun i hi => one i (by omega))
    obtain ⟨p, hp⟩ := one n (by omega)
    refine ⟨xs ++ [p], by simp [h1], fun i q hq => ?_⟩
    by_cases hi : i < n
    · rw [List.getElem?_append_left (by omega)] at hq
      exact h2 i q hq
    · have hi2 : i = n := by
        have := (List.getElem?_eq_some_iff.1 hq).1
        simp at this
        omega
      subst hi2
      rw [List.getElem?_append_right (by omega), h1] at hq
      simp at hq
      subst hq
      exact hp
theorem add_add (a : Addr) (i j : Nat) : (a.add i).add j = a.add (i + j) := by
  unfold Addr.add
  by_cases h : i = 0 <;> by_cases h2 : j = 0 <;> simp_all <;> omega
theorem opens_shut {P : Program} {t e : TypeId} (ht : P.underlying t = some (.slice e)) : Opens P t Kd.shut (fun v => one v = true) := by
  intro H enc w base spare held fuel cs x h hs
  rcases DataW.trod_slice ht h with ⟨rfl, rfl⟩ | ⟨a, len, cap, elems, rest, n, _, rfl, rfl, _, hl, hm, hlen, hel, _, _⟩
  · exact ⟨.slice none 0 0, ⟨rfl, _, _, _, rfl⟩, rfl⟩
  · exact ⟨.slice (some a) len cap, ⟨rfl, _, _, _, rfl⟩, rfl⟩
theorem opens_slice {P : Program} {t e : TypeId} {α : Type} {d : Kd α} {G : α → Prop} (B : Nat) (ht : P.underlying t = some (.slice e)) (hc : P.cellsOf e = d.sz) (hB : P.bytesOf e = B) (he : Opens P e d G) :
    Opens P t (Kd.slice d) (fun xs => xs.length * B ≤ 140737488351232 ∧ ∀ x ∈ xs, G x) := by
  intro H enc w base spare held fuel cs x h hs
  rcases DataW.trod_slice ht h with ⟨rfl, rfl⟩ | ⟨a, len, cap, elems, rest, n, _, rfl, rfl, _, hl, hm, hlen, hel, _, _⟩
  · exact ⟨[], ⟨none, 0, rfl, Nat.le_refl _, fun j x hx => by simp at hx⟩, by simp, fun x hx => by cases hx⟩
  · have hw : ((elems.map (·.1)).length + (rest.map (·.1)).length) * P.bytesOf e ≤ 140737488351232 := hs _ (by simp [DataW.weights, ht])
    have each : ∀ y ∈ elems, Small P e y.1 := fun y hy m hm2 => hs m (by
      simp only [DataW.weights, ht]
      exact List.mem_cons_of_mem _ (List.mem_append_left _ (mem_weightsAll (List.mem_map_of_mem hy) m hm2)))
    have one : ∀ i, i < len → ∃ a' : α, (∃ c, c.length = d.sz ∧ d.K w a' c ∧ ∀ j u, c[j]? = some u → w.cell? (a.add (i * d.sz + j)) = some u) ∧ G a' := by
      intro i hi
      have h1 := hel i hi
      rw [List.getElem?_eq_getElem (by omega)] at h1
      obtain ⟨c, hc1, hc2⟩ := Option.bind_eq_some_iff.1 h1
      obtain ⟨hl1, hcell⟩ := cells_get hc1
      obtain ⟨a', hk, hg⟩ := he H enc w base spare held n c _ hc2 (each _ (List.getElem_mem _))
      refine ⟨a', ⟨c, by rw [hl1, hc], hk, fun j u hu => ?_⟩, hg⟩
      rw [← add_add, ← hc]
      exact hcell j u hu
    obtain ⟨xs, hx1, hx2⟩ := gather one
    refine ⟨xs, ⟨some a, cap, by rw [hx1], by omega, fun j p hp => ⟨a, rfl, (hx2 j p hp).1⟩⟩, ?_, fun x hx => ?_⟩
    · rw [hB] at hw
      simp only [List.length_map] at hw
      exact Nat.le_trans (Nat.mul_le_mul_right _ (by omega)) hw
    · obtain ⟨i, hi, rfl⟩ := List.getElem_of_mem hx
      exact (hx2 i _ (List.getElem?_eq_getElem hi)).2
theorem opens_iso {P : Program} {t : TypeId} {α β : Type} {d : Kd α} {d' : Kd β} {G : α → Prop} {G' : β → Prop} (f : α → β) (hK : ∀ w a cs, d.K w a cs → d'.K w (f a) cs) (hG : ∀ a, G a → G' (f a)) (h : Opens P t d G) : Opens P t d' G' := by
  intro H enc w base spare held fuel cs x hx hs
  obtain ⟨a, hk, hg⟩ := h H enc w base spare held fuel cs x hx hs
  exact ⟨f a, hK w a cs hk, hG a hg⟩
theorem opens_rel {P : Program} {t : TypeId} {α β : Type} {d : Kd α} {d' : Kd β} {G : α → Prop} {G' : β → Prop} (h : Opens P t d G) (hr : ∀ w a cs, d.K w a cs → G a → ∃ b, d'.K w b cs ∧ G' b) : Opens P t d' G' := by
  intro H enc w base spare held fuel cs x hx hs
  obtain ⟨a, hk, hg⟩ := h H enc w base spare held fuel cs x hx hs
  exact hr w a cs hk hg
/-- The fields of a struct from the offset o on. -/
def OpensF (P : Program) (fs : List Field) (o : Nat) {α : Type} (d : Kd α) (G : α → Prop) : Prop :=
  ∀ (H : Type) (enc : TypeId × Value → H) (w : World) (base : Nat) (spare : Nat → Bool) (held : Bool) (n : Nat) (cs : List Value) (xs : List (DataW H × List MemPlace)),
    cs.length = o + d.sz → xs.length = fs.length → (∀ (i : Nat) (f : Field), fs[i]? = some f → DataW.trod enc P w base spare held n f.type ((cs.drop f.offset).take (P.cellsOf f.type)) = xs[i]?) →
    (∀ m ∈ DataW.weightsEach P (fs.map (·.type)) (xs.map (·.1)), m ≤ 140737488351232) → ∃ a : α, d.K w a (cs.drop o) ∧ G a
theorem opensF_one {P : Program} {f : Field} {o : Nat} {α : Type} {d : Kd α} {G : α → Prop} (ho : f.offset = o) (hc : P.cellsOf f.type = d.sz) (h : Opens P f.type d G) : OpensF P [f] o d G := by
  intro H enc w base spare held n cs xs hl hx hf hw
  match xs, hx with
  | [y], _ =>
    have h0 : DataW.trod enc P w base spare held n f.type ((cs.drop f.offset).take (P.cellsOf f.type)) = some y := by simpa using hf 0 f rfl
    rw [ho, hc, List.take_of_length_le (by rw [List.length_drop]; omega)] at h0
    exact h H enc w base spare held n _ _ h0 (fun m hm => hw m (by simp [DataW.weightsEach, hm]))
theorem opensF_cons {P : Program} {f : Field} {fs : List Field} {o : Nat} {α β : Type} {a : Kd α} {b : Kd β} {G : α → Prop} {G' : β → Prop} (ho : f.offset = o) (hc : P.cellsOf f.type = a.sz) (h : Opens P f.type a G) (hr : OpensF P fs (o + a.sz) b G') :
    OpensF P (f :: fs) o (Kd.pair a b) (fun x => G x.1 ∧ G' x.2) := by
  intro H enc w base spare held n cs xs hl hx hf hw
  have hl' : cs.length = o + (a.sz + b.sz) := hl
  match xs, hx with
  | y :: ys, hx =>
    have h0 : DataW.trod enc P w base spare held n f.type ((cs.drop f.offset).take (P.cellsOf f.type)) = some y := by simpa using hf 0 f rfl
    rw [ho, hc] at h0
    obtain ⟨x0, hk0, hg0⟩ := h H enc w base spare held n _ _ h0 (fun m hm => hw m (by simp [DataW.weightsEach, hm]))
    obtain ⟨x1, hk1, hg1⟩ := hr H enc w base spare held n cs ys (by omega) (by simpa using hx) (fun i g hi => by simpa using hf (i + 1) g (by simpa using hi)) (fun m hm => hw m (by simp only [List.map_cons, DataW.weightsEach]; exact List.mem_append_right _ hm))
    refine ⟨(x0, x1), ⟨(cs.drop o).take a.sz, cs.drop (o + a.sz), ?_, hk0, hk1⟩, hg0, hg1⟩
    rw [← List.drop_drop]
    exact (List.take_append_drop _ _).symm
theorem opens_struct {P : Program} {t : TypeId} {fs : Array Field} {α : Type} {d : Kd α} {G : α → Prop} (ht : P.underlying t = some (.struct fs)) (hc : P.cellsOf t = d.sz) (h : OpensF P fs.toList 0 d G) : Opens P t d G := by
  intro H enc w base spare held fuel cs x hx hs
  obtain ⟨xs, n, _, rfl, hl, hlen, hf⟩ := DataW.trod_struct ht hx
  obtain ⟨a, hk, hg⟩ := h H enc w base spare held n cs xs (by rw [hl, hc]; omega) (by simpa using hlen) (fun i f hi => hf i f (by simpa using hi)) (fun m hm => hs m (by simpa [DataW.weights, ht] using hm))
  exact ⟨a, by simpa using hk, hg⟩
/-- Argument j's weights out of the row's. -/
theorem small_arg {H : Type} {P : Program} {ts : List TypeId} {ds : List (DataW H)} (hsz : (DataW.weightsEach P ts ds).all (· ≤ reachBytes) = true) {j : Nat} {t : TypeId} {d : DataW H} (ht : ts[j]? = some t) (hd : ds[j]? = some d) : Small P t d := by
  intro n hn
  have := List.all_eq_true.1 hsz _ (DataW.weights_mem_each ht hd n hn)
  have h2 : n ≤ reachBytes := by simpa using this
  exact h2
theorem arg_struct {H : Type} {enc : TypeId × Value → H} {P : Program} {w : World} {r : Reach} {b0 base : Nat} {spare : Nat → Bool} {held : Bool} {t : TypeId} {fs : Array Field} {α : Type} {d : Kd α} {G : α → Prop} {v : Value} {x : DataW H} {p : List MemPlace} (ho : Opens P t d G) (ht : P.underlying t = some (.struct fs)) (hv : Value.okWide P w r b0 t v) (h : DataW.Trod enc P w base spare held t v x p) (hs : Small P t x) :
    ∃ (cs : Array Value) (a : α), v = .agg cs ∧ d.K w a cs.toList ∧ G a := by
  obtain ⟨cs, rfl, _⟩ := okWide_struct ht hv
  obtain ⟨fuel, hf⟩ := h
  obtain ⟨a, hk, hg⟩ := ho H enc w base spare held fuel _ _ hf hs
  exact ⟨cs, a, rfl, by simpa [Value.cells] using hk, hg⟩
theorem arg_slice {H : Type} {enc : TypeId × Value → H} {P : Program} {w : World} {r : Reach} {b0 base : Nat} {spare : Nat → Bool} {held : Bool} {t e : TypeId} {α : Type} {d : Kd α} {G : List α → Prop} {v : Value} {x : DataW H} {p : List MemPlace} (ho : Opens P t (Kd.slice d) G) (ht : P.underlying t = some (.slice e)) (hv : Value.okWide P w r b0 t v) (h : DataW.Trod enc P w base spare held t v x p) (hs : Small P t x) :
    ∃ (A : Option Addr) (c : Nat) (xs : List α), v = .slice A xs.length c ∧ xs.length ≤ c ∧ d.C w A xs ∧ G xs := by
  obtain ⟨a, len, cap, rfl⟩ := okWide_slice ht hv
  obtain ⟨fuel, hf⟩ := h
  obtain ⟨xs, ⟨A, c, he, hl, hk⟩, hg⟩ := ho H enc w base spare held fuel _ _ hf hs
  simp [Value.cells] at he
  obtain ⟨rfl, rfl, rfl⟩ := he
  exact ⟨_, _, xs, rfl, hl, hk, hg⟩
/-- All that a world holds, to be read alone. -/
def full (w : World) : Hp := fun k => (w.heap[k]?).map Blk.ro
theorem full_sat (w : World) : Sat (full w) w := fun b o h => by
  unfold full at h
  cases hb : w.heap[b]? with
  | none => rw [hb] at h; cases h
  | some x => rw [hb] at h; cases h; exact rfl
/-- From the known heap to the world. -/
theorem calls_row {P : Program} {f : FuncId} {args : Array Value} {w : World} (h : ACalls P f args (full w) fun v σ' => v = .bool true ∧ σ' = full w) : Calls P f args w fun e w' => e = .returned (.bool true) ∧ Below w.heap.size w w' := by
  refine (h w (full_sat w)).mono ?_
  rintro e w' ⟨v, σ', rfl, hs, hf, rfl, rfl⟩
  refine ⟨rfl, hf.os, hf.tape, hf.output, hf.size, fun k hk => ?_⟩
  have : full w k = some (.ro w.heap[k]) := by unfold full; rw [Array.getElem?_eq_getElem hk]; rfl
  have h1 : w'.heap[k]? = some w.heap[k] := hs k _ this
  rw [h1, Array.getElem?_eq_getElem hk]
theorem ro_rows {α : Type} {n : Nat} {f : α → List Value} {w : World} {A : Option Addr} {c : Nat} {xs : List α} (hn : 0 < n) (h : (Kd.of n f).C w A xs) : RoRows n f (full w) (.slice A xs.length c) xs := by
  refine ⟨A, c, rfl, fun i x hx => ?_⟩
  obtain ⟨a, rfl, cs, hl, rfl, hc⟩ := h i x hx
  have hl : (f x).length = n := hl
  obtain ⟨b, o, sp⟩ := a
  have h0 := hc 0 (f x)[0] (List.getElem?_eq_getElem (by omega))
  have hx0 : ∃ y, xs[0]? = some y := ⟨_, List.getElem?_eq_getElem (by have := (List.getElem?_eq_some_iff.1 hx).1; omega)⟩
  obtain ⟨y, hy⟩ := hx0
  obtain ⟨a2, e2, cs2, hl2, rfl, hc2⟩ := h 0 y hy
  cases e2
  have hl2 : (f y).length = n := hl2
  have h00 := hc2 0 (f y)[0] (List.getElem?_eq_getElem (by omega))
  have hsp : sp = none := by
    cases sp with
    | none => rfl
    | some q =>
      have e : (⟨b, o, some q⟩ : Addr).add (0 * (Kd.of n f).sz + 0) = ⟨b, o, some q⟩ := by simp [Addr.add]
      rw [e] at h00
      simp only [World.cell?, Option.isSome_some, if_true] at h00
      split at h00 <;> cases h00
  subst hsp
  have hb : ∃ c2 t fr, w.heap[b]? = some (.cells c2 t fr) := by
    rw [addr_add] at h0
    unfold World.cell? at h0
    split at h0
    · exact ⟨_, _, _, by assumption⟩
    · cases h0
  obtain ⟨c2, t, fr, hb⟩ := hb
  have hget : ∀ j u, (f x)[j]? = some u → c2[o + (i * n + j)]? = some u := fun j u hu => by
    have := hc j u hu
    rw [addr_add] at this
    simpa [World.cell?, hb, Kd.of] using this
  refine ⟨b, o, rfl, ?_⟩
  have e : full w b = some (.ro (.cells c2 t fr)) := by unfold full; rw [hb]; rfl
  unfold rdn
  rw [e]
  show seg c2.toList (o + i * n) n = some (f x)
  have hlast := hget (n - 1) (f x)[n - 1] (List.getElem?_eq_getElem (by omega))
  have hsz := (Array.getElem?_eq_some_iff.1 hlast).1
  unfold seg
  rw [if_pos (by simp; omega)]
  congr 1
  apply List.ext_getElem?
  intro j
  by_cases hj : j < n
  · rw [List.getElem?_take_of_lt hj, List.getElem?_drop]
    have := hget j (f x)[j] (List.getElem?_eq_getElem (by omega))
    rw [List.getElem?_eq_getElem (l := f x) (by omega), ← this]
    simp [Nat.add_assoc]
  · rw [List.getElem?_eq_none (by simp; omega), List.getElem?_eq_none (by omega)]
theorem u8_range {n : Int} (h : (Lit.int .u8 n).wf = true) : 0 ≤ n ∧ n ≤ 255 := by
  have e1 : IntKind.u8.min = 0 := by decide
  have e2 : IntKind.u8.max = 255 := by decide
  simp [Lit.wf] at h
  omega
end Go.Sp.Open

-- TR
namespace Go.Proofs.YtaoafjlocjjbbaaGreatDoor
open Go.Sp
set_option maxRecDepth 100000
/-- vouch/vouchref18.New -/
def c7 : C := (.seq (.reg [(rO 1 (.box 23 (.tmp 0))),
 (rO 2 (.mv (.const (.pointer none))))])
 (.seq (.reg [(rO 3 (.ld (some 8) (.tmp 1))),
 (rO 4 (.call 21 [(.tmp 3)])),
 (rO 5 (.bld [.int .i64 (0), .int .i64 (0), .int .i64 (0), .int .i64 (0), .int .i64 (0), .int .i64 (0), .int .i64 (0), .int .i64 (0), .slice none 0 0, .slice none 0 0, .slice none 0 0] [(0, 8, (.tmp 4))])),
 (rO 6 (.box 71 (.tmp 5))),
 (rO 2 (.mv (.tmp 6)))])
 .ret))
def r7 : List RV := [.tmp 2]
theorem ok7 : FnOk Tryz.prog 7 7 c7 r7 := ⟨[40, 45], _, _, Tryz.func7, rfl, rfl, by kernel_rfl, by kernel_rfl, by kernel_rfl⟩
/-- vouch/vouchref09.Held -/
def c21 : C := (.seq (.reg [(rO 1 (.box 23 (.tmp 0))),
 (rO 2 (.new 23 [.int .i64 (0), .int .i64 (0), .int .i64 (0), .int .i64 (0), .int .i64 (0), .int .i64 (0), .int .i64 (0), .int .i64 (0)]))])
 (.seq (.draw [⟨(rO 3 (.fa 0 (.tmp 1))), .p⟩,
 ⟨(rO 4 (.ld none (.tmp 3))), .l⟩,
 ⟨(rO 5 (.call 50 [(.tmp 4), (.const (.int .i64 1)), (.const (.int .i64 8))])), .g⟩,
 ⟨(rO 6 (.fa 1 (.tmp 1))), .p⟩,
 ⟨(rO 7 (.ld none (.tmp 6))), .l⟩,
 ⟨(rO 8 (.call 50 [(.tmp 7), (.const (.int .i64 0)), (.const (.int .i64 1048576))])), .g⟩,
 ⟨(rO 9 (.fa 2 (.tmp 1))), .p⟩,
 ⟨(rO 10 (.ld none (.tmp 9))), .l⟩,
 ⟨(rO 11 (.call 50 [(.tmp 10), (.const (.int .i64 1)), (.const (.int .i64 64))])), .g⟩,
 ⟨(rO 12 (.fa 3 (.tmp 1))), .p⟩,
 ⟨(rO 13 (.ld none (.tmp 12))), .l⟩,
 ⟨(rO 14 (.call 50 [(.tmp 13), (.const (.int .i64 0)), (.const (.int .i64 256))])), .g⟩,
 ⟨(rO 15 (.fa 4 (.tmp 1))), .p⟩,
 ⟨(rO 16 (.ld none (.tmp 15))), .l⟩,
 ⟨(rO 17 (.call 50 [(.tmp 16), (.const (.int .i64 0)), (.const (.int .i64 1024))])), .g⟩,
 ⟨(rO 18 (.fa 5 (.tmp 1))), .p⟩,
 ⟨(rO 19 (.ld none (.tmp 18))), .l⟩,
 ⟨(rO 20 (.call 50 [(.tmp 19), (.const (.int .i64 1)), (.const (.int .i64 64))])), .g⟩,
 ⟨(rO 21 (.fa 6 (.tmp 1))), .p⟩,
 ⟨(rO 22 (.ld none (.tmp 21))), .l⟩,
 ⟨(rO 23 (.call 50 [(.tmp 22), (.const (.int .i64 0)), (.const (.int .i64 256))])), .g⟩,
 ⟨(rO 24 (.fa 7 (.tmp 1))), .p⟩,
 ⟨(rO 25 (.ld none (.tmp 24))), .l⟩,
 ⟨(rO 26 (.call 50 [(.tmp 25), (.const (.int .i64 0)), (.const (.int .i64 16))])), .m⟩,
 ⟨(rO 27 (.bld [.int .i64 (0), .int .i64 (0), .int .i64 (0), .int .i64 (0), .int .i64 (0), .int .i64 (0), .int .i64 (0), .int .i64 (0)] [(0, 1, (.tmp 5)), (1, 1, (.tmp 8)), (2, 1, (.tmp 11)), (3, 1, (.tmp 14)), (4, 1, (.tmp 17)), (5, 1, (.tmp 20)), (6, 1, (.tmp 23)), (7, 1, (.tmp 26))])), .p⟩,
 ⟨⟨none, (.st 8 (.tmp 2) (.tmp 27)), none⟩, .m⟩])
 .ret))
def r21 : List RV := [.agg 2 8]
theorem ok21 : FnOk Tryz.prog 21 28 c21 r21 := ⟨[40, 45], _, _, Tryz.func21, rfl, rfl, by kernel_rfl, by kernel_rfl, by kernel_rfl⟩
/-- (*vouch/vouchref18.Client).Read -/
def c23 : C := (.seq (.reg [(rO 6 (.new 35 [.bool false, .string ⟨#[]⟩])),
 (rO 7 (.new 39 [.int .i64 (0), .int .i64 (0), .int .i64 (0), .int .i64 (0), .int .i64 (0), .int .i64 (0), .string ⟨#[]⟩, .int .i64 (0), .int .i64 (0), .bool false, .string ⟨#[]⟩, .bool false, .int .i64 (0), .int .i64 (0), .slice none 0 0, .slice none 0 0])),
 (rO 8 (.mv (.const (.int .i64 0))))])
 (.seq (.seq (.reg [(rO 9 (.mv (.tmp 0))),
 (rO 10 (.mv (.tmp 1))),
 (rO 11 (.call 52 [(.tmp 9), (.tmp 10)])),
 (rO 12 (.nt (.tmp 11)))])
 (.cond (.tmp 12) (.seq (.reg [(rO 13 (.bld [.bool false, .string ⟨#[]⟩] [])),
 (rO 14 (.bld [.int .i64 (0), .int .i64 (0), .int .i64 (0), .int .i64 (0), .int .i64 (0), .int .i64 (0), .string ⟨#[]⟩, .int .i64 (0), .int .i64 (0), .bool false, .string ⟨#[]⟩, .bool false, .int .i64 (0), .int .i64 (0), .slice none 0 0, .slice none 0 0] [])),
 ⟨none, (.st 2 (.tmp 6) (.tmp 13)), none⟩,
 ⟨none, (.st 16 (.tmp 7) (.tmp 14)), none⟩,
 (rO 8 (.mv (.const (.int .i64 3))))])
 .ret)
 .skip))
 (.seq (.reg [(rO 15 (.mv (.tmp 0))),
 (rO 16 (.nilc (.tmp 15))),
 (rO 17 (.fa 9 (.tmp 16))),
 (rO 18 (.ld none (.tmp 17))),
 (rO 19 (.mv (.tmp 1))),
 (rO 20 (.ia 10 (.tmp 18) (.tmp 19))),
 (rO 21 (.mv (.tmp 2))),
 (rO 22 (.call 53 [(.tmp 20), (.tmp 21)])),
 (rO 23 (.ext 0 (.tmp 22))),
 (rO 24 (.ext 1 (.tmp 22))),
 (rO 25 (.ext 2 (.tmp 22))),
 ⟨none, (.st 2 (.tmp 6) (.tmp 23)), none⟩,
 ⟨none, (.st 16 (.tmp 7) (.tmp 24)), none⟩,
 (rO 8 (.mv (.tmp 25)))])
 .ret)))
def r23 : List RV := [.agg 6 2, .agg 7 16, .tmp 8]
theorem ok23 : FnOk Tryz.prog 23 26 c23 r23 := ⟨[40, 45], _, _, Tryz.func23, rfl, rfl, by kernel_rfl, by kernel_rfl, by kernel_rfl⟩
/-- (*vouch/vouchref18.Client).Retry -/
def c26 : C := (.seq (.reg [(rO 4 (.new 39 [.int .i64 (0), .int .i64 (0), .int .i64 (0), .int .i64 (0), .int .i64 (0), .int .i64 (0), .string ⟨#[]⟩, .int .i64 (0), .int .i64 (0), .bool false, .string ⟨#[]⟩, .bool false, .int .i64 (0), .int .i64 (0), .slice none 0 0, .slice none 0 0])),
 (rO 5 (.mv (.const (.int .i64 0))))])
 (.seq (.seq (.reg [(rO 6 (.mv (.tmp 0))),
 (rO 7 (.mv (.tmp 1))),
 (rO 8 (.call 52 [(.tmp 6), (.tmp 7)])),
 (rO 9 (.nt (.tmp 8)))])
 (.cond (.tmp 9) (.seq (.reg [(rO 10 (.bld [.int .i64 (0), .int .i64 (0), .int .i64 (0), .int .i64 (0), .int .i64 (0), .int .i64 (0), .string ⟨#[]⟩, .int .i64 (0), .int .i64 (0), .bool false, .string ⟨#[]⟩, .bool false, .int .i64 (0), .int .i64 (0), .slice none 0 0, .slice none 0 0] [])),
 ⟨none, (.st 16 (.tmp 4) (.tmp 10)), none⟩,
 (rO 5 (.mv (.const (.int .i64 3))))])
 .ret)
 .skip))
 (.seq (.draw [⟨(rO 11 (.mv (.tmp 0))), .p⟩,
 ⟨(rO 12 (.nilc (.tmp 11))), .p⟩,
 ⟨(rO 13 (.fa 9 (.tmp 12))), .p⟩,
 ⟨(rO 14 (.ld none (.tmp 13))), .l⟩,
 ⟨(rO 15 (.mv (.tmp 1))), .p⟩,
 ⟨(rO 16 (.ia 10 (.tmp 14) (.tmp 15))), .p⟩,
 ⟨(rO 17 (.mv (.tmp 0))), .p⟩,
 ⟨(rO 18 (.nilc (.tmp 17))), .p⟩,
 ⟨(rO 19 (.fa 0 (.tmp 18))), .p⟩,
 ⟨(rO 20 (.fa 7 (.tmp 19))), .p⟩,
 ⟨(rO 21 (.ld none (.tmp 20))), .l⟩,
 ⟨(rO 22 (.call 57 [(.tmp 16), (.tmp 21)])), .m⟩,
 ⟨(rO 23 (.ext 0 (.tmp 22))), .p⟩,
 ⟨(rO 24 (.ext 1 (.tmp 22))), .p⟩,
 ⟨⟨none, (.st 16 (.tmp 4) (.tmp 23)), none⟩, .m⟩,
 ⟨(rO 5 (.mv (.tmp 24))), .p⟩])
 .ret)))
def r26 : List RV := [.agg 4 16, .tmp 5]
theorem ok26 : FnOk Tryz.prog 26 25 c26 r26 := ⟨[40, 45], _, _, Tryz.func26, rfl, rfl, by kernel_rfl, by kernel_rfl, by kernel_rfl⟩
/-- (*vouch/vouchref18.Client).Finish -/
def c27 : C := (.seq (.reg [(rO 4 (.mv (.const (.int .i64 0)))),
 (rO 5 (.mv (.const (.int .i64 0))))])
 (.seq (.seq (.reg [(rO 8 (.mv (.tmp 0))),
 (rO 9 (.mv (.tmp 1))),
 (rO 10 (.call 52 [(.tmp 8), (.tmp 9)])),
 (rO 11 (.nt (.tmp 10)))])
 (.cond (.tmp 11) (.seq (.reg [(rO 4 (.mv (.const (.int .i64 0)))),
 (rO 5 (.mv (.const (.int .i64 3))))])
 .ret)
 .skip))
 (.seq (.reg [(rO 13 (.mv (.tmp 0))),
 (rO 14 (.nilc (.tmp 13))),
 (rO 15 (.fa 9 (.tmp 14))),
 (rO 16 (.ld none (.tmp 15))),
 (rO 17 (.mv (.tmp 1))),
 (rO 18 (.ia 10 (.tmp 16) (.tmp 17))),
 (rO 19 (.call 58 [(.tmp 18)])),
 (rO 12 (.mv (.tmp 19))),
 (rO 20 (.ext 0 (.tmp 12))),
 (rO 21 (.ext 1 (.tmp 12))),
 (rO 6 (.mv (.tmp 20))),
 (rO 7 (.mv (.tmp 21)))])
 (.seq (.seq (.reg [(rO 22 (.mv (.tmp 7))),
 (rO 23 (.bin .eql (.tmp 22) (.const (.int .i64 0))))])
 (.cond (.tmp 23) (.draw [⟨(rO 24 (.mv (.tmp 0))), .p⟩,
 ⟨(rO 25 (.nilc (.tmp 24))), .p⟩,
 ⟨(rO 26 (.fa 8 (.tmp 25))), .p⟩,
 ⟨(rO 27 (.ld none (.tmp 26))), .l⟩,
 ⟨(rO 28 (.mv (.tmp 0))), .p⟩,
 ⟨(rO 29 (.nilc (.tmp 28))), .p⟩,
 ⟨(rO 30 (.fa 10 (.tmp 29))), .p⟩,
 ⟨(rO 31 (.ld none (.tmp 30))), .l⟩,
 ⟨(rO 32 (.mv (.tmp 1))), .p⟩,
 ⟨(rO 33 (.ia 1 (.tmp 31) (.tmp 32))), .p⟩,
 ⟨(rO 34 (.ld none (.tmp 33))), .l⟩,
 ⟨(rO 35 (.ia 8 (.tmp 27) (.tmp 34))), .p⟩,
 ⟨(rO 36 (.mv (.tmp 6))), .p⟩,
 ⟨(rO 37 (.call 59 [(.tmp 35), (.tmp 36)])), .m⟩])
 .skip))
 (.seq (.reg [(rO 38 (.mv (.tmp 6))),
 (rO 39 (.mv (.tmp 7))),
 (rO 4 (.mv (.tmp 38))),
 (rO 5 (.mv (.tmp 39)))])
 .ret)))))
def r27 : List RV := [.tmp 4, .tmp 5]
theorem ok27 : FnOk Tryz.prog 27 40 c27 r27 := ⟨[40, 45], _, _, Tryz.func27, rfl, rfl, by kernel_rfl, by kernel_rfl, by kernel_rfl⟩
/-- (*vouch/vouchref18.Client).Hear -/
def c28 : C := (.seq (.reg [(rO 3 (.box 39 (.tmp 1))),
 (rO 4 (.new 39 [.int .i64 (0), .int .i64 (0), .int .i64 (0), .int .i64 (0), .int .i64 (0), .int .i64 (0), .string ⟨#[]⟩, .int .i64 (0), .int .i64 (0), .bool false, .string ⟨#[]⟩, .bool false, .int .i64 (0), .int .i64 (0), .slice none 0 0, .slice none 0 0])),
 (rO 5 (.mv (.const (.bool false))))])
 (.seq (.seq (.reg [(rO 6 (.fa 0 (.tmp 3))),
 (rO 7 (.ld none (.tmp 6))),
 (rO 8 (.bin .eql (.tmp 7) (.const (.int .i64 2))))])
 (.cond (.tmp 8) (.seq (.draw [⟨(rO 9 (.bld [.int .i64 (0), .int .i64 (0), .int .i64 (0), .int .i64 (0), .int .i64 (0), .int .i64 (0), .string ⟨#[]⟩, .int .i64 (0), .int .i64 (0), .bool false, .string ⟨#[]⟩, .bool false, .int .i64 (0), .int .i64 (0), .slice none 0 0, .slice none 0 0] [])), .p⟩,
 ⟨(rO 10 (.mv (.tmp 0))), .p⟩,
 ⟨(rO 11 (.fa 3 (.tmp 3))), .p⟩,
 ⟨(rO 12 (.ld none (.tmp 11))), .l⟩,
 ⟨(rO 13 (.call 60 [(.tmp 10), (.tmp 12)])), .m⟩,
 ⟨(rO 14 (.mv (.tmp 13))), .p⟩,
 ⟨⟨(some 15), (.mv (.tmp 0)), (some (14, true))⟩, .p⟩,
 ⟨⟨(some 16), (.nilc (.tmp 15)), (some (14, true))⟩, .p⟩,
 ⟨⟨(some 17), (.fa 8 (.tmp 16)), (some (14, true))⟩, .p⟩,
 ⟨⟨(some 18), (.ld none (.tmp 17)), (some (14, true))⟩, .l⟩,
 ⟨⟨(some 19), (.fa 3 (.tmp 3)), (some (14, true))⟩, .p⟩,
 ⟨⟨(some 20), (.ld none (.tmp 19)), (some (14, true))⟩, .l⟩,
 ⟨⟨(some 21), (.ia 8 (.tmp 18) (.tmp 20)), (some (14, true))⟩, .p⟩,
 ⟨⟨(some 22), (.ld (some 16) (.tmp 3)), (some (14, true))⟩, .l⟩,
 ⟨⟨(some 23), (.call 61 [(.tmp 21), (.tmp 22)]), (some (14, true))⟩, .m⟩,
 ⟨(rO 24 (.pick (.tmp 14) (.tmp 23) (.const (.bool false)))), .p⟩,
 ⟨⟨none, (.st 16 (.tmp 4) (.tmp 9)), none⟩, .m⟩,
 ⟨(rO 5 (.mv (.tmp 24))), .p⟩])
 .ret)
 .skip))
 (.seq (.seq (.reg [(rO 25 (.mv (.tmp 0))),
 (rO 26 (.fa 4 (.tmp 3))),
 (rO 27 (.ld none (.tmp 26))),
 (rO 28 (.call 52 [(.tmp 25), (.tmp 27)])),
 (rO 29 (.nt (.tmp 28)))])
 (.cond (.tmp 29) (.seq (.reg [(rO 30 (.bld [.int .i64 (0), .int .i64 (0), .int .i64 (0), .int .i64 (0), .int .i64 (0), .int .i64 (0), .string ⟨#[]⟩, .int .i64 (0), .int .i64 (0), .bool false, .string ⟨#[]⟩, .bool false, .int .i64 (0), .int .i64 (0), .slice none 0 0, .slice none 0 0] [])),
 ⟨none, (.st 16 (.tmp 4) (.tmp 30)), none⟩,
 (rO 5 (.mv (.const (.bool false))))])
 .ret)
 .skip))
 (.seq (.draw [⟨(rO 31 (.mv (.tmp 0))), .p⟩,
 ⟨(rO 32 (.nilc (.tmp 31))), .p⟩,
 ⟨(rO 33 (.fa 9 (.tmp 32))), .p⟩,
 ⟨(rO 34 (.ld none (.tmp 33))), .l⟩,
 ⟨(rO 35 (.fa 4 (.tmp 3))), .p⟩,
 ⟨(rO 36 (.ld none (.tmp 35))), .l⟩,
 ⟨(rO 37 (.ia 10 (.tmp 34) (.tmp 36))), .p⟩,
 ⟨(rO 38 (.ld (some 16) (.tmp 3))), .l⟩,
 ⟨(rO 39 (.call 62 [(.tmp 37), (.tmp 38)])), .m⟩,
 ⟨(rO 40 (.ext 0 (.tmp 39))), .p⟩,
 ⟨(rO 41 (.ext 1 (.tmp 39))), .p⟩,
 ⟨⟨none, (.st 16 (.tmp 4) (.tmp 40)), none⟩, .m⟩,
 ⟨(rO 5 (.mv (.tmp 41))), .p⟩])
 .ret))))
def r28 : List RV := [.agg 4 16, .tmp 5]
theorem ok28 : FnOk Tryz.prog 28 42 c28 r28 := ⟨[40, 45], _, _, Tryz.func28, rfl, rfl, by kernel_rfl, by kernel_rfl, by kernel_rfl⟩
/-- (*vouch/vouchref18.Client).Session -/
def c31 : C := (.seq (.reg [(rO 4 (.new 83 [.int .i64 (0), .bool false, .int .i64 (0), .int .i64 (0), .int .i64 (0), .int .i64 (0)])),
 (rO 5 (.mv (.const (.bool false))))])
 (.seq (.seq (.reg [(rO 6 (.mv (.tmp 0))),
 (rO 7 (.mv (.tmp 1))),
 (rO 8 (.call 60 [(.tmp 6), (.tmp 7)])),
 (rO 9 (.nt (.tmp 8)))])
 (.cond (.tmp 9) (.seq (.reg [(rO 10 (.bld [.int .i64 (0), .bool false, .int .i64 (0), .int .i64 (0), .int .i64 (0), .int .i64 (0)] [])),
 ⟨none, (.st 6 (.tmp 4) (.tmp 10)), none⟩,
 (rO 5 (.mv (.const (.bool false))))])
 .ret)
 .skip))
 (.seq (.reg [(rO 11 (.mv (.tmp 0))),
 (rO 12 (.nilc (.tmp 11))),
 (rO 13 (.fa 8 (.tmp 12))),
 (rO 14 (.ld none (.tmp 13))),
 (rO 15 (.mv (.tmp 1))),
 (rO 16 (.ia 8 (.tmp 14) (.tmp 15))),
 (rO 17 (.fa 1 (.tmp 16))),
 (rO 18 (.ld (some 6) (.tmp 17))),
 ⟨none, (.st 6 (.tmp 4) (.tmp 18)), none⟩,
 (rO 5 (.mv (.const (.bool true))))])
 .ret)))
def r31 : List RV := [.agg 4 6, .tmp 5]
theorem ok31 : FnOk Tryz.prog 31 19 c31 r31 := ⟨[40, 45], _, _, Tryz.func31, rfl, rfl, by kernel_rfl, by kernel_rfl, by kernel_rfl⟩
/-- (*vouch/vouchref18.Client).Tx -/
def c33 : C := (.seq (.reg [(rO 4 (.new 88 [.int .i64 (0), .int .i64 (0), .int .i64 (0), .int .i64 (0), .string ⟨#[]⟩, .int .i64 (0), .int .i64 (0), .slice none 0 0])),
 (rO 5 (.mv (.const (.bool false))))])
 (.seq (.seq (.reg [(rO 6 (.mv (.tmp 0))),
 (rO 7 (.mv (.tmp 1))),
 (rO 8 (.call 52 [(.tmp 6), (.tmp 7)])),
 (rO 9 (.nt (.tmp 8)))])
 (.cond (.tmp 9) (.seq (.reg [(rO 10 (.bld [.int .i64 (0), .int .i64 (0), .int .i64 (0), .int .i64 (0), .string ⟨#[]⟩, .int .i64 (0), .int .i64 (0), .slice none 0 0] [])),
 ⟨none, (.st 8 (.tmp 4) (.tmp 10)), none⟩,
 (rO 5 (.mv (.const (.bool false))))])
 .ret)
 .skip))
 (.seq (.reg [(rO 11 (.mv (.tmp 0))),
 (rO 12 (.nilc (.tmp 11))),
 (rO 13 (.fa 9 (.tmp 12))),
 (rO 14 (.ld none (.tmp 13))),
 (rO 15 (.mv (.tmp 1))),
 (rO 16 (.ia 10 (.tmp 14) (.tmp 15))),
 (rO 17 (.fa 2 (.tmp 16))),
 (rO 18 (.ld (some 8) (.tmp 17))),
 ⟨none, (.st 8 (.tmp 4) (.tmp 18)), none⟩,
 (rO 5 (.mv (.const (.bool true))))])
 .ret)))
def r33 : List RV := [.agg 4 8, .tmp 5]
theorem ok33 : FnOk Tryz.prog 33 19 c33 r33 := ⟨[40, 45], _, _, Tryz.func33, rfl, rfl, by kernel_rfl, by kernel_rfl, by kernel_rfl⟩
/-- vouch/vouchref17.Same -/
def c34 : C := (.seq (.reg [(rO 2 (.box 88 (.tmp 0))),
 (rO 3 (.box 88 (.tmp 1))),
 (rO 4 (.mv (.const (.bool false))))])
 (.seq (.seq (.reg [(rO 6 (.fa 0 (.tmp 2))),
 (rO 7 (.ld none (.tmp 6))),
 (rO 8 (.fa 0 (.tmp 3))),
 (rO 9 (.ld none (.tmp 8))),
 (rO 10 (.bin .neq (.tmp 7) (.tmp 9))),
 (rO 11 (.mv (.tmp 10))),
 ⟨(some 12), (.fa 1 (.tmp 2)), (some (11, false))⟩,
 ⟨(some 13), (.ld none (.tmp 12)), (some (11, false))⟩,
 ⟨(some 14), (.fa 1 (.tmp 3)), (some (11, false))⟩,
 ⟨(some 15), (.ld none (.tmp 14)), (some (11, false))⟩,
 ⟨(some 16), (.bin .neq (.tmp 13) (.tmp 15)), (some (11, false))⟩,
 (rO 17 (.pick (.tmp 11) (.const (.bool true)) (.tmp 16))),
 (rO 18 (.mv (.tmp 17))),
 ⟨(some 19), (.fa 2 (.tmp 2)), (some (18, false))⟩,
 ⟨(some 20), (.ld (some 2) (.tmp 19)), (some (18, false))⟩,
 ⟨(some 21), (.fa 2 (.tmp 3)), (some (18, false))⟩,
 ⟨(some 22), (.ld (some 2) (.tmp 21)), (some (18, false))⟩,
 ⟨(some 23), (.eqa true [.num, .num] (.tmp 20) (.tmp 22)), (some (18, false))⟩,
 (rO 24 (.pick (.tmp 18) (.const (.bool true)) (.tmp 23))),
 (rO 25 (.mv (.tmp 24))),
 ⟨(some 26), (.fa 4 (.tmp 2)), (some (25, false))⟩,
 ⟨(some 27), (.ld none (.tmp 26)), (some (25, false))⟩,
 ⟨(some 28), (.fa 4 (.tmp 3)), (some (25, false))⟩,
 ⟨(some 29), (.ld none (.tmp 28)), (some (25, false))⟩,
 ⟨(some 30), (.bin .neq (.tmp 27) (.tmp 29)), (some (25, false))⟩,
 (rO 31 (.pick (.tmp 25) (.const (.bool true)) (.tmp 30))),
 (rO 32 (.mv (.tmp 31))),
 ⟨(some 33), (.fa 5 (.tmp 2)), (some (32, false))⟩,
 ⟨(some 34), (.ld none (.tmp 33)), (some (32, false))⟩,
 ⟨(some 35), (.fa 5 (.tmp 3)), (some (32, false))⟩,
 ⟨(some 36), (.ld none (.tmp 35)), (some (32, false))⟩,
 ⟨(some 37), (.bin .neq (.tmp 34) (.tmp 36)), (some (32, false))⟩,
 (rO 38 (.pick (.tmp 32) (.const (.bool true)) (.tmp 37))),
 (rO 39 (.mv (.tmp 38))),
 ⟨(some 40), (.fa 6 (.tmp 2)), (some (39, false))⟩,
 ⟨(some 41), (.ld none (.tmp 40)), (some (39, false))⟩,
 ⟨(some 42), (.fa 6 (.tmp 3)), (some (39, false))⟩,
 ⟨(some 43), (.ld none (.tmp 42)), (some (39, false))⟩,
 ⟨(some 44), (.bin .neq (.tmp 41) (.tmp 43)), (some (39, false))⟩,
 (rO 45 (.pick (.tmp 39) (.const (.bool true)) (.tmp 44))),
 (rO 46 (.mv (.tmp 45))),
 ⟨(some 47), (.fa 7 (.tmp 2)), (some (46, false))⟩,
 ⟨(some 48), (.ld none (.tmp 47)), (some (46, false))⟩,
 ⟨(some 49), (.len true (.tmp 48)), (some (46, false))⟩,
 ⟨(some 50), (.fa 7 (.tmp 3)), (some (46, false))⟩,
 ⟨(some 51), (.ld none (.tmp 50)), (some (46, false))⟩,
 ⟨(some 52), (.len true (.tmp 51)), (some (46, false))⟩,
 ⟨(some 53), (.bin .neq (.tmp 49) (.tmp 52)), (some (46, false))⟩,
 (rO 54 (.pick (.tmp 46) (.const (.bool true)) (.tmp 53)))])
 (.cond (.tmp 54) (.seq (.reg [(rO 4 (.mv (.const (.bool false))))])
 .ret)
 .skip))
 (.seq (.seq (.reg [(rO 5 (.mv (.const (.int .i64 0))))])
 (.block 0 (.loop (.seq (.seq (.reg [(rO 55 (.mv (.tmp 5))),
 (rO 56 (.fa 7 (.tmp 2))),
 (rO 57 (.ld none (.tmp 56))),
 (rO 58 (.len true (.tmp 57))),
 (rO 59 (.bin .lss (.tmp 55) (.tmp 58)))])
 (.cond (.tmp 59) .skip
 (.exit 0)))
 (.seq (.block 1 (.seq (.draw [⟨(rO 62 (.fa 7 (.tmp 2))), .p⟩,
 ⟨(rO 63 (.ld none (.tmp 62))), .l⟩,
 ⟨(rO 64 (.mv (.tmp 5))), .p⟩,
 ⟨(rO 65 (.ia 3 (.tmp 63) (.tmp 64))), .p⟩,
 ⟨(rO 66 (.ld (some 3) (.tmp 65))), .l⟩,
 ⟨(rO 67 (.fa 7 (.tmp 3))), .p⟩,
 ⟨(rO 68 (.ld none (.tmp 67))), .l⟩,
 ⟨(rO 69 (.mv (.tmp 5))), .p⟩,
 ⟨(rO 70 (.ia 3 (.tmp 68) (.tmp 69))), .p⟩,
 ⟨(rO 71 (.ld (some 3) (.tmp 70))), .l⟩,
 ⟨(rO 72 (.eqa true [.text, .truth, .text] (.tmp 66) (.tmp 71))), .p⟩])
 (.cond (.tmp 72) (.seq (.reg [(rO 4 (.mv (.const (.bool false))))])
 .ret)
 .skip)))
 (.reg [(rO 60 (.mv (.tmp 5))),
 (rO 61 (.bin .add (.tmp 60) (.const (.int .i64 1)))),
 (rO 5 (.mv (.tmp 61)))]))))))
 (.seq (.reg [(rO 4 (.mv (.const (.bool true))))])
 .ret))))
def r34 : List RV := [.tmp 4]
theorem ok34 : FnOk Tryz.prog 34 73 c34 r34 := ⟨[40, 45], _, _, Tryz.func34, rfl, rfl, by kernel_rfl, by kernel_rfl, by kernel_rfl⟩
/-- vouch/vouchref09.held -/
def c50 : C := (.seq (.reg [(rO 6 (.mv (.const (.int .i64 0))))])
 (.seq (.seq (.reg [(rO 7 (.mv (.tmp 0))),
 (rO 8 (.mv (.tmp 1))),
 (rO 9 (.bin .lss (.tmp 7) (.tmp 8)))])
 (.cond (.tmp 9) (.seq (.reg [(rO 10 (.mv (.tmp 1))),
 (rO 6 (.mv (.tmp 10)))])
 .ret)
 .skip))
 (.seq (.seq (.reg [(rO 11 (.mv (.tmp 0))),
 (rO 12 (.mv (.tmp 2))),
 (rO 13 (.bin .gtr (.tmp 11) (.tmp 12)))])
 (.cond (.tmp 13) (.seq (.reg [(rO 14 (.mv (.tmp 2))),
 (rO 6 (.mv (.tmp 14)))])
 .ret)
 .skip))
 (.seq (.reg [(rO 15 (.mv (.tmp 0))),
 (rO 6 (.mv (.tmp 15)))])
 .ret))))
def r50 : List RV := [.tmp 6]
theorem ok50 : FnOk Tryz.prog 50 16 c50 r50 := ⟨[40, 45], _, _, Tryz.func50, rfl, rfl, by kernel_rfl, by kernel_rfl, by kernel_rfl⟩
/-- (*vouch/vouchref18.Client).runs -/
def c52 : C := (.seq (.reg [(rO 4 (.mv (.const (.bool false))))])
 (.seq (.reg [(rO 5 (.mv (.tmp 1))),
 (rO 6 (.bin .geq (.tmp 5) (.const (.int .i64 0)))),
 (rO 7 (.mv (.tmp 6))),
 ⟨(some 8), (.mv (.tmp 1)), (some (7, true))⟩,
 ⟨(some 9), (.mv (.tmp 0)), (some (7, true))⟩,
 ⟨(some 10), (.nilc (.tmp 9)), (some (7, true))⟩,
 ⟨(some 11), (.fa 9 (.tmp 10)), (some (7, true))⟩,
 ⟨(some 12), (.ld none (.tmp 11)), (some (7, true))⟩,
 ⟨(some 13), (.len true (.tmp 12)), (some (7, true))⟩,
 ⟨(some 14), (.bin .lss (.tmp 8) (.tmp 13)), (some (7, true))⟩,
 (rO 15 (.pick (.tmp 7) (.tmp 14) (.const (.bool false)))),
 (rO 4 (.mv (.tmp 15)))])
 .ret))
def r52 : List RV := [.tmp 4]
theorem ok52 : FnOk Tryz.prog 52 16 c52 r52 := ⟨[40, 45], _, _, Tryz.func52, rfl, rfl, by kernel_rfl, by kernel_rfl, by kernel_rfl⟩
/-- (*vouch/vouchref17.Tx).Read -/
def c53 : C := (.seq (.reg [(rO 4 (.new 35 [.bool false, .string ⟨#[]⟩])),
 (rO 5 (.new 39 [.int .i64 (0), .int .i64 (0), .int .i64 (0), .int .i64 (0), .int .i64 (0), .int .i64 (0), .string ⟨#[]⟩, .int .i64 (0), .int .i64 (0), .bool false, .string ⟨#[]⟩, .bool false, .int .i64 (0), .int .i64 (0), .slice none 0 0, .slice none 0 0])),
 (rO 6 (.mv (.const (.int .i64 0))))])
 (.seq (.block 0 (.seq (.reg [(rO 9 (.mv (.tmp 0))),
 (rO 10 (.nilc (.tmp 9))),
 (rO 11 (.fa 2 (.tmp 10))),
 (rO 12 (.fa 0 (.tmp 11))),
 (rO 13 (.ld none (.tmp 12))),
 (rO 14 (.bin .gtr (.tmp 13) (.const (.int .i64 2)))),
 (rO 8 (.mv (.tmp 14)))])
 (.cond (.tmp 8) (.seq (.reg [(rO 15 (.bld [.bool false, .string ⟨#[]⟩] [])),
 (rO 16 (.bld [.int .i64 (0), .int .i64 (0), .int .i64 (0), .int .i64 (0), .int .i64 (0), .int .i64 (0), .string ⟨#[]⟩, .int .i64 (0), .int .i64 (0), .bool false, .string ⟨#[]⟩, .bool false, .int .i64 (0), .int .i64 (0), .slice none 0 0, .slice none 0 0] [])),
 ⟨none, (.st 2 (.tmp 4) (.tmp 15)), none⟩,
 ⟨none, (.st 16 (.tmp 5) (.tmp 16)), none⟩,
 (rO 6 (.mv (.const (.int .i64 40))))])
 .ret)
 (.seq (.reg [(rO 18 (.mv (.tmp 0))),
 (rO 19 (.nilc (.tmp 18))),
 (rO 20 (.fa 2 (.tmp 19))),
 (rO 21 (.fa 0 (.tmp 20))),
 (rO 22 (.ld none (.tmp 21))),
 (rO 23 (.bin .gtr (.tmp 22) (.const (.int .i64 0)))),
 (rO 17 (.mv (.tmp 23)))])
 (.cond (.tmp 17) (.seq (.reg [(rO 24 (.bld [.bool false, .string ⟨#[]⟩] [])),
 (rO 25 (.bld [.int .i64 (0), .int .i64 (0), .int .i64 (0), .int .i64 (0), .int .i64 (0), .int .i64 (0), .string ⟨#[]⟩, .int .i64 (0), .int .i64 (0), .bool false, .string ⟨#[]⟩, .bool false, .int .i64 (0), .int .i64 (0), .slice none 0 0, .slice none 0 0] [])),
 ⟨none, (.st 2 (.tmp 4) (.tmp 24)), none⟩,
 ⟨none, (.st 16 (.tmp 5) (.tmp 25)), none⟩,
 (rO 6 (.mv (.const (.int .i64 31))))])
 .ret)
 (.seq (.reg [(rO 27 (.mv (.tmp 1))),
 (rO 28 (.call 83 [(.tmp 27)])),
 (rO 29 (.nt (.tmp 28))),
 (rO 26 (.mv (.tmp 29)))])
 (.cond (.tmp 26) (.seq (.reg [(rO 30 (.bld [.bool false, .string ⟨#[]⟩] [])),
 (rO 31 (.bld [.int .i64 (0), .int .i64 (0), .int .i64 (0), .int .i64 (0), .int .i64 (0), .int .i64 (0), .string ⟨#[]⟩, .int .i64 (0), .int .i64 (0), .bool false, .string ⟨#[]⟩, .bool false, .int .i64 (0), .int .i64 (0), .slice none 0 0, .slice none 0 0] [])),
 ⟨none, (.st 2 (.tmp 4) (.tmp 30)), none⟩,
 ⟨none, (.st 16 (.tmp 5) (.tmp 31)), none⟩,
 (rO 6 (.mv (.const (.int .i64 1))))])
 .ret)
 .skip)))))))
 (.seq (.seq (.reg [(rO 7 (.mv (.const (.int .i64 0))))])
 (.block 1 (.loop (.seq (.seq (.reg [(rO 32 (.mv (.tmp 7))),
 (rO 33 (.mv (.tmp 0))),
 (rO 34 (.nilc (.tmp 33))),
 (rO 35 (.fa 2 (.tmp 34))),
 (rO 36 (.fa 7 (.tmp 35))),
 (rO 37 (.ld none (.tmp 36))),
 (rO 38 (.len true (.tmp 37))),
 (rO 39 (.bin .lss (.tmp 32) (.tmp 38)))])
 (.cond (.tmp 39) .skip
 (.exit 1)))
 (.seq (.block 2 (.seq (.reg [(rO 42 (.mv (.tmp 0))),
 (rO 43 (.nilc (.tmp 42))),
 (rO 44 (.fa 2 (.tmp 43))),
 (rO 45 (.fa 7 (.tmp 44))),
 (rO 46 (.ld none (.tmp 45))),
 (rO 47 (.mv (.tmp 7))),
 (rO 48 (.ia 3 (.tmp 46) (.tmp 47))),
 (rO 49 (.fa 0 (.tmp 48))),
 (rO 50 (.ld none (.tmp 49))),
 (rO 51 (.mv (.tmp 1))),
 (rO 52 (.bin .eql (.tmp 50) (.tmp 51)))])
 (.cond (.tmp 52) (.seq (.reg [(rO 53 (.mv (.tmp 0))),
 (rO 54 (.nilc (.tmp 53))),
 (rO 55 (.fa 2 (.tmp 54))),
 (rO 56 (.fa 7 (.tmp 55))),
 (rO 57 (.ld none (.tmp 56))),
 (rO 58 (.mv (.tmp 7))),
 (rO 59 (.ia 3 (.tmp 57) (.tmp 58))),
 (rO 60 (.fa 1 (.tmp 59))),
 (rO 61 (.ld (some 2) (.tmp 60))),
 (rO 62 (.bld [.int .i64 (0), .int .i64 (0), .int .i64 (0), .int .i64 (0), .int .i64 (0), .int .i64 (0), .string ⟨#[]⟩, .int .i64 (0), .int .i64 (0), .bool false, .string ⟨#[]⟩, .bool false, .int .i64 (0), .int .i64 (0), .slice none 0 0, .slice none 0 0] [])),
 ⟨none, (.st 2 (.tmp 4) (.tmp 61)), none⟩,
 ⟨none, (.st 16 (.tmp 5) (.tmp 62)), none⟩,
 (rO 6 (.mv (.const (.int .i64 0))))])
 .ret)
 .skip)))
 (.reg [(rO 40 (.mv (.tmp 7))),
 (rO 41 (.bin .add (.tmp 40) (.const (.int .i64 1)))),
 (rO 7 (.mv (.tmp 41)))]))))))
 (.seq (.reg [(rO 63 (.mv (.tmp 0))),
 (rO 64 (.mv (.tmp 1))),
 (rO 65 (.nilc (.tmp 63))),
 (rO 66 (.fa 2 (.tmp 65))),
 (rO 67 (.fa 4 (.tmp 66))),
 ⟨none, (.st 1 (.tmp 67) (.tmp 64)), none⟩])
 (.seq (.reg [(rO 68 (.bld [.bool false, .string ⟨#[]⟩] [])),
 (rO 69 (.mv (.tmp 0))),
 (rO 70 (.call 84 [(.tmp 69), (.const (.int .i64 1))])),
 ⟨none, (.st 2 (.tmp 4) (.tmp 68)), none⟩,
 ⟨none, (.st 16 (.tmp 5) (.tmp 70)), none⟩,
 (rO 6 (.mv (.const (.int .i64 0))))])
 .ret)))))
def r53 : List RV := [.agg 4 2, .agg 5 16, .tmp 6]
theorem ok53 : FnOk Tryz.prog 53 71 c53 r53 := ⟨[40, 45], _, _, Tryz.func53, rfl, rfl, by kernel_rfl, by kernel_rfl, by kernel_rfl⟩
/-- (*vouch/vouchref17.Tx).Again -/
def c57 : C := (.seq (.reg [(rO 4 (.new 39 [.int .i64 (0), .int .i64 (0), .int .i64 (0), .int .i64 (0), .int .i64 (0), .int .i64 (0), .string ⟨#[]⟩, .int .i64 (0), .int .i64 (0), .bool false, .string ⟨#[]⟩, .bool false, .int .i64 (0), .int .i64 (0), .slice none 0 0, .slice none 0 0])),
 (rO 5 (.mv (.const (.int .i64 0))))])
 (.seq (.seq (.reg [(rO 6 (.mv (.tmp 0))),
 (rO 7 (.nilc (.tmp 6))),
 (rO 8 (.fa 2 (.tmp 7))),
 (rO 9 (.fa 0 (.tmp 8))),
 (rO 10 (.ld none (.tmp 9))),
 (rO 11 (.bin .neq (.tmp 10) (.const (.int .i64 1)))),
 (rO 12 (.mv (.tmp 11))),
 ⟨(some 13), (.mv (.tmp 0)), (some (12, true))⟩,
 ⟨(some 14), (.nilc (.tmp 13)), (some (12, true))⟩,
 ⟨(some 15), (.fa 2 (.tmp 14)), (some (12, true))⟩,
 ⟨(some 16), (.fa 0 (.tmp 15)), (some (12, true))⟩,
 ⟨(some 17), (.ld none (.tmp 16)), (some (12, true))⟩,
 ⟨(some 18), (.bin .neq (.tmp 17) (.const (.int .i64 2))), (some (12, true))⟩,
 (rO 19 (.pick (.tmp 12) (.tmp 18) (.const (.bool false))))])
 (.cond (.tmp 19) (.seq (.reg [(rO 20 (.bld [.int .i64 (0), .int .i64 (0), .int .i64 (0), .int .i64 (0), .int .i64 (0), .int .i64 (0), .string ⟨#[]⟩, .int .i64 (0), .int .i64 (0), .bool false, .string ⟨#[]⟩, .bool false, .int .i64 (0), .int .i64 (0), .slice none 0 0, .slice none 0 0] [])),
 ⟨none, (.st 16 (.tmp 4) (.tmp 20)), none⟩,
 (rO 5 (.mv (.const (.int .i64 3))))])
 .ret)
 .skip))
 (.seq (.seq (.reg [(rO 21 (.mv (.tmp 0))),
 (rO 22 (.nilc (.tmp 21))),
 (rO 23 (.fa 2 (.tmp 22))),
 (rO 24 (.fa 6 (.tmp 23))),
 (rO 25 (.ld none (.tmp 24))),
 (rO 26 (.mv (.tmp 1))),
 (rO 27 (.bin .lss (.tmp 25) (.tmp 26)))])
 (.cond (.tmp 27) (.seq (.reg [(rO 28 (.mv (.tmp 0))),
 (rO 29 (.nilc (.tmp 28))),
 (rO 30 (.fa 2 (.tmp 29))),
 (rO 31 (.fa 6 (.tmp 30))),
 (rO 32 (.ld none (.tmp 31))),
 (rO 33 (.bin .add (.tmp 32) (.const (.int .i64 1)))),
 (rO 34 (.nilc (.tmp 28))),
 (rO 35 (.fa 2 (.tmp 34))),
 (rO 36 (.fa 6 (.tmp 35))),
 ⟨none, (.st 1 (.tmp 36) (.tmp 33)), none⟩])
 (.seq (.reg [(rO 37 (.mv (.tmp 0))),
 (rO 38 (.call 86 [(.tmp 37)])),
 ⟨none, (.st 16 (.tmp 4) (.tmp 38)), none⟩,
 (rO 5 (.mv (.const (.int .i64 0))))])
 .ret))
 .skip))
 (.seq (.seq (.reg [(rO 39 (.mv (.tmp 0))),
 (rO 40 (.nilc (.tmp 39))),
 (rO 41 (.fa 2 (.tmp 40))),
 (rO 42 (.fa 0 (.tmp 41))),
 (rO 43 (.ld none (.tmp 42))),
 (rO 44 (.bin .eql (.tmp 43) (.const (.int .i64 1))))])
 (.cond (.tmp 44) (.seq (.reg [(rO 45 (.mv (.tmp 0))),
 (rO 46 (.call 84 [(.tmp 45), (.const (.int .i64 2))])),
 ⟨none, (.st 16 (.tmp 4) (.tmp 46)), none⟩,
 (rO 5 (.mv (.const (.int .i64 0))))])
 .ret)
 .skip))
 (.seq (.reg [(rO 47 (.mv (.tmp 0))),
 (rO 48 (.call 87 [(.tmp 47), (.const (.int .i64 4)), (.const (.int .i64 41))]))])
 (.seq (.reg [(rO 49 (.bld [.int .i64 (0), .int .i64 (0), .int .i64 (0), .int .i64 (0), .int .i64 (0), .int .i64 (0), .string ⟨#[]⟩, .int .i64 (0), .int .i64 (0), .bool false, .string ⟨#[]⟩, .bool false, .int .i64 (0), .int .i64 (0), .slice none 0 0, .slice none 0 0] [])),
 ⟨none, (.st 16 (.tmp 4) (.tmp 49)), none⟩,
 (rO 5 (.mv (.const (.int .i64 41))))])
 .ret))))))
def r57 : List RV := [.agg 4 16, .tmp 5]
theorem ok57 : FnOk Tryz.prog 57 50 c57 r57 := ⟨[40, 45], _, _, Tryz.func57, rfl, rfl, by kernel_rfl, by kernel_rfl, by kernel_rfl⟩
/-- (*vouch/vouchref17.Tx).Finish -/
def c58 : C := (.seq (.reg [(rO 2 (.mv (.const (.int .i64 0)))),
 (rO 3 (.mv (.const (.int .i64 0))))])
 (.seq (.seq (.reg [(rO 4 (.mv (.tmp 0))),
 (rO 5 (.nilc (.tmp 4))),
 (rO 6 (.fa 2 (.tmp 5))),
 (rO 7 (.fa 0 (.tmp 6))),
 (rO 8 (.ld none (.tmp 7)))])
 (.block 0 (.seq (.seq (.reg [(rO 10 (.bin .eql (.tmp 8) (.const (.int .i64 1)))),
 (rO 9 (.mv (.tmp 10)))])
 (.cond (.tmp 9) .skip
 (.reg [(rO 11 (.bin .eql (.tmp 8) (.const (.int .i64 2)))),
 (rO 9 (.mv (.tmp 11)))])))
 (.cond (.tmp 9) (.seq (.reg [(rO 2 (.mv (.const (.int .i64 0)))),
 (rO 3 (.mv (.const (.int .i64 31))))])
 .ret)
 (.seq (.reg [(rO 13 (.bin .eql (.tmp 8) (.const (.int .i64 3)))),
 (rO 12 (.mv (.tmp 13)))])
 (.cond (.tmp 12) (.seq (.reg [(rO 2 (.mv (.const (.int .i64 0)))),
 (rO 3 (.mv (.const (.int .i64 40))))])
 .ret)
 (.seq (.reg [(rO 15 (.bin .eql (.tmp 8) (.const (.int .i64 4)))),
 (rO 14 (.mv (.tmp 15)))])
 (.cond (.tmp 14) (.seq (.draw [⟨(rO 16 (.mv (.tmp 0))), .p⟩,
 ⟨(rO 17 (.nilc (.tmp 16))), .p⟩,
 ⟨(rO 18 (.fa 2 (.tmp 17))), .p⟩,
 ⟨(rO 19 (.fa 1 (.tmp 18))), .p⟩,
 ⟨(rO 20 (.ld none (.tmp 19))), .l⟩,
 ⟨(rO 2 (.mv (.const (.int .i64 0)))), .p⟩,
 ⟨(rO 3 (.mv (.tmp 20))), .p⟩])
 .ret)
 .skip))))))))
 (.seq (.reg [(rO 21 (.mv (.tmp 0))),
 (rO 22 (.call 87 [(.tmp 21), (.const (.int .i64 3)), (.const (.int .i64 0))]))])
 (.seq (.seq (.reg [(rO 23 (.mv (.tmp 0))),
 (rO 24 (.nilc (.tmp 23))),
 (rO 25 (.fa 2 (.tmp 24))),
 (rO 26 (.fa 2 (.tmp 25))),
 (rO 27 (.fa 1 (.tmp 26))),
 (rO 28 (.ld none (.tmp 27))),
 (rO 29 (.bin .eql (.tmp 28) (.const (.int .i64 4611686018427387904))))])
 (.cond (.tmp 29) (.seq (.reg [(rO 30 (.mv (.tmp 0))),
 (rO 31 (.nilc (.tmp 30))),
 (rO 32 (.fa 2 (.tmp 31))),
 (rO 33 (.fa 2 (.tmp 32))),
 (rO 34 (.fa 0 (.tmp 33))),
 (rO 35 (.ld none (.tmp 34))),
 (rO 2 (.mv (.tmp 35))),
 (rO 3 (.mv (.const (.int .i64 0))))])
 .ret)
 .skip))
 (.seq (.reg [(rO 36 (.mv (.tmp 0))),
 (rO 37 (.nilc (.tmp 36))),
 (rO 38 (.fa 2 (.tmp 37))),
 (rO 39 (.fa 2 (.tmp 38))),
 (rO 40 (.fa 1 (.tmp 39))),
 (rO 41 (.ld none (.tmp 40))),
 (rO 42 (.bin .sub (.tmp 41) (.const (.int .i64 1)))),
 (rO 2 (.mv (.tmp 42))),
 (rO 3 (.mv (.const (.int .i64 0))))])
 .ret)))))
def r58 : List RV := [.tmp 2, .tmp 3]
theorem ok58 : FnOk Tryz.prog 58 43 c58 r58 := ⟨[40, 45], _, _, Tryz.func58, rfl, rfl, by kernel_rfl, by kernel_rfl, by kernel_rfl⟩
/-- (*vouch/vouchref18.Client).has -/
def c60 : C := (.seq (.reg [(rO 4 (.mv (.const (.bool false))))])
 (.seq (.reg [(rO 5 (.mv (.tmp 1))),
 (rO 6 (.bin .geq (.tmp 5) (.const (.int .i64 0)))),
 (rO 7 (.mv (.tmp 6))),
 ⟨(some 8), (.mv (.tmp 1)), (some (7, true))⟩,
 ⟨(some 9), (.mv (.tmp 0)), (some (7, true))⟩,
 ⟨(some 10), (.nilc (.tmp 9)), (some (7, true))⟩,
 ⟨(some 11), (.fa 8 (.tmp 10)), (some (7, true))⟩,
 ⟨(some 12), (.ld none (.tmp 11)), (some (7, true))⟩,
 ⟨(some 13), (.len true (.tmp 12)), (some (7, true))⟩,
 ⟨(some 14), (.bin .lss (.tmp 8) (.tmp 13)), (some (7, true))⟩,
 (rO 15 (.pick (.tmp 7) (.tmp 14) (.const (.bool false)))),
 (rO 4 (.mv (.tmp 15)))])
 .ret))
def r60 : List RV := [.tmp 4]
theorem ok60 : FnOk Tryz.prog 60 16 c60 r60 := ⟨[40, 45], _, _, Tryz.func60, rfl, rfl, by kernel_rfl, by kernel_rfl, by kernel_rfl⟩
/-- (*vouch/vouchref17.Tx).Hear -/
def c62 : C := (.seq (.reg [(rO 3 (.box 39 (.tmp 1))),
 (rO 4 (.new 39 [.int .i64 (0), .int .i64 (0), .int .i64 (0), .int .i64 (0), .int .i64 (0), .int .i64 (0), .string ⟨#[]⟩, .int .i64 (0), .int .i64 (0), .bool false, .string ⟨#[]⟩, .bool false, .int .i64 (0), .int .i64 (0), .slice none 0 0, .slice none 0 0])),
 (rO 5 (.mv (.const (.bool false))))])
 (.seq (.reg [(rO 8 (.mv (.tmp 0))),
 (rO 9 (.nilc (.tmp 8))),
 (rO 10 (.fa 2 (.tmp 9))),
 (rO 11 (.fa 0 (.tmp 10))),
 (rO 12 (.ld none (.tmp 11))),
 (rO 13 (.bin .eql (.tmp 12) (.const (.int .i64 1)))),
 (rO 14 (.mv (.tmp 13))),
 ⟨(some 15), (.fa 0 (.tmp 3)), (some (14, true))⟩,
 ⟨(some 16), (.ld none (.tmp 15)), (some (14, true))⟩,
 ⟨(some 17), (.bin .eql (.tmp 16) (.const (.int .i64 4))), (some (14, true))⟩,
 (rO 18 (.pick (.tmp 14) (.tmp 17) (.const (.bool false)))),
 (rO 6 (.mv (.tmp 18)))])
 (.seq (.reg [(rO 19 (.mv (.tmp 0))),
 (rO 20 (.nilc (.tmp 19))),
 (rO 21 (.fa 2 (.tmp 20))),
 (rO 22 (.fa 0 (.tmp 21))),
 (rO 23 (.ld none (.tmp 22))),
 (rO 24 (.bin .eql (.tmp 23) (.const (.int .i64 2)))),
 (rO 25 (.mv (.tmp 24))),
 ⟨(some 26), (.fa 0 (.tmp 3)), (some (25, true))⟩,
 ⟨(some 27), (.ld none (.tmp 26)), (some (25, true))⟩,
 ⟨(some 28), (.bin .eql (.tmp 27) (.const (.int .i64 6))), (some (25, true))⟩,
 (rO 29 (.pick (.tmp 25) (.tmp 28) (.const (.bool false)))),
 (rO 7 (.mv (.tmp 29)))])
 (.seq (.seq (.draw [⟨(rO 30 (.mv (.tmp 6))), .p⟩,
 ⟨(rO 31 (.nt (.tmp 30))), .p⟩,
 ⟨(rO 32 (.mv (.tmp 31))), .p⟩,
 ⟨⟨(some 33), (.mv (.tmp 7)), (some (32, true))⟩, .p⟩,
 ⟨⟨(some 34), (.nt (.tmp 33)), (some (32, true))⟩, .p⟩,
 ⟨(rO 35 (.pick (.tmp 32) (.tmp 34) (.const (.bool false)))), .p⟩,
 ⟨(rO 36 (.mv (.tmp 35))), .p⟩,
 ⟨⟨(some 37), (.fa 4 (.tmp 3)), (some (36, false))⟩, .p⟩,
 ⟨⟨(some 38), (.ld none (.tmp 37)), (some (36, false))⟩, .l⟩,
 ⟨⟨(some 39), (.mv (.tmp 0)), (some (36, false))⟩, .p⟩,
 ⟨⟨(some 40), (.nilc (.tmp 39)), (some (36, false))⟩, .p⟩,
 ⟨⟨(some 41), (.fa 0 (.tmp 40)), (some (36, false))⟩, .p⟩,
 ⟨⟨(some 42), (.ld none (.tmp 41)), (some (36, false))⟩, .l⟩,
 ⟨⟨(some 43), (.bin .neq (.tmp 38) (.tmp 42)), (some (36, false))⟩, .p⟩,
 ⟨(rO 44 (.pick (.tmp 36) (.const (.bool true)) (.tmp 43))), .p⟩,
 ⟨(rO 45 (.mv (.tmp 44))), .p⟩,
 ⟨⟨(some 46), (.fa 5 (.tmp 3)), (some (45, false))⟩, .p⟩,
 ⟨⟨(some 47), (.ld none (.tmp 46)), (some (45, false))⟩, .l⟩,
 ⟨⟨(some 48), (.mv (.tmp 0)), (some (45, false))⟩, .p⟩,
 ⟨⟨(some 49), (.nilc (.tmp 48)), (some (45, false))⟩, .p⟩,
 ⟨⟨(some 50), (.fa 2 (.tmp 49)), (some (45, false))⟩, .p⟩,
 ⟨⟨(some 51), (.fa 5 (.tmp 50)), (some (45, false))⟩, .p⟩,
 ⟨⟨(some 52), (.ld none (.tmp 51)), (some (45, false))⟩, .l⟩,
 ⟨⟨(some 53), (.bin .neq (.tmp 47) (.tmp 52)), (some (45, false))⟩, .p⟩,
 ⟨(rO 54 (.pick (.tmp 45) (.const (.bool true)) (.tmp 53))), .p⟩])
 (.cond (.tmp 54) (.seq (.reg [(rO 55 (.bld [.int .i64 (0), .int .i64 (0), .int .i64 (0), .int .i64 (0), .int .i64 (0), .int .i64 (0), .string ⟨#[]⟩, .int .i64 (0), .int .i64 (0), .bool false, .string ⟨#[]⟩, .bool false, .int .i64 (0), .int .i64 (0), .slice none 0 0, .slice none 0 0] [])),
 ⟨none, (.st 16 (.tmp 4) (.tmp 55)), none⟩,
 (rO 5 (.mv (.const (.bool false))))])
 .ret)
 .skip))
 (.seq (.seq (.reg [(rO 56 (.mv (.tmp 6)))])
 (.cond (.tmp 56) (.seq (.seq (.reg [(rO 57 (.fa 11 (.tmp 3))),
 (rO 58 (.ld none (.tmp 57))),
 (rO 59 (.mv (.tmp 58))),
 ⟨(some 60), (.mv (.tmp 0)), (some (59, true))⟩,
 ⟨(some 61), (.ld (some 16) (.tmp 3)), (some (59, true))⟩,
 ⟨(some 62), (.call 88 [(.tmp 60), (.tmp 61)]), (some (59, true))⟩,
 (rO 63 (.pick (.tmp 59) (.tmp 62) (.const (.bool false))))])
 (.cond (.tmp 63) (.seq (.reg [(rO 64 (.bld [.int .i64 (0), .int .i64 (0), .int .i64 (0), .int .i64 (0), .int .i64 (0), .int .i64 (0), .string ⟨#[]⟩, .int .i64 (0), .int .i64 (0), .bool false, .string ⟨#[]⟩, .bool false, .int .i64 (0), .int .i64 (0), .slice none 0 0, .slice none 0 0] [])),
 ⟨none, (.st 16 (.tmp 4) (.tmp 64)), none⟩,
 (rO 5 (.mv (.const (.bool true))))])
 .ret)
 .skip))
 (.seq (.reg [(rO 65 (.mv (.tmp 0))),
 (rO 66 (.call 84 [(.tmp 65), (.const (.int .i64 2))])),
 ⟨none, (.st 16 (.tmp 4) (.tmp 66)), none⟩,
 (rO 5 (.mv (.const (.bool true))))])
 .ret))
 .skip))
 (.seq (.seq (.reg [(rO 67 (.fa 12 (.tmp 3))),
 (rO 68 (.ld none (.tmp 67))),
 (rO 69 (.bin .neq (.tmp 68) (.const (.int .i64 0))))])
 (.cond (.tmp 69) (.seq (.reg [(rO 70 (.mv (.tmp 0))),
 (rO 71 (.fa 12 (.tmp 3))),
 (rO 72 (.ld none (.tmp 71))),
 (rO 73 (.call 87 [(.tmp 70), (.const (.int .i64 4)), (.tmp 72)]))])
 (.seq (.reg [(rO 74 (.bld [.int .i64 (0), .int .i64 (0), .int .i64 (0), .int .i64 (0), .int .i64 (0), .int .i64 (0), .string ⟨#[]⟩, .int .i64 (0), .int .i64 (0), .bool false, .string ⟨#[]⟩, .bool false, .int .i64 (0), .int .i64 (0), .slice none 0 0, .slice none 0 0] [])),
 ⟨none, (.st 16 (.tmp 4) (.tmp 74)), none⟩,
 (rO 5 (.mv (.const (.bool true))))])
 .ret))
 .skip))
 (.seq (.reg [(rO 75 (.bld [.int .i64 (0), .int .i64 (0), .int .i64 (0), .int .i64 (0), .int .i64 (0), .int .i64 (0), .string ⟨#[]⟩, .int .i64 (0), .int .i64 (0), .bool false, .string ⟨#[]⟩, .bool false, .int .i64 (0), .int .i64 (0), .slice none 0 0, .slice none 0 0] [])),
 (rO 76 (.mv (.tmp 0))),
 (rO 77 (.ld (some 16) (.tmp 3))),
 (rO 78 (.call 88 [(.tmp 76), (.tmp 77)])),
 ⟨none, (.st 16 (.tmp 4) (.tmp 75)), none⟩,
 (rO 5 (.mv (.tmp 78)))])
 .ret)))))))
def r62 : List RV := [.agg 4 16, .tmp 5]
theorem ok62 : FnOk Tryz.prog 62 79 c62 r62 := ⟨[40, 45], _, _, Tryz.func62, rfl, rfl, by kernel_rfl, by kernel_rfl, by kernel_rfl⟩
/-- (*vouch/vouchref18.Client).Open -/
def c63 : C := (.seq (.reg [(rO 2 (.mv (.const (.int .i64 0)))),
 (rO 3 (.mv (.const (.int .i64 0))))])
 (.seq (.reg [(rO 5 (.mv (.tmp 0))),
 (rO 6 (.nilc (.tmp 5))),
 (rO 7 (.fa 8 (.tmp 6))),
 (rO 8 (.ld none (.tmp 7))),
 (rO 9 (.len true (.tmp 8))),
 (rO 4 (.mv (.tmp 9)))])
 (.seq (.seq (.reg [(rO 10 (.mv (.tmp 4))),
 (rO 11 (.bin .eql (.tmp 10) (.const (.int .i64 64))))])
 (.cond (.tmp 11) (.seq (.reg [(rO 2 (.mv (.const (.int .i64 0)))),
 (rO 3 (.mv (.const (.int .i64 2))))])
 .ret)
 .skip))
 (.seq (.reg [(rO 12 (.mv (.tmp 0))),
 (rO 13 (.mv (.tmp 0))),
 (rO 14 (.nilc (.tmp 13))),
 (rO 15 (.fa 8 (.tmp 14))),
 (rO 16 (.ld none (.tmp 15))),
 (rO 17 (.mv (.tmp 4))),
 (rO 18 (.bld [.int .i64 (0), .int .i64 (0), .bool false, .int .i64 (0), .int .i64 (0), .int .i64 (0), .int .i64 (0), .slice none 0 0] [(0, 1, (.tmp 17))])),
 (rO 19 (.lit 118 1 8 [.int .i64 (0), .int .i64 (0), .bool false, .int .i64 (0), .int .i64 (0), .int .i64 (0), .int .i64 (0), .slice none 0 0] [(0, 8, (.tmp 18))])),
 (rO 20 (.app 118 8 80 (.tmp 16) (.tmp 19))),
 (rO 21 (.nilc (.tmp 12))),
 (rO 22 (.fa 8 (.tmp 21))),
 ⟨none, (.st 1 (.tmp 22) (.tmp 20)), none⟩])
 (.seq (.reg [(rO 23 (.mv (.tmp 4))),
 (rO 2 (.mv (.tmp 23))),
 (rO 3 (.mv (.const (.int .i64 0))))])
 .ret)))))
def r63 : List RV := [.tmp 2, .tmp 3]
theorem ok63 : FnOk Tryz.prog 63 24 c63 r63 := ⟨[40, 45], _, _, Tryz.func63, rfl, rfl, by kernel_rfl, by kernel_rfl, by kernel_rfl⟩
/-- (*vouch/vouchref18.Client).Commit -/
def c64 : C := (.seq (.reg [(rO 6 (.new 39 [.int .i64 (0), .int .i64 (0), .int .i64 (0), .int .i64 (0), .int .i64 (0), .int .i64 (0), .string ⟨#[]⟩, .int .i64 (0), .int .i64 (0), .bool false, .string ⟨#[]⟩, .bool false, .int .i64 (0), .int .i64 (0), .slice none 0 0, .slice none 0 0])),
 (rO 7 (.mv (.const (.int .i64 0))))])
 (.seq (.seq (.reg [(rO 8 (.mv (.tmp 0))),
 (rO 9 (.mv (.tmp 1))),
 (rO 10 (.call 60 [(.tmp 8), (.tmp 9)])),
 (rO 11 (.nt (.tmp 10)))])
 (.cond (.tmp 11) (.seq (.reg [(rO 12 (.bld [.int .i64 (0), .int .i64 (0), .int .i64 (0), .int .i64 (0), .int .i64 (0), .int .i64 (0), .string ⟨#[]⟩, .int .i64 (0), .int .i64 (0), .bool false, .string ⟨#[]⟩, .bool false, .int .i64 (0), .int .i64 (0), .slice none 0 0, .slice none 0 0] [])),
 ⟨none, (.st 16 (.tmp 6) (.tmp 12)), none⟩,
 (rO 7 (.mv (.const (.int .i64 3))))])
 .ret)
 .skip))
 (.seq (.reg [(rO 13 (.mv (.tmp 0))),
 (rO 14 (.nilc (.tmp 13))),
 (rO 15 (.fa 8 (.tmp 14))),
 (rO 16 (.ld none (.tmp 15))),
 (rO 17 (.mv (.tmp 1))),
 (rO 18 (.ia 8 (.tmp 16) (.tmp 17))),
 (rO 19 (.mv (.tmp 2))),
 (rO 20 (.call 89 [(.tmp 18), (.tmp 19)])),
 (rO 21 (.ext 0 (.tmp 20))),
 (rO 22 (.ext 1 (.tmp 20))),
 ⟨none, (.st 16 (.tmp 6) (.tmp 21)), none⟩,
 (rO 7 (.mv (.tmp 22)))])
 .ret)))
def r64 : List RV := [.agg 6 16, .tmp 7]
theorem ok64 : FnOk Tryz.prog 64 23 c64 r64 := ⟨[40, 45], _, _, Tryz.func64, rfl, rfl, by kernel_rfl, by kernel_rfl, by kernel_rfl⟩
/-- (*vouch/vouchref18.Client).Again -/
def c66 : C := (.seq (.reg [(rO 4 (.new 39 [.int .i64 (0), .int .i64 (0), .int .i64 (0), .int .i64 (0), .int .i64 (0), .int .i64 (0), .string ⟨#[]⟩, .int .i64 (0), .int .i64 (0), .bool false, .string ⟨#[]⟩, .bool false, .int .i64 (0), .int .i64 (0), .slice none 0 0, .slice none 0 0])),
 (rO 5 (.mv (.const (.int .i64 0))))])
 (.seq (.seq (.reg [(rO 6 (.mv (.tmp 0))),
 (rO 7 (.mv (.tmp 1))),
 (rO 8 (.call 60 [(.tmp 6), (.tmp 7)])),
 (rO 9 (.nt (.tmp 8)))])
 (.cond (.tmp 9) (.seq (.reg [(rO 10 (.bld [.int .i64 (0), .int .i64 (0), .int .i64 (0), .int .i64 (0), .int .i64 (0), .int .i64 (0), .string ⟨#[]⟩, .int .i64 (0), .int .i64 (0), .bool false, .string ⟨#[]⟩, .bool false, .int .i64 (0), .int .i64 (0), .slice none 0 0, .slice none 0 0] [])),
 ⟨none, (.st 16 (.tmp 4) (.tmp 10)), none⟩,
 (rO 5 (.mv (.const (.int .i64 3))))])
 .ret)
 .skip))
 (.seq (.draw [⟨(rO 11 (.mv (.tmp 0))), .p⟩,
 ⟨(rO 12 (.nilc (.tmp 11))), .p⟩,
 ⟨(rO 13 (.fa 8 (.tmp 12))), .p⟩,
 ⟨(rO 14 (.ld none (.tmp 13))), .l⟩,
 ⟨(rO 15 (.mv (.tmp 1))), .p⟩,
 ⟨(rO 16 (.ia 8 (.tmp 14) (.tmp 15))), .p⟩,
 ⟨(rO 17 (.mv (.tmp 0))), .p⟩,
 ⟨(rO 18 (.nilc (.tmp 17))), .p⟩,
 ⟨(rO 19 (.fa 0 (.tmp 18))), .p⟩,
 ⟨(rO 20 (.fa 7 (.tmp 19))), .p⟩,
 ⟨(rO 21 (.ld none (.tmp 20))), .l⟩,
 ⟨(rO 22 (.call 91 [(.tmp 16), (.tmp 21)])), .m⟩,
 ⟨(rO 23 (.ext 0 (.tmp 22))), .p⟩,
 ⟨(rO 24 (.ext 1 (.tmp 22))), .p⟩,
 ⟨⟨none, (.st 16 (.tmp 4) (.tmp 23)), none⟩, .m⟩,
 ⟨(rO 5 (.mv (.tmp 24))), .p⟩])
 .ret)))
def r66 : List RV := [.agg 4 16, .tmp 5]
theorem ok66 : FnOk Tryz.prog 66 25 c66 r66 := ⟨[40, 45], _, _, Tryz.func66, rfl, rfl, by kernel_rfl, by kernel_rfl, by kernel_rfl⟩
/-- (*vouch/vouchref18.Client).Token -/
def c67 : C := (.seq (.reg [(rO 4 (.mv (.const (.string { data := #[] })))),
 (rO 5 (.mv (.const (.int .i64 0))))])
 (.seq (.seq (.reg [(rO 6 (.mv (.tmp 0))),
 (rO 7 (.mv (.tmp 1))),
 (rO 8 (.call 60 [(.tmp 6), (.tmp 7)])),
 (rO 9 (.nt (.tmp 8)))])
 (.cond (.tmp 9) (.seq (.reg [(rO 4 (.mv (.const (.string { data := #[] })))),
 (rO 5 (.mv (.const (.int .i64 3))))])
 .ret)
 .skip))
 (.seq (.reg [(rO 10 (.mv (.tmp 0))),
 (rO 11 (.nilc (.tmp 10))),
 (rO 12 (.fa 8 (.tmp 11))),
 (rO 13 (.ld none (.tmp 12))),
 (rO 14 (.mv (.tmp 1))),
 (rO 15 (.ia 8 (.tmp 13) (.tmp 14))),
 (rO 16 (.fa 1 (.tmp 15))),
 (rO 17 (.fa 0 (.tmp 16))),
 (rO 18 (.ld none (.tmp 17))),
 (rO 19 (.call 92 [(.tmp 18)])),
 (rO 20 (.ext 0 (.tmp 19))),
 (rO 21 (.ext 1 (.tmp 19))),
 (rO 4 (.mv (.tmp 20))),
 (rO 5 (.mv (.tmp 21)))])
 .ret)))
def r67 : List RV := [.tmp 4, .tmp 5]
theorem ok67 : FnOk Tryz.prog 67 22 c67 r67 := ⟨[40, 45], _, _, Tryz.func67, rfl, rfl, by kernel_rfl, by kernel_rfl, by kernel_rfl⟩
/-- (*vouch/vouchref18.Client).Join -/
def c68 : C := (.seq (.reg [(rO 6 (.mv (.const (.int .i64 0))))])
 (.seq (.seq (.reg [(rO 7 (.mv (.tmp 0))),
 (rO 8 (.mv (.tmp 1))),
 (rO 9 (.call 60 [(.tmp 7), (.tmp 8)])),
 (rO 10 (.nt (.tmp 9)))])
 (.cond (.tmp 10) (.seq (.reg [(rO 6 (.mv (.const (.int .i64 3))))])
 .ret)
 .skip))
 (.seq (.reg [(rO 11 (.mv (.tmp 0))),
 (rO 12 (.nilc (.tmp 11))),
 (rO 13 (.fa 8 (.tmp 12))),
 (rO 14 (.ld none (.tmp 13))),
 (rO 15 (.mv (.tmp 1))),
 (rO 16 (.ia 8 (.tmp 14) (.tmp 15))),
 (rO 17 (.mv (.tmp 2))),
 (rO 18 (.call 93 [(.tmp 16), (.tmp 17)])),
 (rO 6 (.mv (.tmp 18)))])
 .ret)))
def r68 : List RV := [.tmp 6]
theorem ok68 : FnOk Tryz.prog 68 19 c68 r68 := ⟨[40, 45], _, _, Tryz.func68, rfl, rfl, by kernel_rfl, by kernel_rfl, by kernel_rfl⟩
/-- (*vouch/vouchref18.Client).Begin -/
def c69 : C := (.seq (.reg [(rO 4 (.mv (.const (.int .i64 0)))),
 (rO 5 (.mv (.const (.int .i64 0))))])
 (.seq (.reg [(rO 7 (.mv (.tmp 0))),
 (rO 8 (.nilc (.tmp 7))),
 (rO 9 (.fa 9 (.tmp 8))),
 (rO 10 (.ld none (.tmp 9))),
 (rO 11 (.len true (.tmp 10))),
 (rO 6 (.mv (.tmp 11)))])
 (.seq (.seq (.reg [(rO 12 (.mv (.tmp 0))),
 (rO 13 (.mv (.tmp 1))),
 (rO 14 (.call 60 [(.tmp 12), (.tmp 13)])),
 (rO 15 (.nt (.tmp 14)))])
 (.cond (.tmp 15) (.seq (.reg [(rO 4 (.mv (.const (.int .i64 0)))),
 (rO 5 (.mv (.const (.int .i64 3))))])
 .ret)
 .skip))
 (.seq (.seq (.reg [(rO 16 (.mv (.tmp 6))),
 (rO 17 (.bin .eql (.tmp 16) (.const (.int .i64 256))))])
 (.cond (.tmp 17) (.seq (.reg [(rO 4 (.mv (.const (.int .i64 0)))),
 (rO 5 (.mv (.const (.int .i64 2))))])
 .ret)
 .skip))
 (.seq (.draw [⟨(rO 18 (.mv (.tmp 0))), .p⟩,
 ⟨(rO 19 (.mv (.tmp 0))), .p⟩,
 ⟨(rO 20 (.nilc (.tmp 19))), .p⟩,
 ⟨(rO 21 (.fa 9 (.tmp 20))), .p⟩,
 ⟨(rO 22 (.ld none (.tmp 21))), .l⟩,
 ⟨(rO 23 (.mv (.tmp 6))), .p⟩,
 ⟨(rO 24 (.mv (.tmp 0))), .p⟩,
 ⟨(rO 25 (.nilc (.tmp 24))), .p⟩,
 ⟨(rO 26 (.fa 0 (.tmp 25))), .p⟩,
 ⟨(rO 27 (.fa 0 (.tmp 26))), .p⟩,
 ⟨(rO 28 (.ld none (.tmp 27))), .l⟩,
 ⟨(rO 29 (.mv (.tmp 0))), .p⟩,
 ⟨(rO 30 (.nilc (.tmp 29))), .p⟩,
 ⟨(rO 31 (.fa 8 (.tmp 30))), .p⟩,
 ⟨(rO 32 (.ld none (.tmp 31))), .l⟩,
 ⟨(rO 33 (.mv (.tmp 1))), .p⟩,
 ⟨(rO 34 (.ia 8 (.tmp 32) (.tmp 33))), .p⟩,
 ⟨(rO 35 (.fa 1 (.tmp 34))), .p⟩,
 ⟨(rO 36 (.fa 0 (.tmp 35))), .p⟩,
 ⟨(rO 37 (.ld none (.tmp 36))), .l⟩,
 ⟨(rO 38 (.call 94 [(.tmp 23), (.tmp 28), (.tmp 37)])), .g⟩,
 ⟨(rO 39 (.nilc (.tmp 38))), .p⟩,
 ⟨(rO 40 (.ld (some 10) (.tmp 39))), .r⟩,
 ⟨(rO 41 (.lit 112 1 10 [.int .i64 (0), .int .i64 (0), .int .i64 (0), .int .i64 (0), .int .i64 (0), .int .i64 (0), .string ⟨#[]⟩, .int .i64 (0), .int .i64 (0), .slice none 0 0] [(0, 10, (.tmp 40))])), .f⟩,
 ⟨(rO 42 (.app 112 10 104 (.tmp 22) (.tmp 41))), .m⟩,
 ⟨(rO 43 (.nilc (.tmp 18))), .p⟩,
 ⟨(rO 44 (.fa 9 (.tmp 43))), .p⟩,
 ⟨⟨none, (.st 1 (.tmp 44) (.tmp 42)), none⟩, .m⟩])
 (.seq (.reg [(rO 45 (.mv (.tmp 0))),
 (rO 46 (.mv (.tmp 0))),
 (rO 47 (.nilc (.tmp 46))),
 (rO 48 (.fa 10 (.tmp 47))),
 (rO 49 (.ld none (.tmp 48))),
 (rO 50 (.mv (.tmp 1))),
 (rO 51 (.lit 3 1 1 [.int .i64 (0)] [(0, 1, (.tmp 50))])),
 (rO 52 (.app 3 1 8 (.tmp 49) (.tmp 51))),
 (rO 53 (.nilc (.tmp 45))),
 (rO 54 (.fa 10 (.tmp 53))),
 ⟨none, (.st 1 (.tmp 54) (.tmp 52)), none⟩])
 (.seq (.reg [(rO 55 (.mv (.tmp 6))),
 (rO 4 (.mv (.tmp 55))),
 (rO 5 (.mv (.const (.int .i64 0))))])
 .ret)))))))
def r69 : List RV := [.tmp 4, .tmp 5]
theorem ok69 : FnOk Tryz.prog 69 56 c69 r69 := ⟨[40, 45, 3000040], _, _, Tryz.func69, rfl, rfl, by kernel_rfl, by kernel_rfl, by kernel_rfl⟩
/-- (*vouch/vouchref17.Tx).asks -/
def c84 : C := (.seq (.reg [(rO 4 (.new 39 [.int .i64 (0), .int .i64 (0), .int .i64 (0), .int .i64 (0), .int .i64 (0), .int .i64 (0), .string ⟨#[]⟩, .int .i64 (0), .int .i64 (0), .bool false, .string ⟨#[]⟩, .bool false, .int .i64 (0), .int .i64 (0), .slice none 0 0, .slice none 0 0]))])
 (.seq (.reg [(rO 5 (.mv (.tmp 0))),
 (rO 6 (.mv (.tmp 1))),
 (rO 7 (.nilc (.tmp 5))),
 (rO 8 (.fa 2 (.tmp 7))),
 (rO 9 (.fa 0 (.tmp 8))),
 ⟨none, (.st 1 (.tmp 9) (.tmp 6)), none⟩])
 (.seq (.reg [(rO 10 (.mv (.tmp 0))),
 (rO 11 (.nilc (.tmp 10))),
 (rO 12 (.fa 2 (.tmp 11))),
 (rO 13 (.fa 5 (.tmp 12))),
 (rO 14 (.ld none (.tmp 13))),
 (rO 15 (.bin .add (.tmp 14) (.const (.int .i64 1)))),
 (rO 16 (.nilc (.tmp 10))),
 (rO 17 (.fa 2 (.tmp 16))),
 (rO 18 (.fa 5 (.tmp 17))),
 ⟨none, (.st 1 (.tmp 18) (.tmp 15)), none⟩])
 (.seq (.reg [(rO 19 (.mv (.tmp 0))),
 (rO 20 (.nilc (.tmp 19))),
 (rO 21 (.fa 2 (.tmp 20))),
 (rO 22 (.fa 6 (.tmp 21))),
 ⟨none, (.st 1 (.tmp 22) (.const (.int .i64 0))), none⟩])
 (.seq (.reg [(rO 23 (.mv (.tmp 0))),
 (rO 24 (.call 86 [(.tmp 23)])),
 ⟨none, (.st 16 (.tmp 4) (.tmp 24)), none⟩])
 .ret)))))
def r84 : List RV := [.agg 4 16]
theorem ok84 : FnOk Tryz.prog 84 25 c84 r84 := ⟨[40, 45], _, _, Tryz.func84, rfl, rfl, by kernel_rfl, by kernel_rfl, by kernel_rfl⟩
/-- (*vouch/vouchref17.Tx).request -/
def c86 : C := (.seq (.reg [(rO 2 (.new 39 [.int .i64 (0), .int .i64 (0), .int .i64 (0), .int .i64 (0), .int .i64 (0), .int .i64 (0), .string ⟨#[]⟩, .int .i64 (0), .int .i64 (0), .bool false, .string ⟨#[]⟩, .bool false, .int .i64 (0), .int .i64 (0), .slice none 0 0, .slice none 0 0]))])
 (.seq (.seq (.reg [(rO 3 (.mv (.tmp 0))),
 (rO 4 (.nilc (.tmp 3))),
 (rO 5 (.fa 2 (.tmp 4))),
 (rO 6 (.fa 0 (.tmp 5))),
 (rO 7 (.ld none (.tmp 6))),
 (rO 8 (.bin .eql (.tmp 7) (.const (.int .i64 1))))])
 (.cond (.tmp 8) (.seq (.draw [⟨(rO 9 (.mv (.tmp 0))), .p⟩,
 ⟨(rO 10 (.nilc (.tmp 9))), .p⟩,
 ⟨(rO 11 (.fa 2 (.tmp 10))), .p⟩,
 ⟨(rO 12 (.fa 4 (.tmp 11))), .p⟩,
 ⟨(rO 13 (.ld none (.tmp 12))), .l⟩,
 ⟨(rO 14 (.mv (.tmp 0))), .p⟩,
 ⟨(rO 15 (.nilc (.tmp 14))), .p⟩,
 ⟨(rO 16 (.fa 1 (.tmp 15))), .p⟩,
 ⟨(rO 17 (.ld none (.tmp 16))), .l⟩,
 ⟨(rO 18 (.call 103 [(.tmp 13), (.tmp 17)])), .g⟩,
 ⟨(rO 19 (.mv (.tmp 0))), .p⟩,
 ⟨(rO 20 (.nilc (.tmp 19))), .p⟩,
 ⟨(rO 21 (.fa 0 (.tmp 20))), .p⟩,
 ⟨(rO 22 (.ld none (.tmp 21))), .l⟩,
 ⟨(rO 23 (.mv (.tmp 0))), .p⟩,
 ⟨(rO 24 (.nilc (.tmp 23))), .p⟩,
 ⟨(rO 25 (.fa 2 (.tmp 24))), .p⟩,
 ⟨(rO 26 (.fa 5 (.tmp 25))), .p⟩,
 ⟨(rO 27 (.ld none (.tmp 26))), .l⟩,
 ⟨(rO 28 (.mv (.tmp 0))), .p⟩,
 ⟨(rO 29 (.nilc (.tmp 28))), .p⟩,
 ⟨(rO 30 (.fa 2 (.tmp 29))), .p⟩,
 ⟨(rO 31 (.fa 4 (.tmp 30))), .p⟩,
 ⟨(rO 32 (.ld none (.tmp 31))), .l⟩,
 ⟨(rO 33 (.mv (.tmp 0))), .p⟩,
 ⟨(rO 34 (.nilc (.tmp 33))), .p⟩,
 ⟨(rO 35 (.fa 2 (.tmp 34))), .p⟩,
 ⟨(rO 36 (.fa 2 (.tmp 35))), .p⟩,
 ⟨(rO 37 (.ld (some 2) (.tmp 36))), .l⟩,
 ⟨(rO 38 (.bld [.int .i64 (0), .int .i64 (0), .int .i64 (0), .int .i64 (0), .int .i64 (0), .int .i64 (0), .string ⟨#[]⟩, .int .i64 (0), .int .i64 (0), .bool false, .string ⟨#[]⟩, .bool false, .int .i64 (0), .int .i64 (0), .slice none 0 0, .slice none 0 0] [(0, 1, (.const (.int .i64 3))), (1, 1, (.tmp 18)), (4, 1, (.tmp 22)), (5, 1, (.tmp 27)), (6, 1, (.tmp 32)), (7, 2, (.tmp 37))])), .p⟩,
 ⟨⟨none, (.st 16 (.tmp 2) (.tmp 38)), none⟩, .m⟩])
 .ret)
 .skip))
 (.seq (.draw [⟨(rO 39 (.mv (.tmp 0))), .p⟩,
 ⟨(rO 40 (.nilc (.tmp 39))), .p⟩,
 ⟨(rO 41 (.fa 0 (.tmp 40))), .p⟩,
 ⟨(rO 42 (.ld none (.tmp 41))), .l⟩,
 ⟨(rO 43 (.mv (.tmp 0))), .p⟩,
 ⟨(rO 44 (.nilc (.tmp 43))), .p⟩,
 ⟨(rO 45 (.fa 2 (.tmp 44))), .p⟩,
 ⟨(rO 46 (.fa 5 (.tmp 45))), .p⟩,
 ⟨(rO 47 (.ld none (.tmp 46))), .l⟩,
 ⟨(rO 48 (.mv (.tmp 0))), .p⟩,
 ⟨(rO 49 (.nilc (.tmp 48))), .p⟩,
 ⟨(rO 50 (.fa 2 (.tmp 49))), .p⟩,
 ⟨(rO 51 (.fa 4 (.tmp 50))), .p⟩,
 ⟨(rO 52 (.ld none (.tmp 51))), .l⟩,
 ⟨(rO 53 (.mv (.tmp 0))), .p⟩,
 ⟨(rO 54 (.nilc (.tmp 53))), .p⟩,
 ⟨(rO 55 (.fa 2 (.tmp 54))), .p⟩,
 ⟨(rO 56 (.fa 2 (.tmp 55))), .p⟩,
 ⟨(rO 57 (.ld (some 2) (.tmp 56))), .l⟩,
 ⟨(rO 58 (.bld [.int .i64 (0), .int .i64 (0), .int .i64 (0), .int .i64 (0), .int .i64 (0), .int .i64 (0), .string ⟨#[]⟩, .int .i64 (0), .int .i64 (0), .bool false, .string ⟨#[]⟩, .bool false, .int .i64 (0), .int .i64 (0), .slice none 0 0, .slice none 0 0] [(0, 1, (.const (.int .i64 5))), (4, 1, (.tmp 42)), (5, 1, (.tmp 47)), (6, 1, (.tmp 52)), (7, 2, (.tmp 57))])), .p⟩,
 ⟨⟨none, (.st 16 (.tmp 2) (.tmp 58)), none⟩, .m⟩])
 .ret)))
def r86 : List RV := [.agg 2 16]
theorem ok86 : FnOk Tryz.prog 86 59 c86 r86 := ⟨[40, 45], _, _, Tryz.func86, rfl, rfl, by kernel_rfl, by kernel_rfl, by kernel_rfl⟩
/-- (*vouch/vouchref17.Tx).ends -/
def c87 : C := (.seq (.reg [(rO 6 (.mv (.tmp 0))),
 (rO 7 (.mv (.tmp 1))),
 (rO 8 (.nilc (.tmp 6))),
 (rO 9 (.fa 2 (.tmp 8))),
 (rO 10 (.fa 0 (.tmp 9))),
 ⟨none, (.st 1 (.tmp 10) (.tmp 7)), none⟩])
 (.seq (.reg [(rO 11 (.mv (.tmp 0))),
 (rO 12 (.mv (.tmp 2))),
 (rO 13 (.nilc (.tmp 11))),
 (rO 14 (.fa 2 (.tmp 13))),
 (rO 15 (.fa 1 (.tmp 14))),
 ⟨none, (.st 1 (.tmp 15) (.tmp 12)), none⟩])
 (.seq (.reg [(rO 16 (.mv (.tmp 0))),
 (rO 17 (.nilc (.tmp 16))),
 (rO 18 (.fa 2 (.tmp 17))),
 (rO 19 (.fa 4 (.tmp 18))),
 ⟨none, (.st 1 (.tmp 19) (.const (.string { data := #[] }))), none⟩])
 (.reg [(rO 20 (.mv (.tmp 0))),
 (rO 21 (.nilc (.tmp 20))),
 (rO 22 (.fa 2 (.tmp 21))),
 (rO 23 (.fa 6 (.tmp 22))),
 ⟨none, (.st 1 (.tmp 23) (.const (.int .i64 0))), none⟩]))))
def r87 : List RV := []
theorem ok87 : FnOk Tryz.prog 87 24 c87 r87 := ⟨[40, 45], _, _, Tryz.func87, rfl, rfl, by kernel_rfl, by kernel_rfl, by kernel_rfl⟩
/-- (*vouch/vouchref17.Tx).takes -/
def c88 : C := (.seq (.reg [(rO 3 (.box 39 (.tmp 1))),
 (rO 4 (.mv (.const (.bool false))))])
 (.seq (.draw [⟨(rO 8 (.mv (.tmp 0))), .p⟩,
 ⟨(rO 9 (.nilc (.tmp 8))), .p⟩,
 ⟨(rO 10 (.fa 2 (.tmp 9))), .p⟩,
 ⟨(rO 11 (.fa 2 (.tmp 10))), .p⟩,
 ⟨(rO 12 (.ld (some 2) (.tmp 11))), .l⟩,
 ⟨(rO 13 (.fa 7 (.tmp 3))), .p⟩,
 ⟨(rO 14 (.fa 0 (.tmp 13))), .p⟩,
 ⟨(rO 15 (.ld none (.tmp 14))), .l⟩,
 ⟨(rO 16 (.fa 7 (.tmp 3))), .p⟩,
 ⟨(rO 17 (.fa 1 (.tmp 16))), .p⟩,
 ⟨(rO 18 (.ld none (.tmp 17))), .l⟩,
 ⟨(rO 19 (.call 105 [(.tmp 15), (.tmp 18)])), .g⟩,
 ⟨(rO 20 (.call 104 [(.tmp 12), (.tmp 19)])), .g⟩,
 ⟨(rO 7 (.mv (.tmp 20))), .p⟩,
 ⟨(rO 21 (.ext 0 (.tmp 7))), .p⟩,
 ⟨(rO 22 (.ext 1 (.tmp 7))), .p⟩,
 ⟨(rO 5 (.new 33 [.int .i64 (0), .int .i64 (0)])), .f⟩,
 ⟨⟨none, (.st 2 (.tmp 5) (.tmp 21)), none⟩, .m⟩,
 ⟨(rO 6 (.mv (.tmp 22))), .p⟩])
 (.seq (.seq (.reg [(rO 23 (.mv (.tmp 6))),
 (rO 24 (.nt (.tmp 23)))])
 (.cond (.tmp 24) (.seq (.reg [(rO 4 (.mv (.const (.bool false))))])
 .ret)
 .skip))
 (.seq (.reg [(rO 25 (.mv (.tmp 0))),
 (rO 26 (.ld (some 2) (.tmp 5))),
 (rO 27 (.nilc (.tmp 25))),
 (rO 28 (.fa 2 (.tmp 27))),
 (rO 29 (.fa 2 (.tmp 28))),
 ⟨none, (.st 2 (.tmp 29) (.tmp 26)), none⟩])
 (.seq (.draw [⟨(rO 30 (.mv (.tmp 0))), .p⟩,
 ⟨(rO 31 (.lit 128 0 3 [] [])), .f⟩,
 ⟨(rO 32 (.mv (.tmp 0))), .p⟩,
 ⟨(rO 33 (.nilc (.tmp 32))), .p⟩,
 ⟨(rO 34 (.fa 2 (.tmp 33))), .p⟩,
 ⟨(rO 35 (.fa 7 (.tmp 34))), .p⟩,
 ⟨(rO 36 (.ld none (.tmp 35))), .l⟩,
 ⟨(rO 37 (.app 128 3 40 (.tmp 31) (.tmp 36))), .w⟩,
 ⟨(rO 38 (.mv (.tmp 0))), .p⟩,
 ⟨(rO 39 (.nilc (.tmp 38))), .p⟩,
 ⟨(rO 40 (.fa 2 (.tmp 39))), .p⟩,
 ⟨(rO 41 (.fa 4 (.tmp 40))), .p⟩,
 ⟨(rO 42 (.ld none (.tmp 41))), .l⟩,
 ⟨(rO 43 (.fa 9 (.tmp 3))), .p⟩,
 ⟨(rO 44 (.ld (some 2) (.tmp 43))), .l⟩,
 ⟨(rO 45 (.bld [.string ⟨#[]⟩, .bool false, .string ⟨#[]⟩] [(0, 1, (.tmp 42)), (1, 2, (.tmp 44))])), .p⟩,
 ⟨(rO 46 (.lit 128 1 3 [.string ⟨#[]⟩, .bool false, .string ⟨#[]⟩] [(0, 3, (.tmp 45))])), .f⟩,
 ⟨(rO 47 (.app 128 3 40 (.tmp 37) (.tmp 46))), .m⟩,
 ⟨(rO 48 (.nilc (.tmp 30))), .p⟩,
 ⟨(rO 49 (.fa 2 (.tmp 48))), .p⟩,
 ⟨(rO 50 (.fa 7 (.tmp 49))), .p⟩,
 ⟨⟨none, (.st 1 (.tmp 50) (.tmp 47)), none⟩, .m⟩])
 (.seq (.reg [(rO 51 (.mv (.tmp 0))),
 (rO 52 (.call 87 [(.tmp 51), (.const (.int .i64 0)), (.const (.int .i64 0))]))])
 (.seq (.reg [(rO 4 (.mv (.const (.bool true))))])
 .ret)))))))
def r88 : List RV := [.tmp 4]
theorem ok88 : FnOk Tryz.prog 88 53 c88 r88 := ⟨[40, 45], _, _, Tryz.func88, rfl, rfl, by kernel_rfl, by kernel_rfl, by kernel_rfl⟩
/-- vouch/vouchref17.New -/
def c94 : C := (.seq (.reg [(rO 6 (.mv (.const (.pointer none))))])
 (.seq (.seq (.reg [(rO 7 (.mv (.tmp 1))),
 (rO 8 (.bin .lss (.tmp 7) (.const (.int .i64 1))))])
 (.cond (.tmp 8) (.reg [(rO 1 (.mv (.const (.int .i64 1))))])
 .skip))
 (.seq (.seq (.reg [(rO 9 (.mv (.tmp 1))),
 (rO 10 (.bin .gtr (.tmp 9) (.const (.int .i64 8))))])
 (.cond (.tmp 10) (.reg [(rO 1 (.mv (.const (.int .i64 8))))])
 .skip))
 (.seq (.reg [(rO 11 (.mv (.tmp 0))),
 (rO 12 (.mv (.tmp 1))),
 (rO 13 (.mv (.tmp 2))),
 (rO 14 (.call 110 [(.tmp 13)])),
 (rO 15 (.bld [.int .i64 (0), .int .i64 (0)] [(0, 1, (.tmp 14)), (1, 1, (.const (.int .i64 4611686018427387904)))])),
 (rO 16 (.bld [.int .i64 (0), .int .i64 (0), .int .i64 (0), .int .i64 (0), .string ⟨#[]⟩, .int .i64 (0), .int .i64 (0), .slice none 0 0] [(2, 2, (.tmp 15))])),
 (rO 17 (.bld [.int .i64 (0), .int .i64 (0), .int .i64 (0), .int .i64 (0), .int .i64 (0), .int .i64 (0), .string ⟨#[]⟩, .int .i64 (0), .int .i64 (0), .slice none 0 0] [(0, 1, (.tmp 11)), (1, 1, (.tmp 12)), (2, 8, (.tmp 16))])),
 (rO 18 (.box 112 (.tmp 17))),
 (rO 6 (.mv (.tmp 18)))])
 .ret))))
def r94 : List RV := [.tmp 6]
theorem ok94 : FnOk Tryz.prog 94 19 c94 r94 := ⟨[40, 45], _, _, Tryz.func94, rfl, rfl, by kernel_rfl, by kernel_rfl, by kernel_rfl⟩
/-- vouch/vouchref14.To -/
def c103 : C := (.seq (.reg [(rO 4 (.mv (.const (.int .i64 0))))])
 (.seq (.seq (.reg [(rO 6 (.mv (.tmp 1))),
 (rO 7 (.bin .lss (.tmp 6) (.const (.int .i64 1)))),
 (rO 8 (.mv (.tmp 7))),
 ⟨(some 9), (.mv (.tmp 1)), (some (8, false))⟩,
 ⟨(some 10), (.bin .gtr (.tmp 9) (.const (.int .i64 8))), (some (8, false))⟩,
 (rO 11 (.pick (.tmp 8) (.const (.bool true)) (.tmp 10)))])
 (.cond (.tmp 11) (.seq (.reg [(rO 4 (.mv (.const (.int .i64 (-1)))))])
 .ret)
 .skip))
 (.seq (.reg [(rO 12 (.mv (.tmp 0))),
 (rO 13 (.call 122 [(.tmp 12)])),
 (rO 5 (.mv (.tmp 13)))])
 (.seq (.reg [(rO 14 (.mv (.tmp 5))),
 (rO 15 (.mv (.tmp 5))),
 (rO 16 (.mv (.tmp 1))),
 (rO 17 (.conv .u64 (.tmp 16))),
 (rO 18 (.bin .quo (.tmp 15) (.tmp 17))),
 (rO 19 (.mv (.tmp 1))),
 (rO 20 (.conv .u64 (.tmp 19))),
 (rO 21 (.bin .mul (.tmp 18) (.tmp 20))),
 (rO 22 (.bin .sub (.tmp 14) (.tmp 21))),
 (rO 23 (.conv .i64 (.tmp 22))),
 (rO 4 (.mv (.tmp 23)))])
 .ret))))
def r103 : List RV := [.tmp 4]
theorem ok103 : FnOk Tryz.prog 103 24 c103 r103 := ⟨[40, 45], _, _, Tryz.func103, rfl, rfl, by kernel_rfl, by kernel_rfl, by kernel_rfl⟩
/-- vouch/vouchref09.Narrow -/
def c104 : C := (.seq (.reg [(rO 2 (.box 33 (.tmp 0))),
 (rO 3 (.box 173 (.tmp 1))),
 (rO 4 (.new 33 [.int .i64 (0), .int .i64 (0)])),
 (rO 5 (.mv (.const (.bool false))))])
 (.seq (.draw [⟨(rO 7 (.fa 0 (.tmp 2))), .p⟩,
 ⟨(rO 8 (.ld none (.tmp 7))), .l⟩,
 ⟨(rO 9 (.fa 1 (.tmp 2))), .p⟩,
 ⟨(rO 10 (.ld none (.tmp 9))), .l⟩,
 ⟨(rO 11 (.call 105 [(.tmp 8), (.tmp 10)])), .g⟩,
 ⟨(rO 12 (.ld (some 2) (.tmp 3))), .l⟩,
 ⟨(rO 13 (.call 123 [(.tmp 11), (.tmp 12)])), .g⟩,
 ⟨(rO 6 (.new 173 [.int .i64 (0), .int .i64 (0)])), .f⟩,
 ⟨⟨none, (.st 2 (.tmp 6) (.tmp 13)), none⟩, .m⟩])
 (.seq (.draw [⟨(rO 14 (.fa 0 (.tmp 6))), .p⟩,
 ⟨(rO 15 (.ld none (.tmp 14))), .l⟩,
 ⟨(rO 16 (.fa 1 (.tmp 6))), .p⟩,
 ⟨(rO 17 (.ld none (.tmp 16))), .l⟩,
 ⟨(rO 18 (.bld [.int .i64 (0), .int .i64 (0)] [(0, 1, (.tmp 15)), (1, 1, (.tmp 17))])), .p⟩,
 ⟨(rO 19 (.ld (some 2) (.tmp 6))), .l⟩,
 ⟨(rO 20 (.call 124 [(.tmp 19)])), .g⟩,
 ⟨(rO 21 (.nt (.tmp 20))), .p⟩,
 ⟨⟨none, (.st 2 (.tmp 4) (.tmp 18)), none⟩, .m⟩,
 ⟨(rO 5 (.mv (.tmp 21))), .p⟩])
 .ret)))
def r104 : List RV := [.agg 4 2, .tmp 5]
theorem ok104 : FnOk Tryz.prog 104 22 c104 r104 := ⟨[40, 45], _, _, Tryz.func104, rfl, rfl, by kernel_rfl, by kernel_rfl, by kernel_rfl⟩
/-- vouch/vouchref01.Of -/
def c105 : C := (.seq (.reg [(rO 4 (.new 173 [.int .i64 (0), .int .i64 (0)]))])
 (.seq (.reg [(rO 6 (.mv (.tmp 0))),
 (rO 7 (.mv (.tmp 1))),
 (rO 8 (.bld [.int .i64 (0), .int .i64 (0)] [(0, 1, (.tmp 6)), (1, 1, (.tmp 7))])),
 (rO 5 (.new 173 [.int .i64 (0), .int .i64 (0)])),
 ⟨none, (.st 2 (.tmp 5) (.tmp 8)), none⟩])
 (.seq (.seq (.reg [(rO 9 (.ld (some 2) (.tmp 5))),
 (rO 10 (.call 124 [(.tmp 9)]))])
 (.cond (.tmp 10) (.seq (.reg [(rO 11 (.bld [.int .i64 (0), .int .i64 (0)] [])),
 ⟨none, (.st 2 (.tmp 4) (.tmp 11)), none⟩])
 .ret)
 .skip))
 (.seq (.reg [(rO 12 (.ld (some 2) (.tmp 5))),
 ⟨none, (.st 2 (.tmp 4) (.tmp 12)), none⟩])
 .ret))))
def r105 : List RV := [.agg 4 2]
theorem ok105 : FnOk Tryz.prog 105 13 c105 r105 := ⟨[40, 45], _, _, Tryz.func105, rfl, rfl, by kernel_rfl, by kernel_rfl, by kernel_rfl⟩
/-- vouch/vouchref09.Position -/
def c110 : C := (.seq (.reg [(rO 2 (.mv (.const (.int .i64 0))))])
 (.seq (.seq (.reg [(rO 3 (.mv (.tmp 0))),
 (rO 4 (.bin .lss (.tmp 3) (.const (.int .i64 0))))])
 (.cond (.tmp 4) (.seq (.reg [(rO 2 (.mv (.const (.int .i64 0))))])
 .ret)
 .skip))
 (.seq (.seq (.reg [(rO 5 (.mv (.tmp 0))),
 (rO 6 (.bin .gtr (.tmp 5) (.const (.int .i64 1099511627776))))])
 (.cond (.tmp 6) (.seq (.reg [(rO 2 (.mv (.const (.int .i64 1099511627776))))])
 .ret)
 .skip))
 (.seq (.reg [(rO 7 (.mv (.tmp 0))),
 (rO 2 (.mv (.tmp 7)))])
 .ret))))
def r110 : List RV := [.tmp 2]
theorem ok110 : FnOk Tryz.prog 110 8 c110 r110 := ⟨[40, 45], _, _, Tryz.func110, rfl, rfl, by kernel_rfl, by kernel_rfl, by kernel_rfl⟩
/-- vouch/vouchref14.Hash -/
def c122 : C := (.seq (.reg [(rO 2 (.mv (.const (.int .u64 0))))])
 (.seq (.reg [(rO 3 (.mv (.const (.int .u64 14695981039346656037))))])
 (.seq (.seq (.reg [(rO 4 (.mv (.const (.int .i64 0))))])
 (.block 0 (.loop (.seq (.seq (.reg [(rO 6 (.mv (.tmp 4))),
 (rO 7 (.mv (.tmp 0))),
 (rO 8 (.len false (.tmp 7))),
 (rO 9 (.bin .lss (.tmp 6) (.tmp 8)))])
 (.cond (.tmp 9) .skip
 (.exit 0)))
 (.seq (.block 1 (.seq (.reg [(rO 12 (.mv (.tmp 0))),
 (rO 13 (.mv (.tmp 4))),
 (rO 14 (.ixs (.tmp 12) (.tmp 13))),
 (rO 15 (.conv .u64 (.tmp 14))),
 (rO 5 (.mv (.tmp 15)))])
 (.seq (.reg [(rO 16 (.mv (.tmp 3))),
 (rO 17 (.mv (.tmp 5))),
 (rO 18 (.bin .or (.tmp 16) (.tmp 17))),
 (rO 19 (.mv (.tmp 3))),
 (rO 20 (.mv (.tmp 5))),
 (rO 21 (.bin .and (.tmp 19) (.tmp 20))),
 (rO 22 (.bin .sub (.tmp 18) (.tmp 21))),
 (rO 3 (.mv (.tmp 22)))])
 (.reg [(rO 23 (.mv (.tmp 3))),
 (rO 24 (.bin .mul (.tmp 23) (.const (.int .u64 1099511628211)))),
 (rO 3 (.mv (.tmp 24)))]))))
 (.reg [(rO 10 (.mv (.tmp 4))),
 (rO 11 (.bin .add (.tmp 10) (.const (.int .i64 1)))),
 (rO 4 (.mv (.tmp 11)))]))))))
 (.seq (.reg [(rO 25 (.mv (.tmp 3))),
 (rO 2 (.mv (.tmp 25)))])
 .ret))))
def r122 : List RV := [.tmp 2]
theorem ok122 : FnOk Tryz.prog 122 26 c122 r122 := ⟨[40, 45], _, _, Tryz.func122, rfl, rfl, by kernel_rfl, by kernel_rfl, by kernel_rfl⟩
/-- vouch/vouchref01.Meet -/
def c123 : C := (.seq (.reg [(rO 2 (.box 173 (.tmp 0))),
 (rO 3 (.box 173 (.tmp 1))),
 (rO 4 (.new 173 [.int .i64 (0), .int .i64 (0)]))])
 (.seq (.seq (.reg [(rO 7 (.ld (some 2) (.tmp 2))),
 (rO 8 (.call 124 [(.tmp 7)])),
 (rO 9 (.mv (.tmp 8))),
 ⟨(some 10), (.ld (some 2) (.tmp 3)), (some (9, false))⟩,
 ⟨(some 11), (.call 124 [(.tmp 10)]), (some (9, false))⟩,
 (rO 12 (.pick (.tmp 9) (.const (.bool true)) (.tmp 11)))])
 (.cond (.tmp 12) (.seq (.reg [(rO 13 (.bld [.int .i64 (0), .int .i64 (0)] [])),
 ⟨none, (.st 2 (.tmp 4) (.tmp 13)), none⟩])
 .ret)
 .skip))
 (.seq (.draw [⟨(rO 14 (.fa 0 (.tmp 2))), .p⟩,
 ⟨(rO 15 (.ld none (.tmp 14))), .l⟩,
 ⟨(rO 16 (.fa 1 (.tmp 2))), .p⟩,
 ⟨(rO 17 (.ld none (.tmp 16))), .l⟩,
 ⟨(rO 5 (.mv (.tmp 15))), .p⟩,
 ⟨(rO 6 (.mv (.tmp 17))), .p⟩])
 (.seq (.seq (.reg [(rO 18 (.fa 0 (.tmp 3))),
 (rO 19 (.ld none (.tmp 18))),
 (rO 20 (.mv (.tmp 5))),
 (rO 21 (.bin .gtr (.tmp 19) (.tmp 20)))])
 (.cond (.tmp 21) (.reg [(rO 22 (.fa 0 (.tmp 3))),
 (rO 23 (.ld none (.tmp 22))),
 (rO 5 (.mv (.tmp 23)))])
 .skip))
 (.seq (.seq (.reg [(rO 24 (.fa 1 (.tmp 3))),
 (rO 25 (.ld none (.tmp 24))),
 (rO 26 (.mv (.tmp 6))),
 (rO 27 (.bin .lss (.tmp 25) (.tmp 26)))])
 (.cond (.tmp 27) (.reg [(rO 28 (.fa 1 (.tmp 3))),
 (rO 29 (.ld none (.tmp 28))),
 (rO 6 (.mv (.tmp 29)))])
 .skip))
 (.seq (.reg [(rO 30 (.mv (.tmp 5))),
 (rO 31 (.mv (.tmp 6))),
 (rO 32 (.call 105 [(.tmp 30), (.tmp 31)])),
 ⟨none, (.st 2 (.tmp 4) (.tmp 32)), none⟩])
 .ret))))))
def r123 : List RV := [.agg 4 2]
theorem ok123 : FnOk Tryz.prog 123 33 c123 r123 := ⟨[40, 45], _, _, Tryz.func123, rfl, rfl, by kernel_rfl, by kernel_rfl, by kernel_rfl⟩
/-- vouch/vouchref01.Empty -/
def c124 : C := (.seq (.reg [(rO 1 (.box 173 (.tmp 0))),
 (rO 2 (.mv (.const (.bool false))))])
 (.seq (.reg [(rO 3 (.ld (some 2) (.tmp 1))),
 (rO 4 (.fa 0 (.tmp 1))),
 (rO 5 (.ld none (.tmp 4))),
 (rO 6 (.call 137 [(.tmp 3), (.tmp 5)])),
 (rO 7 (.nt (.tmp 6))),
 (rO 2 (.mv (.tmp 7)))])
 .ret))
def r124 : List RV := [.tmp 2]
theorem ok124 : FnOk Tryz.prog 124 8 c124 r124 := ⟨[40, 45], _, _, Tryz.func124, rfl, rfl, by kernel_rfl, by kernel_rfl, by kernel_rfl⟩
/-- vouch/vouchref01.Has -/
def c137 : C := (.seq (.reg [(rO 2 (.box 173 (.tmp 0))),
 (rO 4 (.mv (.const (.bool false))))])
 (.seq (.reg [(rO 5 (.mv (.tmp 1))),
 (rO 6 (.fa 0 (.tmp 2))),
 (rO 7 (.ld none (.tmp 6))),
 (rO 8 (.bin .geq (.tmp 5) (.tmp 7))),
 (rO 9 (.mv (.tmp 8))),
 ⟨(some 10), (.mv (.tmp 1)), (some (9, true))⟩,
 ⟨(some 11), (.fa 1 (.tmp 2)), (some (9, true))⟩,
 ⟨(some 12), (.ld none (.tmp 11)), (some (9, true))⟩,
 ⟨(some 13), (.bin .lss (.tmp 10) (.tmp 12)), (some (9, true))⟩,
 (rO 14 (.pick (.tmp 9) (.tmp 13) (.const (.bool false)))),
 (rO 4 (.mv (.tmp 14)))])
 .ret))
def r137 : List RV := [.tmp 4]
theorem ok137 : FnOk Tryz.prog 137 15 c137 r137 := ⟨[40, 45], _, _, Tryz.func137, rfl, rfl, by kernel_rfl, by kernel_rfl, by kernel_rfl⟩
end Go.Proofs.YtaoafjlocjjbbaaGreatDoor

-- C2
namespace Go.Proofs
open Go.Shelf
def Tryz.laysM173_ren : Go.Shelf.Ren := ⟨fun | 173 => 81 | 246 => 100 | 283 => 115 | 284 => 116 | 285 => 117 | 286 => 118 | 129 => 128 | 317 => 127 | 318 => 129 | 319 => 130 | 320 => 131 | 337 => 138 | 338 => 139 | n => n, fun | 2 => 2 | 3 => 3 | 9 => 9 | 4 => 4 | 171 => 186 | 0 => 0 | 53 => 187 | 37 => 177 | 5 => 5 | 173 => 190 | 212 => 199 | 51 => 200 | 20 => 20 | 213 => 201 | 46 => 202 | 232 => 217 | 233 => 218 | n => n, fun | 17 => 0 | 18 => 3 | 19 => 4 | n => n⟩
theorem Tryz.laysM173 : Go.Proofs.LaysM.n173 Tryz.prog Tryz.laysM173_ren := {
  mixed := by kernel_rfl
  f129 := Tryz.func128.trans (congrArg some (by kernel_rfl))
  f173 := Tryz.func81.trans (congrArg some (by kernel_rfl))
  f246 := Tryz.func100.trans (congrArg some (by kernel_rfl))
  f283 := Tryz.func115.trans (congrArg some (by kernel_rfl))
  f284 := Tryz.func116.trans (congrArg some (by kernel_rfl))
  f285 := Tryz.func117.trans (congrArg some (by kernel_rfl))
  f286 := Tryz.func118.trans (congrArg some (by kernel_rfl))
  f317 := Tryz.func127.trans (congrArg some (by kernel_rfl))
  f318 := Tryz.func129.trans (congrArg some (by kernel_rfl))
  f319 := Tryz.func130.trans (congrArg some (by kernel_rfl))
  f320 := Tryz.func131.trans (congrArg some (by kernel_rfl))
  f337 := Tryz.func138.trans (congrArg some (by kernel_rfl))
  f338 := Tryz.func139.trans (congrArg some (by kernel_rfl))
  t0 := Tryz.underlying0
  a0 := Tryz.isAgg0
  z0 := Tryz.sizeOf0
  v0 := Tryz.zeroValue0
  t2 := Tryz.underlying2
  a2 := Tryz.isAgg2
  z2 := Tryz.sizeOf2
  v2 := Tryz.zeroValue2
  t3 := Tryz.underlying3
  a3 := Tryz.isAgg3
  z3 := Tryz.sizeOf3
  v3 := Tryz.zeroValue3
  t4 := Tryz.underlying4
  a4 := Tryz.isAgg4
  z4 := Tryz.sizeOf4
  v4 := Tryz.zeroValue4
  t5 := Tryz.underlying5
  a5 := Tryz.isAgg5
  z5 := Tryz.sizeOf5
  v5 := Tryz.zeroValue5
  t9 := Tryz.underlying9
  a9 := Tryz.isAgg9
  z9 := Tryz.sizeOf9
  v9 := Tryz.zeroValue9
  t20 := Tryz.underlying20
  a20 := Tryz.isAgg20
  z20 := Tryz.sizeOf20
  v20 := Tryz.zeroValue20
  t37 := Tryz.underlying177
  a37 := Tryz.isAgg177
  z37 := Tryz.sizeOf177
  v37 := Tryz.zeroValue177
  t46 := Tryz.underlying202
  a46 := Tryz.isAgg202
  z46 := Tryz.sizeOf202
  v46 := Tryz.zeroValue202
  t51 := Tryz.underlying200
  a51 := Tryz.isAgg200
  z51 := Tryz.sizeOf200
  v51 := Tryz.zeroValue200
  t53 := Tryz.underlying187
  a53 := Tryz.isAgg187
  z53 := Tryz.sizeOf187
  v53 := Tryz.zeroValue187
  t171 := Tryz.underlying186
  a171 := Tryz.isAgg186
  z171 := Tryz.sizeOf186
  v171 := Tryz.zeroValue186
  t173 := Tryz.underlying190
  a173 := Tryz.isAgg190
  z173 := Tryz.sizeOf190
  v173 := Tryz.zeroValue190
  t212 := Tryz.underlying199
  a212 := Tryz.isAgg199
  z212 := Tryz.sizeOf199
  v212 := Tryz.zeroValue199
  t213 := Tryz.underlying201
  a213 := Tryz.isAgg201
  z213 := Tryz.sizeOf201
  t232 := Tryz.underlying217
  a232 := Tryz.isAgg217
  z232 := Tryz.sizeOf217
  v232 := Tryz.zeroValue217
  t233 := Tryz.underlying218
  a233 := Tryz.isAgg218
  z233 := Tryz.sizeOf218
  v233 := Tryz.zeroValue218
  g17 := by kernel_rfl
  g18 := by kernel_rfl
  g19 := by kernel_rfl
  i0 := by kernel_rfl
  i2 := by kernel_rfl
  i3 := by kernel_rfl
  i4 := by kernel_rfl
  i5 := by kernel_rfl
  i9 := by kernel_rfl
  i20 := by kernel_rfl
  i37 := by kernel_rfl
  i46 := by kernel_rfl
  i51 := by kernel_rfl
  i53 := by kernel_rfl
  i171 := by kernel_rfl
  i173 := by kernel_rfl
  i212 := by kernel_rfl
  i232 := by kernel_rfl
  i233 := by kernel_rfl
  m17 := by kernel_rfl
  m18 := by kernel_rfl
  m19 := by kernel_rfl }
def Tryz.laysC174_ren : Go.Shelf.Ren := ⟨fun | 174 => 101 | 247 => 119 | 245 => 120 | 287 => 132 | 279 => 133 | 280 => 134 | 281 => 135 | 282 => 136 | 321 => 140 | 322 => 141 | 316 => 142 | 171 => 144 | 205 => 143 | 243 => 145 | 246 => 100 | 283 => 115 | 284 => 116 | 285 => 117 | 286 => 118 | 129 => 128 | 317 => 127 | 318 => 129 | 319 => 130 | 320 => 131 | 337 => 138 | 338 => 139 | n => n, fun | 9 => 9 | 3 => 3 | 2 => 2 | 75 => 168 | 85 => 169 | 4 => 4 | 167 => 204 | 5 => 5 | 53 => 187 | 175 => 205 | 46 => 202 | 168 => 207 | 37 => 177 | 0 => 0 | 210 => 215 | 21 => 21 | 127 => 219 | 145 => 222 | 143 => 220 | 171 => 186 | 173 => 190 | 212 => 199 | 51 => 200 | 20 => 20 | 213 => 201 | 232 => 217 | 233 => 218 | 80 => 223 | n => n, fun | 15 => 1 | 16 => 2 | 17 => 0 | 18 => 3 | 19 => 4 | n => n⟩
theorem Tryz.laysC174 : Go.Proofs.LaysC.n174 Tryz.prog Tryz.laysC174_ren := {
  mixed := by kernel_rfl
  f129 := Tryz.func128.trans (congrArg some (by kernel_rfl))
  f171 := Tryz.func144.trans (congrArg some (by kernel_rfl))
  f174 := Tryz.func101.trans (congrArg some (by kernel_rfl))
  f205 := Tryz.func143.trans (congrArg some (by kernel_rfl))
  f243 := Tryz.func145.trans (congrArg some (by kernel_rfl))
  f245 := Tryz.func120.trans (congrArg some (by kernel_rfl))
  f246 := Tryz.func100.trans (congrArg some (by kernel_rfl))
  f247 := Tryz.func119.trans (congrArg some (by kernel_rfl))
  f279 := Tryz.func133.trans (congrArg some (by kernel_rfl))
  f280 := Tryz.func134.trans (congrArg some (by kernel_rfl))
  f281 := Tryz.func135.trans (congrArg some (by kernel_rfl))
  f282 := Tryz.func136.trans (congrArg some (by kernel_rfl))
  f283 := Tryz.func115.trans (congrArg some (by kernel_rfl))
  f284 := Tryz.func116.trans (congrArg some (by kernel_rfl))
  f285 := Tryz.func117.trans (congrArg some (by kernel_rfl))
  f286 := Tryz.func118.trans (congrArg some (by kernel_rfl))
  f287 := Tryz.func132.trans (congrArg some (by kernel_rfl))
  f316 := Tryz.func142.trans (congrArg some (by kernel_rfl))
  f317 := Tryz.func127.trans (congrArg some (by kernel_rfl))
  f318 := Tryz.func129.trans (congrArg some (by kernel_rfl))
  f319 := Tryz.func130.trans (congrArg some (by kernel_rfl))
  f320 := Tryz.func131.trans (congrArg some (by kernel_rfl))
  f321 := Tryz.func140.trans (congrArg some (by kernel_rfl))
  f322 := Tryz.func141.trans (congrArg some (by kernel_rfl))
  f337 := Tryz.func138.trans (congrArg some (by kernel_rfl))
  f338 := Tryz.func139.trans (congrArg some (by kernel_rfl))
  t0 := Tryz.underlying0
  a0 := Tryz.isAgg0
  z0 := Tryz.sizeOf0
  v0 := Tryz.zeroValue0
  t2 := Tryz.underlying2
  a2 := Tryz.isAgg2
  z2 := Tryz.sizeOf2
  v2 := Tryz.zeroValue2
  t3 := Tryz.underlying3
  a3 := Tryz.isAgg3
  z3 := Tryz.sizeOf3
  v3 := Tryz.zeroValue3
  t4 := Tryz.underlying4
  a4 := Tryz.isAgg4
  z4 := Tryz.sizeOf4
  v4 := Tryz.zeroValue4
  t5 := Tryz.underlying5
  a5 := Tryz.isAgg5
  z5 := Tryz.sizeOf5
  v5 := Tryz.zeroValue5
  t9 := Tryz.underlying9
  a9 := Tryz.isAgg9
  z9 := Tryz.sizeOf9
  v9 := Tryz.zeroValue9
  t20 := Tryz.underlying20
  a20 := Tryz.isAgg20
  z20 := Tryz.sizeOf20
  v20 := Tryz.zeroValue20
  t21 := Tryz.underlying21
  a21 := Tryz.isAgg21
  z21 := Tryz.sizeOf21
  v21 := Tryz.zeroValue21
  t37 := Tryz.underlying177
  a37 := Tryz.isAgg177
  z37 := Tryz.sizeOf177
  v37 := Tryz.zeroValue177
  t46 := Tryz.underlying202
  a46 := Tryz.isAgg202
  z46 := Tryz.sizeOf202
  v46 := Tryz.zeroValue202
  t51 := Tryz.underlying200
  a51 := Tryz.isAgg200
  z51 := Tryz.sizeOf200
  v51 := Tryz.zeroValue200
  t53 := Tryz.underlying187
  a53 := Tryz.isAgg187
  z53 := Tryz.sizeOf187
  v53 := Tryz.zeroValue187
  t75 := Tryz.underlying168
  a75 := Tryz.isAgg168
  z75 := Tryz.sizeOf168
  v75 := Tryz.zeroValue168
  t85 := Tryz.underlying169
  a85 := Tryz.isAgg169
  z85 := Tryz.sizeOf169
  v85 := Tryz.zeroValue169
  t127 := Tryz.underlying219
  a127 := Tryz.isAgg219
  z127 := Tryz.sizeOf219
  v127 := Tryz.zeroValue219
  t143 := Tryz.underlying220
  a143 := Tryz.isAgg220
  z143 := Tryz.sizeOf220
  v143 := Tryz.zeroValue220
  t145 := Tryz.underlying222
  a145 := Tryz.isAgg222
  z145 := Tryz.sizeOf222
  v145 := Tryz.zeroValue222
  t167 := Tryz.underlying204
  a167 := Tryz.isAgg204
  z167 := Tryz.sizeOf204
  v167 := Tryz.zeroValue204
  t168 := Tryz.underlying207
  a168 := Tryz.isAgg207
  z168 := Tryz.sizeOf207
  v168 := Tryz.zeroValue207
  t171 := Tryz.underlying186
  a171 := Tryz.isAgg186
  z171 := Tryz.sizeOf186
  v171 := Tryz.zeroValue186
  t173 := Tryz.underlying190
  a173 := Tryz.isAgg190
  z173 := Tryz.sizeOf190
  v173 := Tryz.zeroValue190
  t175 := Tryz.underlying205
  a175 := Tryz.isAgg205
  z175 := Tryz.sizeOf205
  v175 := Tryz.zeroValue205
  t210 := Tryz.underlying215
  a210 := Tryz.isAgg215
  z210 := Tryz.sizeOf215
  v210 := Tryz.zeroValue215
  t212 := Tryz.underlying199
  a212 := Tryz.isAgg199
  z212 := Tryz.sizeOf199
  v212 := Tryz.zeroValue199
  t213 := Tryz.underlying201
  a213 := Tryz.isAgg201
  z213 := Tryz.sizeOf201
  t232 := Tryz.underlying217
  a232 := Tryz.isAgg217
  z232 := Tryz.sizeOf217
  v232 := Tryz.zeroValue217
  t233 := Tryz.underlying218
  a233 := Tryz.isAgg218
  z233 := Tryz.sizeOf218
  v233 := Tryz.zeroValue218
  g15 := by kernel_rfl
  g16 := by kernel_rfl
  g17 := by kernel_rfl
  g18 := by kernel_rfl
  g19 := by kernel_rfl
  t80 := Tryz.underlying223
  a80 := Tryz.isAgg223
  z80 := Tryz.sizeOf223
  v80 := Tryz.zeroValue223
  i0 := by kernel_rfl
  i2 := by kernel_rfl
  i3 := by kernel_rfl
  i4 := by kernel_rfl
  i5 := by kernel_rfl
  i9 := by kernel_rfl
  i20 := by kernel_rfl
  i21 := by kernel_rfl
  i37 := by kernel_rfl
  i46 := by kernel_rfl
  i51 := by kernel_rfl
  i53 := by kernel_rfl
  i75 := by kernel_rfl
  i80 := by kernel_rfl
  i85 := by kernel_rfl
  i127 := by kernel_rfl
  i143 := by kernel_rfl
  i145 := by kernel_rfl
  i167 := by kernel_rfl
  i168 := by kernel_rfl
  i171 := by kernel_rfl
  i173 := by kernel_rfl
  i175 := by kernel_rfl
  i210 := by kernel_rfl
  i212 := by kernel_rfl
  i232 := by kernel_rfl
  i233 := by kernel_rfl
  m15 := by kernel_rfl
  m16 := by kernel_rfl
  m17 := by kernel_rfl
  m18 := by kernel_rfl
  m19 := by kernel_rfl
  c0 := by kernel_rfl
  c2 := by kernel_rfl
  c3 := by kernel_rfl
  c4 := by kernel_rfl
  c5 := by kernel_rfl
  c9 := by kernel_rfl
  c20 := by kernel_rfl
  c21 := by kernel_rfl
  c37 := by kernel_rfl
  c46 := by kernel_rfl
  c51 := by kernel_rfl
  c53 := by kernel_rfl
  c75 := by kernel_rfl
  c80 := by kernel_rfl
  c85 := by kernel_rfl
  c127 := by kernel_rfl
  c143 := by kernel_rfl
  c145 := by kernel_rfl
  c167 := by kernel_rfl
  c168 := by kernel_rfl
  c171 := by kernel_rfl
  c173 := by kernel_rfl
  c175 := by kernel_rfl
  c210 := by kernel_rfl
  c212 := by kernel_rfl
  c213 := by kernel_rfl
  c232 := by kernel_rfl
  c233 := by kernel_rfl }
end Go.Proofs

-- T1
namespace Go.Proofs.YtaoafjlocjjbbaaGreatDoor
open Go.Sp
set_option maxRecDepth 100000
/-- vouch/vouchlaw18.put -/
def c14 : C := (.seq (.reg [(rO 4 (.new 52 [.string ⟨#[]⟩, .bool false, .string ⟨#[]⟩]))])
 (.seq (.reg [(rO 5 (.mv (.tmp 0))),
 (rO 6 (.mv (.tmp 1))),
 (rO 7 (.bld [.bool false, .string ⟨#[]⟩] [(0, 1, (.const (.bool true))), (1, 1, (.tmp 6))])),
 (rO 8 (.bld [.string ⟨#[]⟩, .bool false, .string ⟨#[]⟩] [(0, 1, (.tmp 5)), (1, 2, (.tmp 7))])),
 ⟨none, (.st 3 (.tmp 4) (.tmp 8)), none⟩])
 .ret))
def r14 : List RV := [.agg 4 3]
theorem ok14 : FnOk Tryz.prog 14 9 c14 r14 := ⟨[40, 45], _, _, Tryz.func14, rfl, rfl, by kernel_rfl, by kernel_rfl, by kernel_rfl⟩
/-- vouch/vouchref13.Same -/
def c24 : C := (.seq (.reg [(rO 2 (.box 39 (.tmp 0))),
 (rO 3 (.box 39 (.tmp 1))),
 (rO 4 (.mv (.const (.bool false))))])
 (.seq (.seq (.reg [(rO 6 (.fa 0 (.tmp 2))),
 (rO 7 (.ld none (.tmp 6))),
 (rO 8 (.fa 0 (.tmp 3))),
 (rO 9 (.ld none (.tmp 8))),
 (rO 10 (.bin .neq (.tmp 7) (.tmp 9))),
 (rO 11 (.mv (.tmp 10))),
 ⟨(some 12), (.fa 1 (.tmp 2)), (some (11, false))⟩,
 ⟨(some 13), (.ld none (.tmp 12)), (some (11, false))⟩,
 ⟨(some 14), (.fa 1 (.tmp 3)), (some (11, false))⟩,
 ⟨(some 15), (.ld none (.tmp 14)), (some (11, false))⟩,
 ⟨(some 16), (.bin .neq (.tmp 13) (.tmp 15)), (some (11, false))⟩,
 (rO 17 (.pick (.tmp 11) (.const (.bool true)) (.tmp 16))),
 (rO 18 (.mv (.tmp 17))),
 ⟨(some 19), (.fa 2 (.tmp 2)), (some (18, false))⟩,
 ⟨(some 20), (.ld none (.tmp 19)), (some (18, false))⟩,
 ⟨(some 21), (.fa 2 (.tmp 3)), (some (18, false))⟩,
 ⟨(some 22), (.ld none (.tmp 21)), (some (18, false))⟩,
 ⟨(some 23), (.bin .neq (.tmp 20) (.tmp 22)), (some (18, false))⟩,
 (rO 24 (.pick (.tmp 18) (.const (.bool true)) (.tmp 23))),
 (rO 25 (.mv (.tmp 24))),
 ⟨(some 26), (.fa 3 (.tmp 2)), (some (25, false))⟩,
 ⟨(some 27), (.ld none (.tmp 26)), (some (25, false))⟩,
 ⟨(some 28), (.fa 3 (.tmp 3)), (some (25, false))⟩,
 ⟨(some 29), (.ld none (.tmp 28)), (some (25, false))⟩,
 ⟨(some 30), (.bin .neq (.tmp 27) (.tmp 29)), (some (25, false))⟩,
 (rO 31 (.pick (.tmp 25) (.const (.bool true)) (.tmp 30))),
 (rO 32 (.mv (.tmp 31))),
 ⟨(some 33), (.fa 4 (.tmp 2)), (some (32, false))⟩,
 ⟨(some 34), (.ld none (.tmp 33)), (some (32, false))⟩,
 ⟨(some 35), (.fa 4 (.tmp 3)), (some (32, false))⟩,
 ⟨(some 36), (.ld none (.tmp 35)), (some (32, false))⟩,
 ⟨(some 37), (.bin .neq (.tmp 34) (.tmp 36)), (some (32, false))⟩,
 (rO 38 (.pick (.tmp 32) (.const (.bool true)) (.tmp 37))),
 (rO 39 (.mv (.tmp 38))),
 ⟨(some 40), (.fa 5 (.tmp 2)), (some (39, false))⟩,
 ⟨(some 41), (.ld none (.tmp 40)), (some (39, false))⟩,
 ⟨(some 42), (.fa 5 (.tmp 3)), (some (39, false))⟩,
 ⟨(some 43), (.ld none (.tmp 42)), (some (39, false))⟩,
 ⟨(some 44), (.bin .neq (.tmp 41) (.tmp 43)), (some (39, false))⟩,
 (rO 45 (.pick (.tmp 39) (.const (.bool true)) (.tmp 44))),
 (rO 46 (.mv (.tmp 45))),
 ⟨(some 47), (.fa 6 (.tmp 2)), (some (46, false))⟩,
 ⟨(some 48), (.ld none (.tmp 47)), (some (46, false))⟩,
 ⟨(some 49), (.fa 6 (.tmp 3)), (some (46, false))⟩,
 ⟨(some 50), (.ld none (.tmp 49)), (some (46, false))⟩,
 ⟨(some 51), (.bin .neq (.tmp 48) (.tmp 50)), (some (46, false))⟩,
 (rO 52 (.pick (.tmp 46) (.const (.bool true)) (.tmp 51))),
 (rO 53 (.mv (.tmp 52))),
 ⟨(some 54), (.fa 7 (.tmp 2)), (some (53, false))⟩,
 ⟨(some 55), (.ld (some 2) (.tmp 54)), (some (53, false))⟩,
 ⟨(some 56), (.fa 7 (.tmp 3)), (some (53, false))⟩,
 ⟨(some 57), (.ld (some 2) (.tmp 56)), (some (53, false))⟩,
 ⟨(some 58), (.eqa true [.num, .num] (.tmp 55) (.tmp 57)), (some (53, false))⟩,
 (rO 59 (.pick (.tmp 53) (.const (.bool true)) (.tmp 58))),
 (rO 60 (.mv (.tmp 59))),
 ⟨(some 61), (.fa 9 (.tmp 2)), (some (60, false))⟩,
 ⟨(some 62), (.ld (some 2) (.tmp 61)), (some (60, false))⟩,
 ⟨(some 63), (.fa 9 (.tmp 3)), (some (60, false))⟩,
 ⟨(some 64), (.ld (some 2) (.tmp 63)), (some (60, false))⟩,
 ⟨(some 65), (.eqa true [.truth, .text] (.tmp 62) (.tmp 64)), (some (60, false))⟩,
 (rO 66 (.pick (.tmp 60) (.const (.bool true)) (.tmp 65))),
 (rO 67 (.mv (.tmp 66))),
 ⟨(some 68), (.fa 11 (.tmp 2)), (some (67, false))⟩,
 ⟨(some 69), (.ld none (.tmp 68)), (some (67, false))⟩,
 ⟨(some 70), (.fa 11 (.tmp 3)), (some (67, false))⟩,
 ⟨(some 71), (.ld none (.tmp 70)), (some (67, false))⟩,
 ⟨(some 72), (.eqs true .bool (.tmp 69) (.tmp 71)), (some (67, false))⟩,
 (rO 73 (.pick (.tmp 67) (.const (.bool true)) (.tmp 72))),
 (rO 74 (.mv (.tmp 73))),
 ⟨(some 75), (.fa 12 (.tmp 2)), (some (74, false))⟩,
 ⟨(some 76), (.ld none (.tmp 75)), (some (74, false))⟩,
 ⟨(some 77), (.fa 12 (.tmp 3)), (some (74, false))⟩,
 ⟨(some 78), (.ld none (.tmp 77)), (some (74, false))⟩,
 ⟨(some 79), (.bin .neq (.tmp 76) (.tmp 78)), (some (74, false))⟩,
 (rO 80 (.pick (.tmp 74) (.const (.bool true)) (.tmp 79))),
 (rO 81 (.mv (.tmp 80))),
 ⟨(some 82), (.fa 13 (.tmp 2)), (some (81, false))⟩,
 ⟨(some 83), (.ld none (.tmp 82)), (some (81, false))⟩,
 ⟨(some 84), (.fa 13 (.tmp 3)), (some (81, false))⟩,
 ⟨(some 85), (.ld none (.tmp 84)), (some (81, false))⟩,
 ⟨(some 86), (.bin .neq (.tmp 83) (.tmp 85)), (some (81, false))⟩,
 (rO 87 (.pick (.tmp 81) (.const (.bool true)) (.tmp 86))),
 (rO 88 (.mv (.tmp 87))),
 ⟨(some 89), (.fa 14 (.tmp 2)), (some (88, false))⟩,
 ⟨(some 90), (.ld none (.tmp 89)), (some (88, false))⟩,
 ⟨(some 91), (.len true (.tmp 90)), (some (88, false))⟩,
 ⟨(some 92), (.fa 14 (.tmp 3)), (some (88, false))⟩,
 ⟨(some 93), (.ld none (.tmp 92)), (some (88, false))⟩,
 ⟨(some 94), (.len true (.tmp 93)), (some (88, false))⟩,
 ⟨(some 95), (.bin .neq (.tmp 91) (.tmp 94)), (some (88, false))⟩,
 (rO 96 (.pick (.tmp 88) (.const (.bool true)) (.tmp 95))),
 (rO 97 (.mv (.tmp 96))),
 ⟨(some 98), (.fa 15 (.tmp 2)), (some (97, false))⟩,
 ⟨(some 99), (.ld none (.tmp 98)), (some (97, false))⟩,
 ⟨(some 100), (.len true (.tmp 99)), (some (97, false))⟩,
 ⟨(some 101), (.fa 15 (.tmp 3)), (some (97, false))⟩,
 ⟨(some 102), (.ld none (.tmp 101)), (some (97, false))⟩,
 ⟨(some 103), (.len true (.tmp 102)), (some (97, false))⟩,
 ⟨(some 104), (.bin .neq (.tmp 100) (.tmp 103)), (some (97, false))⟩,
 (rO 105 (.pick (.tmp 97) (.const (.bool true)) (.tmp 104)))])
 (.cond (.tmp 105) (.seq (.reg [(rO 4 (.mv (.const (.bool false))))])
 .ret)
 .skip))
 (.seq (.seq (.reg [(rO 5 (.mv (.const (.int .i64 0))))])
 (.block 0 (.loop (.seq (.seq (.reg [(rO 106 (.mv (.tmp 5))),
 (rO 107 (.fa 14 (.tmp 2))),
 (rO 108 (.ld none (.tmp 107))),
 (rO 109 (.len true (.tmp 108))),
 (rO 110 (.bin .lss (.tmp 106) (.tmp 109)))])
 (.cond (.tmp 110) .skip
 (.exit 0)))
 (.seq (.block 1 (.seq (.draw [⟨(rO 113 (.fa 14 (.tmp 2))), .p⟩,
 ⟨(rO 114 (.ld none (.tmp 113))), .l⟩,
 ⟨(rO 115 (.mv (.tmp 5))), .p⟩,
 ⟨(rO 116 (.ia 3 (.tmp 114) (.tmp 115))), .p⟩,
 ⟨(rO 117 (.ld (some 3) (.tmp 116))), .l⟩,
 ⟨(rO 118 (.fa 14 (.tmp 3))), .p⟩,
 ⟨(rO 119 (.ld none (.tmp 118))), .l⟩,
 ⟨(rO 120 (.mv (.tmp 5))), .p⟩,
 ⟨(rO 121 (.ia 3 (.tmp 119) (.tmp 120))), .p⟩,
 ⟨(rO 122 (.ld (some 3) (.tmp 121))), .l⟩,
 ⟨(rO 123 (.eqa true [.text, .truth, .text] (.tmp 117) (.tmp 122))), .p⟩])
 (.cond (.tmp 123) (.seq (.reg [(rO 4 (.mv (.const (.bool false))))])
 .ret)
 .skip)))
 (.reg [(rO 111 (.mv (.tmp 5))),
 (rO 112 (.bin .add (.tmp 111) (.const (.int .i64 1)))),
 (rO 5 (.mv (.tmp 112)))]))))))
 (.seq (.reg [(rO 124 (.fa 15 (.tmp 2))),
 (rO 125 (.ld none (.tmp 124))),
 (rO 126 (.fa 15 (.tmp 3))),
 (rO 127 (.ld none (.tmp 126))),
 (rO 128 (.call 54 [(.tmp 125), (.tmp 127)])),
 (rO 4 (.mv (.tmp 128)))])
 .ret))))
def r24 : List RV := [.tmp 4]
theorem ok24 : FnOk Tryz.prog 24 129 c24 r24 := ⟨[40, 45], _, _, Tryz.func24, rfl, rfl, by kernel_rfl, by kernel_rfl, by kernel_rfl⟩
/-- (*vouch/session.Session).Clone -/
def c35 : C := (.seq (.reg [(rO 2 (.mv (.const (.pointer none))))])
 (.seq (.seq (.reg [(rO 3 (.mv (.tmp 0))),
 (rO 4 (.eqs false .ptr (.tmp 3) (.const (.pointer none))))])
 (.cond (.tmp 4) (.seq (.reg [(rO 2 (.mv (.const (.pointer none))))])
 .ret)
 .skip))
 (.seq (.draw [⟨(rO 5 (.mv (.tmp 0))), .p⟩,
 ⟨(rO 6 (.nilc (.tmp 5))), .p⟩,
 ⟨(rO 7 (.fa 0 (.tmp 6))), .p⟩,
 ⟨(rO 8 (.ld none (.tmp 7))), .l⟩,
 ⟨(rO 9 (.mv (.tmp 0))), .p⟩,
 ⟨(rO 10 (.nilc (.tmp 9))), .p⟩,
 ⟨(rO 11 (.fa 1 (.tmp 10))), .p⟩,
 ⟨(rO 12 (.ld (some 6) (.tmp 11))), .l⟩,
 ⟨(rO 13 (.mv (.tmp 0))), .p⟩,
 ⟨(rO 14 (.nilc (.tmp 13))), .p⟩,
 ⟨(rO 15 (.fa 7 (.tmp 14))), .p⟩,
 ⟨(rO 16 (.ld none (.tmp 15))), .l⟩,
 ⟨(rO 17 (.call 72 [(.tmp 16)])), .g⟩,
 ⟨(rO 18 (.bld [.int .i64 (0), .int .i64 (0), .bool false, .int .i64 (0), .int .i64 (0), .int .i64 (0), .int .i64 (0), .slice none 0 0] [(0, 1, (.tmp 8)), (1, 6, (.tmp 12)), (7, 1, (.tmp 17))])), .p⟩,
 ⟨(rO 19 (.box 130 (.tmp 18))), .f⟩,
 ⟨(rO 2 (.mv (.tmp 19))), .p⟩])
 .ret)))
def r35 : List RV := [.tmp 2]
theorem ok35 : FnOk Tryz.prog 35 20 c35 r35 := ⟨[40, 45], _, _, Tryz.func35, rfl, rfl, by kernel_rfl, by kernel_rfl, by kernel_rfl⟩
/-- vouch/session.New -/
def c37 : C := (.seq (.reg [(rO 2 (.mv (.const (.pointer none))))])
 (.seq (.reg [(rO 3 (.mv (.tmp 0))),
 (rO 4 (.bld [.int .i64 (0), .int .i64 (0), .bool false, .int .i64 (0), .int .i64 (0), .int .i64 (0), .int .i64 (0), .slice none 0 0] [(0, 1, (.tmp 3))])),
 (rO 5 (.box 130 (.tmp 4))),
 (rO 2 (.mv (.tmp 5)))])
 .ret))
def r37 : List RV := [.tmp 2]
theorem ok37 : FnOk Tryz.prog 37 6 c37 r37 := ⟨[40, 45], _, _, Tryz.func37, rfl, rfl, by kernel_rfl, by kernel_rfl, by kernel_rfl⟩
/-- (*vouch/session.Session).Send -/
def c39 : C := (.seq (.reg [(rO 4 (.new 39 [.int .i64 (0), .int .i64 (0), .int .i64 (0), .int .i64 (0), .int .i64 (0), .int .i64 (0), .string ⟨#[]⟩, .int .i64 (0), .int .i64 (0), .bool false, .string ⟨#[]⟩, .bool false, .int .i64 (0), .int .i64 (0), .slice none 0 0, .slice none 0 0])),
 (rO 5 (.mv (.const (.int .i64 0))))])
 (.seq (.block 0 (.seq (.reg [(rO 9 (.mv (.tmp 0))),
 (rO 10 (.eqs false .ptr (.tmp 9) (.const (.pointer none)))),
 (rO 8 (.mv (.tmp 10)))])
 (.cond (.tmp 8) (.seq (.reg [(rO 11 (.bld [.int .i64 (0), .int .i64 (0), .int .i64 (0), .int .i64 (0), .int .i64 (0), .int .i64 (0), .string ⟨#[]⟩, .int .i64 (0), .int .i64 (0), .bool false, .string ⟨#[]⟩, .bool false, .int .i64 (0), .int .i64 (0), .slice none 0 0, .slice none 0 0] [])),
 ⟨none, (.st 16 (.tmp 4) (.tmp 11)), none⟩,
 (rO 5 (.mv (.const (.int .i64 3))))])
 .ret)
 (.seq (.reg [(rO 13 (.mv (.tmp 0))),
 (rO 14 (.nilc (.tmp 13))),
 (rO 15 (.fa 1 (.tmp 14))),
 (rO 16 (.fa 1 (.tmp 15))),
 (rO 17 (.ld none (.tmp 16))),
 (rO 12 (.mv (.tmp 17)))])
 (.cond (.tmp 12) (.seq (.reg [(rO 18 (.bld [.int .i64 (0), .int .i64 (0), .int .i64 (0), .int .i64 (0), .int .i64 (0), .int .i64 (0), .string ⟨#[]⟩, .int .i64 (0), .int .i64 (0), .bool false, .string ⟨#[]⟩, .bool false, .int .i64 (0), .int .i64 (0), .slice none 0 0, .slice none 0 0] [])),
 ⟨none, (.st 16 (.tmp 4) (.tmp 18)), none⟩,
 (rO 5 (.mv (.const (.int .i64 31))))])
 .ret)
 .skip)))))
 (.seq (.seq (.reg [(rO 20 (.call 73 [(.const (.int .i64 1))])),
 (rO 21 (.mv (.tmp 1))),
 (rO 22 (.call 74 [(.tmp 20), (.tmp 21)])),
 (rO 19 (.mv (.tmp 22))),
 (rO 23 (.ext 0 (.tmp 19))),
 (rO 24 (.ext 1 (.tmp 19))),
 (rO 6 (.mv (.tmp 23))),
 (rO 7 (.mv (.tmp 24)))])
 (.seq (.reg [(rO 25 (.mv (.tmp 7))),
 (rO 26 (.bin .neq (.tmp 25) (.const (.int .i64 0))))])
 (.cond (.tmp 26) (.seq (.reg [(rO 27 (.bld [.int .i64 (0), .int .i64 (0), .int .i64 (0), .int .i64 (0), .int .i64 (0), .int .i64 (0), .string ⟨#[]⟩, .int .i64 (0), .int .i64 (0), .bool false, .string ⟨#[]⟩, .bool false, .int .i64 (0), .int .i64 (0), .slice none 0 0, .slice none 0 0] [])),
 (rO 28 (.mv (.tmp 7))),
 ⟨none, (.st 16 (.tmp 4) (.tmp 27)), none⟩,
 (rO 5 (.mv (.tmp 28)))])
 .ret)
 .skip)))
 (.seq (.seq (.reg [(rO 29 (.mv (.tmp 0))),
 (rO 30 (.nilc (.tmp 29))),
 (rO 31 (.fa 1 (.tmp 30))),
 (rO 32 (.fa 2 (.tmp 31))),
 (rO 33 (.ld none (.tmp 32))),
 (rO 34 (.bin .geq (.tmp 33) (.const (.int .i64 2147483647))))])
 (.cond (.tmp 34) (.seq (.reg [(rO 35 (.bld [.int .i64 (0), .int .i64 (0), .int .i64 (0), .int .i64 (0), .int .i64 (0), .int .i64 (0), .string ⟨#[]⟩, .int .i64 (0), .int .i64 (0), .bool false, .string ⟨#[]⟩, .bool false, .int .i64 (0), .int .i64 (0), .slice none 0 0, .slice none 0 0] [])),
 ⟨none, (.st 16 (.tmp 4) (.tmp 35)), none⟩,
 (rO 5 (.mv (.const (.int .i64 2))))])
 .ret)
 .skip))
 (.seq (.reg [(rO 36 (.mv (.tmp 0))),
 (rO 37 (.nilc (.tmp 36))),
 (rO 38 (.fa 1 (.tmp 37))),
 (rO 39 (.fa 2 (.tmp 38))),
 (rO 40 (.ld none (.tmp 39))),
 (rO 41 (.bin .add (.tmp 40) (.const (.int .i64 1)))),
 (rO 42 (.nilc (.tmp 36))),
 (rO 43 (.fa 1 (.tmp 42))),
 (rO 44 (.fa 2 (.tmp 43))),
 ⟨none, (.st 1 (.tmp 44) (.tmp 41)), none⟩])
 (.seq (.reg [(rO 45 (.mv (.tmp 0))),
 (rO 46 (.mv (.tmp 0))),
 (rO 47 (.nilc (.tmp 45))),
 (rO 48 (.fa 1 (.tmp 47))),
 (rO 49 (.fa 1 (.tmp 48))),
 ⟨none, (.st 1 (.tmp 49) (.const (.bool true))), none⟩,
 (rO 50 (.nilc (.tmp 46))),
 (rO 51 (.fa 1 (.tmp 50))),
 (rO 52 (.fa 3 (.tmp 51))),
 ⟨none, (.st 1 (.tmp 52) (.const (.int .i64 0))), none⟩])
 (.seq (.reg [(rO 53 (.mv (.tmp 0))),
 (rO 54 (.mv (.tmp 1))),
 (rO 55 (.call 72 [(.tmp 54)])),
 (rO 56 (.nilc (.tmp 53))),
 (rO 57 (.fa 7 (.tmp 56))),
 ⟨none, (.st 1 (.tmp 57) (.tmp 55)), none⟩])
 (.seq (.reg [(rO 58 (.mv (.tmp 0))),
 (rO 59 (.call 75 [(.tmp 58)])),
 ⟨none, (.st 16 (.tmp 4) (.tmp 59)), none⟩,
 (rO 5 (.mv (.const (.int .i64 0))))])
 .ret))))))))
def r39 : List RV := [.agg 4 16, .tmp 5]
theorem ok39 : FnOk Tryz.prog 39 60 c39 r39 := ⟨[40, 45], _, _, Tryz.func39, rfl, rfl, by kernel_rfl, by kernel_rfl, by kernel_rfl⟩
/-- (*vouch/session.Session).Ack -/
def c40 : C := (.seq (.reg [(rO 3 (.box 39 (.tmp 1))),
 (rO 4 (.mv (.const (.bool false))))])
 (.seq (.seq (.draw [⟨(rO 5 (.mv (.tmp 0))), .p⟩,
 ⟨(rO 6 (.eqs false .ptr (.tmp 5) (.const (.pointer none)))), .p⟩,
 ⟨(rO 7 (.mv (.tmp 6))), .p⟩,
 ⟨⟨(some 8), (.mv (.tmp 0)), (some (7, false))⟩, .p⟩,
 ⟨⟨(some 9), (.nilc (.tmp 8)), (some (7, false))⟩, .p⟩,
 ⟨⟨(some 10), (.fa 1 (.tmp 9)), (some (7, false))⟩, .p⟩,
 ⟨⟨(some 11), (.fa 1 (.tmp 10)), (some (7, false))⟩, .p⟩,
 ⟨⟨(some 12), (.ld none (.tmp 11)), (some (7, false))⟩, .l⟩,
 ⟨⟨(some 13), (.nt (.tmp 12)), (some (7, false))⟩, .p⟩,
 ⟨(rO 14 (.pick (.tmp 7) (.const (.bool true)) (.tmp 13))), .p⟩,
 ⟨(rO 15 (.mv (.tmp 14))), .p⟩,
 ⟨⟨(some 16), (.fa 0 (.tmp 3)), (some (15, false))⟩, .p⟩,
 ⟨⟨(some 17), (.ld none (.tmp 16)), (some (15, false))⟩, .l⟩,
 ⟨⟨(some 18), (.bin .neq (.tmp 17) (.const (.int .i64 2))), (some (15, false))⟩, .p⟩,
 ⟨(rO 19 (.pick (.tmp 15) (.const (.bool true)) (.tmp 18))), .p⟩,
 ⟨(rO 20 (.mv (.tmp 19))), .p⟩,
 ⟨⟨(some 21), (.fa 3 (.tmp 3)), (some (20, false))⟩, .p⟩,
 ⟨⟨(some 22), (.ld none (.tmp 21)), (some (20, false))⟩, .l⟩,
 ⟨⟨(some 23), (.mv (.tmp 0)), (some (20, false))⟩, .p⟩,
 ⟨⟨(some 24), (.nilc (.tmp 23)), (some (20, false))⟩, .p⟩,
 ⟨⟨(some 25), (.fa 0 (.tmp 24)), (some (20, false))⟩, .p⟩,
 ⟨⟨(some 26), (.ld none (.tmp 25)), (some (20, false))⟩, .l⟩,
 ⟨⟨(some 27), (.bin .neq (.tmp 22) (.tmp 26)), (some (20, false))⟩, .p⟩,
 ⟨(rO 28 (.pick (.tmp 20) (.const (.bool true)) (.tmp 27))), .p⟩,
 ⟨(rO 29 (.mv (.tmp 28))), .p⟩,
 ⟨⟨(some 30), (.fa 5 (.tmp 3)), (some (29, false))⟩, .p⟩,
 ⟨⟨(some 31), (.ld none (.tmp 30)), (some (29, false))⟩, .l⟩,
 ⟨⟨(some 32), (.mv (.tmp 0)), (some (29, false))⟩, .p⟩,
 ⟨⟨(some 33), (.nilc (.tmp 32)), (some (29, false))⟩, .p⟩,
 ⟨⟨(some 34), (.fa 1 (.tmp 33)), (some (29, false))⟩, .p⟩,
 ⟨⟨(some 35), (.fa 2 (.tmp 34)), (some (29, false))⟩, .p⟩,
 ⟨⟨(some 36), (.ld none (.tmp 35)), (some (29, false))⟩, .l⟩,
 ⟨⟨(some 37), (.bin .neq (.tmp 31) (.tmp 36)), (some (29, false))⟩, .p⟩,
 ⟨(rO 38 (.pick (.tmp 29) (.const (.bool true)) (.tmp 37))), .p⟩])
 (.cond (.tmp 38) (.seq (.reg [(rO 4 (.mv (.const (.bool false))))])
 .ret)
 .skip))
 (.seq (.reg [(rO 39 (.mv (.tmp 0))),
 (rO 40 (.fa 12 (.tmp 3))),
 (rO 41 (.ld none (.tmp 40))),
 (rO 42 (.call 76 [(.tmp 39), (.tmp 41)]))])
 (.seq (.seq (.reg [(rO 43 (.fa 12 (.tmp 3))),
 (rO 44 (.ld none (.tmp 43))),
 (rO 45 (.bin .eql (.tmp 44) (.const (.int .i64 0))))])
 (.cond (.tmp 45) (.seq (.reg [(rO 46 (.mv (.tmp 0))),
 (rO 47 (.fa 13 (.tmp 3))),
 (rO 48 (.ld none (.tmp 47))),
 (rO 49 (.nilc (.tmp 46))),
 (rO 50 (.fa 1 (.tmp 49))),
 (rO 51 (.fa 4 (.tmp 50))),
 ⟨none, (.st 1 (.tmp 51) (.tmp 48)), none⟩])
 (.reg [(rO 52 (.mv (.tmp 0))),
 (rO 53 (.fa 13 (.tmp 3))),
 (rO 54 (.ld none (.tmp 53))),
 (rO 55 (.call 48 [(.tmp 52), (.tmp 54)]))]))
 .skip))
 (.seq (.reg [(rO 4 (.mv (.const (.bool true))))])
 .ret)))))
def r40 : List RV := [.tmp 4]
theorem ok40 : FnOk Tryz.prog 40 56 c40 r40 := ⟨[40, 45], _, _, Tryz.func40, rfl, rfl, by kernel_rfl, by kernel_rfl, by kernel_rfl⟩
/-- vouch/session.Token -/
def c43 : C := (.seq (.reg [(rO 2 (.mv (.const (.string { data := #[] })))),
 (rO 3 (.mv (.const (.int .i64 0))))])
 (.seq (.seq (.reg [(rO 4 (.mv (.tmp 0))),
 (rO 5 (.bin .lss (.tmp 4) (.const (.int .i64 0)))),
 (rO 6 (.mv (.tmp 5))),
 ⟨(some 7), (.mv (.tmp 0)), (some (6, false))⟩,
 ⟨(some 8), (.bin .gtr (.tmp 7) (.const (.int .i64 1099511627776))), (some (6, false))⟩,
 (rO 9 (.pick (.tmp 6) (.const (.bool true)) (.tmp 8)))])
 (.cond (.tmp 9) (.seq (.reg [(rO 2 (.mv (.const (.string { data := #[] })))),
 (rO 3 (.mv (.const (.int .i64 1))))])
 .ret)
 .skip))
 (.seq (.reg [(rO 10 (.mv (.tmp 0))),
 (rO 11 (.call 81 [(.tmp 10), (.const (.int .i64 10))])),
 (rO 12 (.bin .add (.const (.string { data := #[116] })) (.tmp 11))),
 (rO 13 (.bin .add (.tmp 12) (.const (.string { data := #[46] })))),
 (rO 14 (.mv (.tmp 0))),
 (rO 15 (.bin .mul (.tmp 14) (.const (.int .i64 7)))),
 (rO 16 (.bin .add (.tmp 15) (.const (.int .i64 3)))),
 (rO 17 (.bin .rem (.tmp 16) (.const (.int .i64 26)))),
 (rO 18 (.bin .add (.const (.int .i64 97)) (.tmp 17))),
 (rO 19 (.conv .i32 (.tmp 18))),
 (rO 20 (.fnl .rune [(.tmp 19)])),
 (rO 21 (.bin .add (.tmp 13) (.tmp 20))),
 (rO 2 (.mv (.tmp 21))),
 (rO 3 (.mv (.const (.int .i64 0))))])
 .ret)))
def r43 : List RV := [.tmp 2, .tmp 3]
theorem ok43 : FnOk Tryz.prog 43 22 c43 r43 := ⟨[40, 45], _, _, Tryz.func43, rfl, rfl, by kernel_rfl, by kernel_rfl, by kernel_rfl⟩
/-- (*vouch/session.Session).Floor -/
def c44 : C := (.seq (.reg [(rO 2 (.mv (.const (.int .i64 0))))])
 (.seq (.reg [(rO 3 (.mv (.tmp 0))),
 (rO 4 (.call 70 [(.tmp 3)])),
 (rO 5 (.fld none 0 (.tmp 4))),
 (rO 2 (.mv (.tmp 5)))])
 .ret))
def r44 : List RV := [.tmp 2]
theorem ok44 : FnOk Tryz.prog 44 6 c44 r44 := ⟨[40, 45], _, _, Tryz.func44, rfl, rfl, by kernel_rfl, by kernel_rfl, by kernel_rfl⟩
/-- (*vouch/session.Session).Join -/
def c45 : C := (.seq (.reg [(rO 4 (.mv (.const (.int .i64 0))))])
 (.seq (.seq (.reg [(rO 7 (.mv (.tmp 0))),
 (rO 8 (.eqs false .ptr (.tmp 7) (.const (.pointer none))))])
 (.cond (.tmp 8) (.seq (.reg [(rO 4 (.mv (.const (.int .i64 3))))])
 .ret)
 .skip))
 (.seq (.reg [(rO 10 (.mv (.tmp 1))),
 (rO 11 (.call 82 [(.tmp 10)])),
 (rO 9 (.mv (.tmp 11))),
 (rO 12 (.ext 0 (.tmp 9))),
 (rO 13 (.ext 1 (.tmp 9))),
 (rO 5 (.mv (.tmp 12))),
 (rO 6 (.mv (.tmp 13)))])
 (.seq (.seq (.reg [(rO 14 (.mv (.tmp 6))),
 (rO 15 (.bin .eql (.tmp 14) (.const (.int .i64 0))))])
 (.cond (.tmp 15) (.reg [(rO 16 (.mv (.tmp 0))),
 (rO 17 (.mv (.tmp 5))),
 (rO 18 (.call 48 [(.tmp 16), (.tmp 17)]))])
 .skip))
 (.seq (.reg [(rO 19 (.mv (.tmp 6))),
 (rO 4 (.mv (.tmp 19)))])
 .ret)))))
def r45 : List RV := [.tmp 4]
theorem ok45 : FnOk Tryz.prog 45 20 c45 r45 := ⟨[40, 45], _, _, Tryz.func45, rfl, rfl, by kernel_rfl, by kernel_rfl, by kernel_rfl⟩
/-- (*vouch/session.Session).Raise -/
def c48 : C := (.seq (.reg [(rO 4 (.mv (.tmp 0))),
 (rO 5 (.eqs true .ptr (.tmp 4) (.const (.pointer none)))),
 (rO 6 (.mv (.tmp 5))),
 ⟨(some 7), (.mv (.tmp 1)), (some (6, true))⟩,
 ⟨(some 8), (.bin .leq (.tmp 7) (.const (.int .i64 1099511627776))), (some (6, true))⟩,
 (rO 9 (.pick (.tmp 6) (.tmp 8) (.const (.bool false))))])
 (.cond (.tmp 9) (.reg [(rO 10 (.mv (.tmp 0))),
 (rO 11 (.mv (.tmp 0))),
 (rO 12 (.nilc (.tmp 11))),
 (rO 13 (.fa 1 (.tmp 12))),
 (rO 14 (.fa 0 (.tmp 13))),
 (rO 15 (.ld none (.tmp 14))),
 (rO 16 (.mv (.tmp 1))),
 (rO 17 (.mx true (.tmp 15) (.tmp 16))),
 (rO 18 (.nilc (.tmp 10))),
 (rO 19 (.fa 1 (.tmp 18))),
 (rO 20 (.fa 0 (.tmp 19))),
 ⟨none, (.st 1 (.tmp 20) (.tmp 17)), none⟩])
 .skip))
def r48 : List RV := []
theorem ok48 : FnOk Tryz.prog 48 21 c48 r48 := ⟨[40, 45], _, _, Tryz.func48, rfl, rfl, by kernel_rfl, by kernel_rfl, by kernel_rfl⟩
/-- vouch/vouchref05.SameTexts -/
def c54 : C := (.seq (.reg [(rO 4 (.mv (.const (.bool false))))])
 (.seq (.seq (.reg [(rO 6 (.mv (.tmp 0))),
 (rO 7 (.len true (.tmp 6))),
 (rO 8 (.mv (.tmp 1))),
 (rO 9 (.len true (.tmp 8))),
 (rO 10 (.bin .neq (.tmp 7) (.tmp 9)))])
 (.cond (.tmp 10) (.seq (.reg [(rO 4 (.mv (.const (.bool false))))])
 .ret)
 .skip))
 (.seq (.seq (.reg [(rO 5 (.mv (.const (.int .i64 0))))])
 (.block 0 (.loop (.seq (.seq (.reg [(rO 11 (.mv (.tmp 5))),
 (rO 12 (.mv (.tmp 0))),
 (rO 13 (.len true (.tmp 12))),
 (rO 14 (.bin .lss (.tmp 11) (.tmp 13)))])
 (.cond (.tmp 14) .skip
 (.exit 0)))
 (.seq (.block 1 (.seq (.draw [⟨(rO 17 (.mv (.tmp 0))), .p⟩,
 ⟨(rO 18 (.mv (.tmp 5))), .p⟩,
 ⟨(rO 19 (.ia 1 (.tmp 17) (.tmp 18))), .p⟩,
 ⟨(rO 20 (.ld none (.tmp 19))), .l⟩,
 ⟨(rO 21 (.mv (.tmp 1))), .p⟩,
 ⟨(rO 22 (.mv (.tmp 5))), .p⟩,
 ⟨(rO 23 (.ia 1 (.tmp 21) (.tmp 22))), .p⟩,
 ⟨(rO 24 (.ld none (.tmp 23))), .l⟩,
 ⟨(rO 25 (.bin .neq (.tmp 20) (.tmp 24))), .p⟩])
 (.cond (.tmp 25) (.seq (.reg [(rO 4 (.mv (.const (.bool false))))])
 .ret)
 .skip)))
 (.reg [(rO 15 (.mv (.tmp 5))),
 (rO 16 (.bin .add (.tmp 15) (.const (.int .i64 1)))),
 (rO 5 (.mv (.tmp 16)))]))))))
 (.seq (.reg [(rO 4 (.mv (.const (.bool true))))])
 .ret))))
def r54 : List RV := [.tmp 4]
theorem ok54 : FnOk Tryz.prog 54 26 c54 r54 := ⟨[40, 45], _, _, Tryz.func54, rfl, rfl, by kernel_rfl, by kernel_rfl, by kernel_rfl⟩
/-- (*vouch/vouchref16.Session).Raise -/
def c59 : C := (.seq (.reg [(rO 4 (.mv (.tmp 1))),
 (rO 5 (.mv (.tmp 0))),
 (rO 6 (.nilc (.tmp 5))),
 (rO 7 (.fa 1 (.tmp 6))),
 (rO 8 (.fa 0 (.tmp 7))),
 (rO 9 (.ld none (.tmp 8))),
 (rO 10 (.bin .gtr (.tmp 4) (.tmp 9))),
 (rO 11 (.mv (.tmp 10))),
 ⟨(some 12), (.mv (.tmp 1)), (some (11, true))⟩,
 ⟨(some 13), (.bin .leq (.tmp 12) (.const (.int .i64 1099511627776))), (some (11, true))⟩,
 (rO 14 (.pick (.tmp 11) (.tmp 13) (.const (.bool false))))])
 (.cond (.tmp 14) (.reg [(rO 15 (.mv (.tmp 0))),
 (rO 16 (.mv (.tmp 1))),
 (rO 17 (.nilc (.tmp 15))),
 (rO 18 (.fa 1 (.tmp 17))),
 (rO 19 (.fa 0 (.tmp 18))),
 ⟨none, (.st 1 (.tmp 19) (.tmp 16)), none⟩])
 .skip))
def r59 : List RV := []
theorem ok59 : FnOk Tryz.prog 59 20 c59 r59 := ⟨[40, 45], _, _, Tryz.func59, rfl, rfl, by kernel_rfl, by kernel_rfl, by kernel_rfl⟩
/-- (*vouch/vouchref16.Session).Ack -/
def c61 : C := (.seq (.reg [(rO 3 (.box 39 (.tmp 1))),
 (rO 4 (.mv (.const (.bool false))))])
 (.seq (.seq (.draw [⟨(rO 5 (.mv (.tmp 0))), .p⟩,
 ⟨(rO 6 (.nilc (.tmp 5))), .p⟩,
 ⟨(rO 7 (.fa 1 (.tmp 6))), .p⟩,
 ⟨(rO 8 (.fa 1 (.tmp 7))), .p⟩,
 ⟨(rO 9 (.ld none (.tmp 8))), .l⟩,
 ⟨(rO 10 (.nt (.tmp 9))), .p⟩,
 ⟨(rO 11 (.mv (.tmp 10))), .p⟩,
 ⟨⟨(some 12), (.fa 0 (.tmp 3)), (some (11, false))⟩, .p⟩,
 ⟨⟨(some 13), (.ld none (.tmp 12)), (some (11, false))⟩, .l⟩,
 ⟨⟨(some 14), (.bin .neq (.tmp 13) (.const (.int .i64 2))), (some (11, false))⟩, .p⟩,
 ⟨(rO 15 (.pick (.tmp 11) (.const (.bool true)) (.tmp 14))), .p⟩,
 ⟨(rO 16 (.mv (.tmp 15))), .p⟩,
 ⟨⟨(some 17), (.fa 3 (.tmp 3)), (some (16, false))⟩, .p⟩,
 ⟨⟨(some 18), (.ld none (.tmp 17)), (some (16, false))⟩, .l⟩,
 ⟨⟨(some 19), (.mv (.tmp 0)), (some (16, false))⟩, .p⟩,
 ⟨⟨(some 20), (.nilc (.tmp 19)), (some (16, false))⟩, .p⟩,
 ⟨⟨(some 21), (.fa 0 (.tmp 20)), (some (16, false))⟩, .p⟩,
 ⟨⟨(some 22), (.ld none (.tmp 21)), (some (16, false))⟩, .l⟩,
 ⟨⟨(some 23), (.bin .neq (.tmp 18) (.tmp 22)), (some (16, false))⟩, .p⟩,
 ⟨(rO 24 (.pick (.tmp 16) (.const (.bool true)) (.tmp 23))), .p⟩,
 ⟨(rO 25 (.mv (.tmp 24))), .p⟩,
 ⟨⟨(some 26), (.fa 5 (.tmp 3)), (some (25, false))⟩, .p⟩,
 ⟨⟨(some 27), (.ld none (.tmp 26)), (some (25, false))⟩, .l⟩,
 ⟨⟨(some 28), (.mv (.tmp 0)), (some (25, false))⟩, .p⟩,
 ⟨⟨(some 29), (.nilc (.tmp 28)), (some (25, false))⟩, .p⟩,
 ⟨⟨(some 30), (.fa 1 (.tmp 29)), (some (25, false))⟩, .p⟩,
 ⟨⟨(some 31), (.fa 2 (.tmp 30)), (some (25, false))⟩, .p⟩,
 ⟨⟨(some 32), (.ld none (.tmp 31)), (some (25, false))⟩, .l⟩,
 ⟨⟨(some 33), (.bin .neq (.tmp 27) (.tmp 32)), (some (25, false))⟩, .p⟩,
 ⟨(rO 34 (.pick (.tmp 25) (.const (.bool true)) (.tmp 33))), .p⟩])
 (.cond (.tmp 34) (.seq (.reg [(rO 4 (.mv (.const (.bool false))))])
 .ret)
 .skip))
 (.seq (.reg [(rO 35 (.mv (.tmp 0))),
 (rO 36 (.nilc (.tmp 35))),
 (rO 37 (.fa 1 (.tmp 36))),
 (rO 38 (.fa 1 (.tmp 37))),
 ⟨none, (.st 1 (.tmp 38) (.const (.bool false))), none⟩])
 (.seq (.reg [(rO 39 (.mv (.tmp 0))),
 (rO 40 (.nilc (.tmp 39))),
 (rO 41 (.fa 1 (.tmp 40))),
 (rO 42 (.fa 3 (.tmp 41))),
 ⟨none, (.st 1 (.tmp 42) (.const (.int .i64 0))), none⟩])
 (.seq (.reg [(rO 43 (.mv (.tmp 0))),
 (rO 44 (.fa 12 (.tmp 3))),
 (rO 45 (.ld none (.tmp 44))),
 (rO 46 (.nilc (.tmp 43))),
 (rO 47 (.fa 1 (.tmp 46))),
 (rO 48 (.fa 5 (.tmp 47))),
 ⟨none, (.st 1 (.tmp 48) (.tmp 45)), none⟩])
 (.seq (.seq (.reg [(rO 49 (.fa 12 (.tmp 3))),
 (rO 50 (.ld none (.tmp 49))),
 (rO 51 (.bin .eql (.tmp 50) (.const (.int .i64 0))))])
 (.cond (.tmp 51) (.seq (.reg [(rO 52 (.mv (.tmp 0))),
 (rO 53 (.fa 13 (.tmp 3))),
 (rO 54 (.ld none (.tmp 53))),
 (rO 55 (.nilc (.tmp 52))),
 (rO 56 (.fa 1 (.tmp 55))),
 (rO 57 (.fa 4 (.tmp 56))),
 ⟨none, (.st 1 (.tmp 57) (.tmp 54)), none⟩])
 (.reg [(rO 58 (.mv (.tmp 0))),
 (rO 59 (.fa 13 (.tmp 3))),
 (rO 60 (.ld none (.tmp 59))),
 (rO 61 (.call 59 [(.tmp 58), (.tmp 60)]))]))
 .skip))
 (.seq (.reg [(rO 4 (.mv (.const (.bool true))))])
 .ret)))))))
def r61 : List RV := [.tmp 4]
theorem ok61 : FnOk Tryz.prog 61 62 c61 r61 := ⟨[40, 45], _, _, Tryz.func61, rfl, rfl, by kernel_rfl, by kernel_rfl, by kernel_rfl⟩
/-- (*vouch/session.Session).View -/
def c70 : C := (.seq (.reg [(rO 2 (.new 83 [.int .i64 (0), .bool false, .int .i64 (0), .int .i64 (0), .int .i64 (0), .int .i64 (0)]))])
 (.seq (.seq (.reg [(rO 3 (.mv (.tmp 0))),
 (rO 4 (.eqs false .ptr (.tmp 3) (.const (.pointer none))))])
 (.cond (.tmp 4) (.seq (.reg [(rO 5 (.bld [.int .i64 (0), .bool false, .int .i64 (0), .int .i64 (0), .int .i64 (0), .int .i64 (0)] [])),
 ⟨none, (.st 6 (.tmp 2) (.tmp 5)), none⟩])
 .ret)
 .skip))
 (.seq (.reg [(rO 6 (.mv (.tmp 0))),
 (rO 7 (.nilc (.tmp 6))),
 (rO 8 (.fa 1 (.tmp 7))),
 (rO 9 (.ld (some 6) (.tmp 8))),
 ⟨none, (.st 6 (.tmp 2) (.tmp 9)), none⟩])
 .ret)))
def r70 : List RV := [.agg 2 6]
theorem ok70 : FnOk Tryz.prog 70 10 c70 r70 := ⟨[40, 45], _, _, Tryz.func70, rfl, rfl, by kernel_rfl, by kernel_rfl, by kernel_rfl⟩
/-- slices.Clone[[]vouch/api.Write,vouch/api.Write] -/
def c72 : C := (.seq (.reg [(rO 2 (.mv (.const (.slice none 0 0))))])
 (.seq (.seq (.reg [(rO 3 (.mv (.tmp 0))),
 (rO 4 (.eqs false .slice (.tmp 3) (.const (.slice none 0 0))))])
 (.cond (.tmp 4) (.seq (.reg [(rO 2 (.mv (.const (.slice none 0 0))))])
 .ret)
 .skip))
 (.seq (.reg [(rO 5 (.lit 52 0 3 [] [])),
 (rO 6 (.mv (.tmp 0))),
 (rO 7 (.app 52 3 40 (.tmp 5) (.tmp 6))),
 (rO 2 (.mv (.tmp 7)))])
 .ret)))
def r72 : List RV := [.tmp 2]
theorem ok72 : FnOk Tryz.prog 72 8 c72 r72 := ⟨[40, 45], _, _, Tryz.func72, rfl, rfl, by kernel_rfl, by kernel_rfl, by kernel_rfl⟩
/-- vouch/store.New -/
def c73 : C := (.seq (.reg [(rO 2 (.mv (.const (.pointer none))))])
 (.seq (.reg [(rO 3 .mkmap),
 (rO 4 (.mv (.tmp 0))),
 (rO 5 (.mx true (.tmp 4) (.const (.int .i64 1)))),
 (rO 6 (.mx false (.tmp 5) (.const (.int .i64 64)))),
 (rO 7 (.bld [.map none, .int .i64 (0), .int .i64 (0)] [(0, 1, (.tmp 3)), (1, 1, (.tmp 6))])),
 (rO 8 (.box 155 (.tmp 7))),
 (rO 2 (.mv (.tmp 8)))])
 .ret))
def r73 : List RV := [.tmp 2]
theorem ok73 : FnOk Tryz.prog 73 9 c73 r73 := ⟨[40, 45], _, _, Tryz.func73, rfl, rfl, by kernel_rfl, by kernel_rfl, by kernel_rfl⟩
/-- (*vouch/store.Store).Commit -/
def c74 : C := (.seq (.reg [(rO 4 (.mv (.const (.int .i64 0)))),
 (rO 5 (.mv (.const (.int .i64 0))))])
 (.seq (.seq (.reg [(rO 11 (.mv (.tmp 0))),
 (rO 12 (.eqs false .ptr (.tmp 11) (.const (.pointer none))))])
 (.cond (.tmp 12) (.seq (.reg [(rO 4 (.mv (.const (.int .i64 0)))),
 (rO 5 (.mv (.const (.int .i64 3))))])
 .ret)
 .skip))
 (.seq (.seq (.reg [(rO 13 (.mv (.tmp 1))),
 (rO 14 (.call 96 [(.tmp 13)])),
 (rO 6 (.mv (.tmp 14)))])
 (.seq (.reg [(rO 15 (.mv (.tmp 6))),
 (rO 16 (.bin .neq (.tmp 15) (.const (.int .i64 0))))])
 (.cond (.tmp 16) (.seq (.reg [(rO 17 (.mv (.tmp 6))),
 (rO 4 (.mv (.const (.int .i64 0)))),
 (rO 5 (.mv (.tmp 17)))])
 .ret)
 .skip)))
 (.seq (.seq (.reg [(rO 18 (.mv (.tmp 0))),
 (rO 19 (.nilc (.tmp 18))),
 (rO 20 (.fa 2 (.tmp 19))),
 (rO 21 (.ld none (.tmp 20))),
 (rO 22 (.bin .geq (.tmp 21) (.const (.int .i64 1099511627776))))])
 (.cond (.tmp 22) (.seq (.reg [(rO 4 (.mv (.const (.int .i64 0)))),
 (rO 5 (.mv (.const (.int .i64 2))))])
 .ret)
 .skip))
 (.seq (.reg [(rO 23 (.mv (.tmp 0))),
 (rO 24 (.nilc (.tmp 23))),
 (rO 25 (.fa 2 (.tmp 24))),
 (rO 26 (.ld none (.tmp 25))),
 (rO 27 (.bin .add (.tmp 26) (.const (.int .i64 1)))),
 (rO 28 (.nilc (.tmp 23))),
 (rO 29 (.fa 2 (.tmp 28))),
 ⟨none, (.st 1 (.tmp 29) (.tmp 27)), none⟩])
 (.seq (.seq (.reg [(rO 30 (.mv (.tmp 1))),
 (rO 31 (.len true (.tmp 30))),
 (rO 32 (.mv (.const (.int .i64 0))))])
 (.block 0 (.loop (.seq (.reg [(rO 33 (.bin .lss (.tmp 32) (.tmp 31)))])
 (.seq (.cond (.tmp 33) .skip
 (.exit 0))
 (.seq (.block 1 (.seq (.reg [(rO 34 (.ia 3 (.tmp 30) (.tmp 32))),
 (rO 35 (.ld (some 3) (.tmp 34))),
 (rO 8 (.new 52 [.string ⟨#[]⟩, .bool false, .string ⟨#[]⟩])),
 ⟨none, (.st 3 (.tmp 8) (.tmp 35)), none⟩])
 (.seq (.draw [⟨(rO 36 (.mv (.tmp 0))), .p⟩,
 ⟨(rO 37 (.nilc (.tmp 36))), .p⟩,
 ⟨(rO 38 (.fa 0 (.tmp 37))), .p⟩,
 ⟨(rO 39 (.ld none (.tmp 38))), .l⟩,
 ⟨(rO 40 (.fa 0 (.tmp 8))), .p⟩,
 ⟨(rO 41 (.ld none (.tmp 40))), .l⟩,
 ⟨(rO 42 (.look false (.agg #[.slice none 0 0, .bool false]) (.tmp 39) (.tmp 41))), .l⟩,
 ⟨(rO 9 (.new 159 [.slice none 0 0, .bool false])), .f⟩,
 ⟨⟨none, (.st 2 (.tmp 9) (.tmp 42)), none⟩, .m⟩])
 (.seq (.draw [⟨(rO 43 (.fa 0 (.tmp 9))), .p⟩,
 ⟨(rO 44 (.ld none (.tmp 43))), .l⟩,
 ⟨(rO 45 (.call 97 [(.tmp 44)])), .g⟩,
 ⟨(rO 46 (.mv (.tmp 0))), .p⟩,
 ⟨(rO 47 (.nilc (.tmp 46))), .p⟩,
 ⟨(rO 48 (.fa 2 (.tmp 47))), .p⟩,
 ⟨(rO 49 (.ld none (.tmp 48))), .l⟩,
 ⟨(rO 50 (.fa 1 (.tmp 8))), .p⟩,
 ⟨(rO 51 (.ld (some 2) (.tmp 50))), .l⟩,
 ⟨(rO 52 (.bld [.int .i64 (0), .bool false, .string ⟨#[]⟩] [(0, 1, (.tmp 49)), (1, 2, (.tmp 51))])), .p⟩,
 ⟨(rO 53 (.lit 162 1 3 [.int .i64 (0), .bool false, .string ⟨#[]⟩] [(0, 3, (.tmp 52))])), .f⟩,
 ⟨(rO 54 (.app 162 3 32 (.tmp 45) (.tmp 53))), .m⟩,
 ⟨(rO 10 (.mv (.tmp 54))), .p⟩])
 (.seq (.seq (.reg [(rO 55 (.mv (.tmp 10))),
 (rO 56 (.len true (.tmp 55))),
 (rO 57 (.mv (.tmp 0))),
 (rO 58 (.nilc (.tmp 57))),
 (rO 59 (.fa 1 (.tmp 58))),
 (rO 60 (.ld none (.tmp 59))),
 (rO 61 (.bin .gtr (.tmp 56) (.tmp 60)))])
 (.cond (.tmp 61) (.reg [(rO 62 (.mv (.tmp 10))),
 (rO 63 (.mv (.tmp 10))),
 (rO 64 (.len true (.tmp 63))),
 (rO 65 (.mv (.tmp 0))),
 (rO 66 (.nilc (.tmp 65))),
 (rO 67 (.fa 1 (.tmp 66))),
 (rO 68 (.ld none (.tmp 67))),
 (rO 69 (.bin .sub (.tmp 64) (.tmp 68))),
 (rO 70 (.fnl (.sll 3) [(.tmp 62), (.tmp 69)])),
 (rO 10 (.mv (.tmp 70))),
 (rO 71 (.fa 1 (.tmp 9))),
 ⟨none, (.st 1 (.tmp 71) (.const (.bool true))), none⟩])
 .skip))
 (.draw [⟨(rO 72 (.mv (.tmp 0))), .p⟩,
 ⟨(rO 73 (.nilc (.tmp 72))), .p⟩,
 ⟨(rO 74 (.fa 0 (.tmp 73))), .p⟩,
 ⟨(rO 75 (.ld none (.tmp 74))), .l⟩,
 ⟨(rO 76 (.fa 0 (.tmp 8))), .p⟩,
 ⟨(rO 77 (.ld none (.tmp 76))), .l⟩,
 ⟨(rO 78 (.mv (.tmp 10))), .p⟩,
 ⟨(rO 79 (.fa 1 (.tmp 9))), .p⟩,
 ⟨(rO 80 (.ld none (.tmp 79))), .l⟩,
 ⟨(rO 81 (.bld [.slice none 0 0, .bool false] [(0, 1, (.tmp 78)), (1, 1, (.tmp 80))])), .p⟩,
 ⟨⟨none, (.mset (.tmp 75) (.tmp 77) (.tmp 81)), none⟩, .m⟩]))))))
 (.reg [(rO 82 (.bin .add (.tmp 32) (.const (.int .i64 1)))),
 (rO 32 (.mv (.tmp 82)))])))))))
 (.seq (.reg [(rO 83 (.mv (.tmp 0))),
 (rO 84 (.nilc (.tmp 83))),
 (rO 85 (.fa 2 (.tmp 84))),
 (rO 86 (.ld none (.tmp 85))),
 (rO 4 (.mv (.tmp 86))),
 (rO 5 (.mv (.const (.int .i64 0))))])
 .ret)))))))
def r74 : List RV := [.tmp 4, .tmp 5]
theorem ok74 : FnOk Tryz.prog 74 87 c74 r74 := ⟨[40, 45], _, _, Tryz.func74, rfl, rfl, by kernel_rfl, by kernel_rfl, by kernel_rfl⟩
/-- (*vouch/session.Session).message -/
def c75 : C := (.seq (.reg [(rO 2 (.new 39 [.int .i64 (0), .int .i64 (0), .int .i64 (0), .int .i64 (0), .int .i64 (0), .int .i64 (0), .string ⟨#[]⟩, .int .i64 (0), .int .i64 (0), .bool false, .string ⟨#[]⟩, .bool false, .int .i64 (0), .int .i64 (0), .slice none 0 0, .slice none 0 0]))])
 (.seq (.draw [⟨(rO 3 (.mv (.tmp 0))), .p⟩,
 ⟨(rO 4 (.nilc (.tmp 3))), .p⟩,
 ⟨(rO 5 (.fa 0 (.tmp 4))), .p⟩,
 ⟨(rO 6 (.ld none (.tmp 5))), .l⟩,
 ⟨(rO 7 (.mv (.tmp 0))), .p⟩,
 ⟨(rO 8 (.nilc (.tmp 7))), .p⟩,
 ⟨(rO 9 (.fa 1 (.tmp 8))), .p⟩,
 ⟨(rO 10 (.fa 2 (.tmp 9))), .p⟩,
 ⟨(rO 11 (.ld none (.tmp 10))), .l⟩,
 ⟨(rO 12 (.mv (.tmp 0))), .p⟩,
 ⟨(rO 13 (.nilc (.tmp 12))), .p⟩,
 ⟨(rO 14 (.fa 7 (.tmp 13))), .p⟩,
 ⟨(rO 15 (.ld none (.tmp 14))), .l⟩,
 ⟨(rO 16 (.call 72 [(.tmp 15)])), .g⟩,
 ⟨(rO 17 (.bld [.int .i64 (0), .int .i64 (0), .int .i64 (0), .int .i64 (0), .int .i64 (0), .int .i64 (0), .string ⟨#[]⟩, .int .i64 (0), .int .i64 (0), .bool false, .string ⟨#[]⟩, .bool false, .int .i64 (0), .int .i64 (0), .slice none 0 0, .slice none 0 0] [(0, 1, (.const (.int .i64 1))), (3, 1, (.tmp 6)), (5, 1, (.tmp 11)), (14, 1, (.tmp 16))])), .p⟩,
 ⟨⟨none, (.st 16 (.tmp 2) (.tmp 17)), none⟩, .m⟩])
 .ret))
def r75 : List RV := [.agg 2 16]
theorem ok75 : FnOk Tryz.prog 75 18 c75 r75 := ⟨[40, 45], _, _, Tryz.func75, rfl, rfl, by kernel_rfl, by kernel_rfl, by kernel_rfl⟩
/-- (*vouch/session.Session).end -/
def c76 : C := (.reg [(rO 4 (.mv (.tmp 0))),
 (rO 5 (.mv (.tmp 0))),
 (rO 6 (.mv (.tmp 0))),
 (rO 7 (.mv (.tmp 0))),
 (rO 8 (.mv (.tmp 1))),
 (rO 9 (.nilc (.tmp 4))),
 (rO 10 (.fa 1 (.tmp 9))),
 (rO 11 (.fa 1 (.tmp 10))),
 ⟨none, (.st 1 (.tmp 11) (.const (.bool false))), none⟩,
 (rO 12 (.nilc (.tmp 5))),
 (rO 13 (.fa 1 (.tmp 12))),
 (rO 14 (.fa 3 (.tmp 13))),
 ⟨none, (.st 1 (.tmp 14) (.const (.int .i64 0))), none⟩,
 (rO 15 (.nilc (.tmp 6))),
 (rO 16 (.fa 1 (.tmp 15))),
 (rO 17 (.fa 5 (.tmp 16))),
 ⟨none, (.st 1 (.tmp 17) (.tmp 8)), none⟩,
 (rO 18 (.nilc (.tmp 7))),
 (rO 19 (.fa 7 (.tmp 18))),
 ⟨none, (.st 1 (.tmp 19) (.const (.slice none 0 0))), none⟩])
def r76 : List RV := []
theorem ok76 : FnOk Tryz.prog 76 20 c76 r76 := ⟨[40, 45], _, _, Tryz.func76, rfl, rfl, by kernel_rfl, by kernel_rfl, by kernel_rfl⟩
/-- vouch/session.Parse -/
def c82 : C := (.seq (.reg [(rO 2 (.mv (.const (.int .i64 0)))),
 (rO 3 (.mv (.const (.int .i64 0))))])
 (.seq (.seq (.reg [(rO 8 (.mv (.tmp 0))),
 (rO 9 (.len false (.tmp 8))),
 (rO 10 (.bin .lss (.tmp 9) (.const (.int .i64 4))))])
 (.cond (.tmp 10) (.seq (.reg [(rO 2 (.mv (.const (.int .i64 0)))),
 (rO 3 (.mv (.const (.int .i64 30))))])
 .ret)
 .skip))
 (.seq (.reg [(rO 12 (.mv (.tmp 0))),
 (rO 13 (.mv (.tmp 0))),
 (rO 14 (.len false (.tmp 13))),
 (rO 15 (.bin .sub (.tmp 14) (.const (.int .i64 2)))),
 (rO 16 (.fnl .sls [(.tmp 12), (.const (.int .i64 1)), (.tmp 15)])),
 (rO 17 (.call 101 [(.tmp 16), (.const (.int .i64 10)), (.const (.int .i64 64))])),
 (rO 11 (.mv (.tmp 17))),
 (rO 18 (.ext 0 (.tmp 11))),
 (rO 19 (.ext 1 (.tmp 11))),
 (rO 4 (.mv (.tmp 18))),
 (rO 5 (.mv (.tmp 19)))])
 (.seq (.seq (.reg [(rO 21 (.mv (.tmp 4))),
 (rO 22 (.call 43 [(.tmp 21)])),
 (rO 20 (.mv (.tmp 22))),
 (rO 23 (.ext 0 (.tmp 20))),
 (rO 24 (.ext 1 (.tmp 20))),
 (rO 6 (.mv (.tmp 23))),
 (rO 7 (.mv (.tmp 24)))])
 (.seq (.reg [(rO 25 (.mv (.tmp 5))),
 (rO 26 (.fnl (.ifn true) [(.tmp 25)])),
 (rO 27 (.mv (.tmp 26))),
 ⟨(some 28), (.mv (.tmp 7)), (some (27, false))⟩,
 ⟨(some 29), (.bin .neq (.tmp 28) (.const (.int .i64 0))), (some (27, false))⟩,
 (rO 30 (.pick (.tmp 27) (.const (.bool true)) (.tmp 29))),
 (rO 31 (.mv (.tmp 30))),
 ⟨(some 32), (.mv (.tmp 6)), (some (31, false))⟩,
 ⟨(some 33), (.mv (.tmp 0)), (some (31, false))⟩,
 ⟨(some 34), (.bin .neq (.tmp 32) (.tmp 33)), (some (31, false))⟩,
 (rO 35 (.pick (.tmp 31) (.const (.bool true)) (.tmp 34)))])
 (.cond (.tmp 35) (.seq (.reg [(rO 2 (.mv (.const (.int .i64 0)))),
 (rO 3 (.mv (.const (.int .i64 30))))])
 .ret)
 .skip)))
 (.seq (.reg [(rO 36 (.mv (.tmp 4))),
 (rO 2 (.mv (.tmp 36))),
 (rO 3 (.mv (.const (.int .i64 0))))])
 .ret)))))
def r82 : List RV := [.tmp 2, .tmp 3]
theorem ok82 : FnOk Tryz.prog 82 37 c82 r82 := ⟨[40, 45], _, _, Tryz.func82, rfl, rfl, by kernel_rfl, by kernel_rfl, by kernel_rfl⟩
/-- vouch/vouchref05.GoodKey -/
def c83 : C := (.seq (.reg [(rO 2 (.mv (.const (.bool false))))])
 (.seq (.reg [(rO 3 (.mv (.tmp 0))),
 (rO 4 (.bin .neq (.tmp 3) (.const (.string { data := #[] })))),
 (rO 5 (.mv (.tmp 4))),
 ⟨(some 6), (.mv (.tmp 0)), (some (5, true))⟩,
 ⟨(some 7), (.len false (.tmp 6)), (some (5, true))⟩,
 ⟨(some 8), (.bin .leq (.tmp 7) (.const (.int .i64 32))), (some (5, true))⟩,
 (rO 9 (.pick (.tmp 5) (.tmp 8) (.const (.bool false)))),
 (rO 2 (.mv (.tmp 9)))])
 .ret))
def r83 : List RV := [.tmp 2]
theorem ok83 : FnOk Tryz.prog 83 10 c83 r83 := ⟨[40, 45], _, _, Tryz.func83, rfl, rfl, by kernel_rfl, by kernel_rfl, by kernel_rfl⟩
/-- (*vouch/vouchref16.Session).Send -/
def c89 : C := (.seq (.reg [(rO 4 (.new 39 [.int .i64 (0), .int .i64 (0), .int .i64 (0), .int .i64 (0), .int .i64 (0), .int .i64 (0), .string ⟨#[]⟩, .int .i64 (0), .int .i64 (0), .bool false, .string ⟨#[]⟩, .bool false, .int .i64 (0), .int .i64 (0), .slice none 0 0, .slice none 0 0])),
 (rO 5 (.mv (.const (.int .i64 0))))])
 (.seq (.seq (.reg [(rO 7 (.mv (.tmp 0))),
 (rO 8 (.nilc (.tmp 7))),
 (rO 9 (.fa 1 (.tmp 8))),
 (rO 10 (.fa 1 (.tmp 9))),
 (rO 11 (.ld none (.tmp 10)))])
 (.cond (.tmp 11) (.seq (.reg [(rO 12 (.bld [.int .i64 (0), .int .i64 (0), .int .i64 (0), .int .i64 (0), .int .i64 (0), .int .i64 (0), .string ⟨#[]⟩, .int .i64 (0), .int .i64 (0), .bool false, .string ⟨#[]⟩, .bool false, .int .i64 (0), .int .i64 (0), .slice none 0 0, .slice none 0 0] [])),
 ⟨none, (.st 16 (.tmp 4) (.tmp 12)), none⟩,
 (rO 5 (.mv (.const (.int .i64 31))))])
 .ret)
 .skip))
 (.seq (.reg [(rO 13 (.mv (.tmp 1))),
 (rO 14 (.call 106 [(.tmp 13)])),
 (rO 6 (.mv (.tmp 14)))])
 (.seq (.seq (.reg [(rO 15 (.mv (.tmp 6))),
 (rO 16 (.bin .neq (.tmp 15) (.const (.int .i64 0))))])
 (.cond (.tmp 16) (.seq (.reg [(rO 17 (.bld [.int .i64 (0), .int .i64 (0), .int .i64 (0), .int .i64 (0), .int .i64 (0), .int .i64 (0), .string ⟨#[]⟩, .int .i64 (0), .int .i64 (0), .bool false, .string ⟨#[]⟩, .bool false, .int .i64 (0), .int .i64 (0), .slice none 0 0, .slice none 0 0] [])),
 (rO 18 (.mv (.tmp 6))),
 ⟨none, (.st 16 (.tmp 4) (.tmp 17)), none⟩,
 (rO 5 (.mv (.tmp 18)))])
 .ret)
 .skip))
 (.seq (.reg [(rO 19 (.mv (.tmp 0))),
 (rO 20 (.nilc (.tmp 19))),
 (rO 21 (.fa 1 (.tmp 20))),
 (rO 22 (.fa 2 (.tmp 21))),
 (rO 23 (.ld none (.tmp 22))),
 (rO 24 (.bin .add (.tmp 23) (.const (.int .i64 1)))),
 (rO 25 (.nilc (.tmp 19))),
 (rO 26 (.fa 1 (.tmp 25))),
 (rO 27 (.fa 2 (.tmp 26))),
 ⟨none, (.st 1 (.tmp 27) (.tmp 24)), none⟩])
 (.seq (.reg [(rO 28 (.mv (.tmp 0))),
 (rO 29 (.nilc (.tmp 28))),
 (rO 30 (.fa 1 (.tmp 29))),
 (rO 31 (.fa 1 (.tmp 30))),
 ⟨none, (.st 1 (.tmp 31) (.const (.bool true))), none⟩])
 (.seq (.reg [(rO 32 (.mv (.tmp 0))),
 (rO 33 (.nilc (.tmp 32))),
 (rO 34 (.fa 1 (.tmp 33))),
 (rO 35 (.fa 3 (.tmp 34))),
 ⟨none, (.st 1 (.tmp 35) (.const (.int .i64 0))), none⟩])
 (.seq (.reg [(rO 36 (.mv (.tmp 0))),
 (rO 37 (.lit 52 0 3 [] [])),
 (rO 38 (.mv (.tmp 1))),
 (rO 39 (.app 52 3 40 (.tmp 37) (.tmp 38))),
 (rO 40 (.nilc (.tmp 36))),
 (rO 41 (.fa 7 (.tmp 40))),
 ⟨none, (.st 1 (.tmp 41) (.tmp 39)), none⟩])
 (.seq (.reg [(rO 42 (.mv (.tmp 0))),
 (rO 43 (.call 107 [(.tmp 42)])),
 ⟨none, (.st 16 (.tmp 4) (.tmp 43)), none⟩,
 (rO 5 (.mv (.const (.int .i64 0))))])
 .ret)))))))))
def r89 : List RV := [.agg 4 16, .tmp 5]
theorem ok89 : FnOk Tryz.prog 89 44 c89 r89 := ⟨[40, 45], _, _, Tryz.func89, rfl, rfl, by kernel_rfl, by kernel_rfl, by kernel_rfl⟩
/-- (*vouch/session.Session).Again -/
def c90 : C := (.seq (.reg [(rO 4 (.new 39 [.int .i64 (0), .int .i64 (0), .int .i64 (0), .int .i64 (0), .int .i64 (0), .int .i64 (0), .string ⟨#[]⟩, .int .i64 (0), .int .i64 (0), .bool false, .string ⟨#[]⟩, .bool false, .int .i64 (0), .int .i64 (0), .slice none 0 0, .slice none 0 0])),
 (rO 5 (.mv (.const (.int .i64 0))))])
 (.seq (.block 0 (.seq (.reg [(rO 7 (.mv (.tmp 0))),
 (rO 8 (.eqs false .ptr (.tmp 7) (.const (.pointer none)))),
 (rO 9 (.mv (.tmp 8))),
 ⟨(some 10), (.mv (.tmp 0)), (some (9, false))⟩,
 ⟨(some 11), (.nilc (.tmp 10)), (some (9, false))⟩,
 ⟨(some 12), (.fa 1 (.tmp 11)), (some (9, false))⟩,
 ⟨(some 13), (.fa 1 (.tmp 12)), (some (9, false))⟩,
 ⟨(some 14), (.ld none (.tmp 13)), (some (9, false))⟩,
 ⟨(some 15), (.nt (.tmp 14)), (some (9, false))⟩,
 (rO 16 (.pick (.tmp 9) (.const (.bool true)) (.tmp 15))),
 (rO 6 (.mv (.tmp 16)))])
 (.cond (.tmp 6) (.seq (.reg [(rO 17 (.bld [.int .i64 (0), .int .i64 (0), .int .i64 (0), .int .i64 (0), .int .i64 (0), .int .i64 (0), .string ⟨#[]⟩, .int .i64 (0), .int .i64 (0), .bool false, .string ⟨#[]⟩, .bool false, .int .i64 (0), .int .i64 (0), .slice none 0 0, .slice none 0 0] [])),
 ⟨none, (.st 16 (.tmp 4) (.tmp 17)), none⟩,
 (rO 5 (.mv (.const (.int .i64 3))))])
 .ret)
 (.seq (.reg [(rO 19 (.mv (.tmp 0))),
 (rO 20 (.nilc (.tmp 19))),
 (rO 21 (.fa 1 (.tmp 20))),
 (rO 22 (.fa 3 (.tmp 21))),
 (rO 23 (.ld none (.tmp 22))),
 (rO 24 (.mv (.tmp 1))),
 (rO 25 (.bin .geq (.tmp 23) (.tmp 24))),
 (rO 18 (.mv (.tmp 25)))])
 (.cond (.tmp 18) (.seq (.reg [(rO 26 (.mv (.tmp 0))),
 (rO 27 (.call 76 [(.tmp 26), (.const (.int .i64 41))]))])
 (.seq (.reg [(rO 28 (.bld [.int .i64 (0), .int .i64 (0), .int .i64 (0), .int .i64 (0), .int .i64 (0), .int .i64 (0), .string ⟨#[]⟩, .int .i64 (0), .int .i64 (0), .bool false, .string ⟨#[]⟩, .bool false, .int .i64 (0), .int .i64 (0), .slice none 0 0, .slice none 0 0] [])),
 ⟨none, (.st 16 (.tmp 4) (.tmp 28)), none⟩,
 (rO 5 (.mv (.const (.int .i64 41))))])
 .ret))
 .skip)))))
 (.seq (.reg [(rO 29 (.mv (.tmp 0))),
 (rO 30 (.nilc (.tmp 29))),
 (rO 31 (.fa 1 (.tmp 30))),
 (rO 32 (.fa 3 (.tmp 31))),
 (rO 33 (.ld none (.tmp 32))),
 (rO 34 (.bin .add (.tmp 33) (.const (.int .i64 1)))),
 (rO 35 (.nilc (.tmp 29))),
 (rO 36 (.fa 1 (.tmp 35))),
 (rO 37 (.fa 3 (.tmp 36))),
 ⟨none, (.st 1 (.tmp 37) (.tmp 34)), none⟩])
 (.seq (.reg [(rO 38 (.mv (.tmp 0))),
 (rO 39 (.call 75 [(.tmp 38)])),
 ⟨none, (.st 16 (.tmp 4) (.tmp 39)), none⟩,
 (rO 5 (.mv (.const (.int .i64 0))))])
 .ret))))
def r90 : List RV := [.agg 4 16, .tmp 5]
theorem ok90 : FnOk Tryz.prog 90 40 c90 r90 := ⟨[40, 45], _, _, Tryz.func90, rfl, rfl, by kernel_rfl, by kernel_rfl, by kernel_rfl⟩
/-- (*vouch/vouchref16.Session).Again -/
def c91 : C := (.seq (.reg [(rO 4 (.new 39 [.int .i64 (0), .int .i64 (0), .int .i64 (0), .int .i64 (0), .int .i64 (0), .int .i64 (0), .string ⟨#[]⟩, .int .i64 (0), .int .i64 (0), .bool false, .string ⟨#[]⟩, .bool false, .int .i64 (0), .int .i64 (0), .slice none 0 0, .slice none 0 0])),
 (rO 5 (.mv (.const (.int .i64 0))))])
 (.seq (.seq (.reg [(rO 6 (.mv (.tmp 0))),
 (rO 7 (.nilc (.tmp 6))),
 (rO 8 (.fa 1 (.tmp 7))),
 (rO 9 (.fa 1 (.tmp 8))),
 (rO 10 (.ld none (.tmp 9))),
 (rO 11 (.nt (.tmp 10)))])
 (.cond (.tmp 11) (.seq (.reg [(rO 12 (.bld [.int .i64 (0), .int .i64 (0), .int .i64 (0), .int .i64 (0), .int .i64 (0), .int .i64 (0), .string ⟨#[]⟩, .int .i64 (0), .int .i64 (0), .bool false, .string ⟨#[]⟩, .bool false, .int .i64 (0), .int .i64 (0), .slice none 0 0, .slice none 0 0] [])),
 ⟨none, (.st 16 (.tmp 4) (.tmp 12)), none⟩,
 (rO 5 (.mv (.const (.int .i64 3))))])
 .ret)
 .skip))
 (.seq (.seq (.reg [(rO 13 (.mv (.tmp 0))),
 (rO 14 (.nilc (.tmp 13))),
 (rO 15 (.fa 1 (.tmp 14))),
 (rO 16 (.fa 3 (.tmp 15))),
 (rO 17 (.ld none (.tmp 16))),
 (rO 18 (.mv (.tmp 1))),
 (rO 19 (.bin .geq (.tmp 17) (.tmp 18)))])
 (.cond (.tmp 19) (.seq (.reg [(rO 20 (.mv (.tmp 0))),
 (rO 21 (.nilc (.tmp 20))),
 (rO 22 (.fa 1 (.tmp 21))),
 (rO 23 (.fa 1 (.tmp 22))),
 ⟨none, (.st 1 (.tmp 23) (.const (.bool false))), none⟩])
 (.seq (.reg [(rO 24 (.mv (.tmp 0))),
 (rO 25 (.nilc (.tmp 24))),
 (rO 26 (.fa 1 (.tmp 25))),
 (rO 27 (.fa 3 (.tmp 26))),
 ⟨none, (.st 1 (.tmp 27) (.const (.int .i64 0))), none⟩])
 (.seq (.reg [(rO 28 (.mv (.tmp 0))),
 (rO 29 (.nilc (.tmp 28))),
 (rO 30 (.fa 1 (.tmp 29))),
 (rO 31 (.fa 5 (.tmp 30))),
 ⟨none, (.st 1 (.tmp 31) (.const (.int .i64 41))), none⟩])
 (.seq (.reg [(rO 32 (.bld [.int .i64 (0), .int .i64 (0), .int .i64 (0), .int .i64 (0), .int .i64 (0), .int .i64 (0), .string ⟨#[]⟩, .int .i64 (0), .int .i64 (0), .bool false, .string ⟨#[]⟩, .bool false, .int .i64 (0), .int .i64 (0), .slice none 0 0, .slice none 0 0] [])),
 ⟨none, (.st 16 (.tmp 4) (.tmp 32)), none⟩,
 (rO 5 (.mv (.const (.int .i64 41))))])
 .ret))))
 .skip))
 (.seq (.reg [(rO 33 (.mv (.tmp 0))),
 (rO 34 (.nilc (.tmp 33))),
 (rO 35 (.fa 1 (.tmp 34))),
 (rO 36 (.fa 3 (.tmp 35))),
 (rO 37 (.ld none (.tmp 36))),
 (rO 38 (.bin .add (.tmp 37) (.const (.int .i64 1)))),
 (rO 39 (.nilc (.tmp 33))),
 (rO 40 (.fa 1 (.tmp 39))),
 (rO 41 (.fa 3 (.tmp 40))),
 ⟨none, (.st 1 (.tmp 41) (.tmp 38)), none⟩])
 (.seq (.reg [(rO 42 (.mv (.tmp 0))),
 (rO 43 (.call 107 [(.tmp 42)])),
 ⟨none, (.st 16 (.tmp 4) (.tmp 43)), none⟩,
 (rO 5 (.mv (.const (.int .i64 0))))])
 .ret)))))
def r91 : List RV := [.agg 4 16, .tmp 5]
theorem ok91 : FnOk Tryz.prog 91 44 c91 r91 := ⟨[40, 45], _, _, Tryz.func91, rfl, rfl, by kernel_rfl, by kernel_rfl, by kernel_rfl⟩
/-- vouch/vouchref16.Token -/
def c92 : C := (.seq (.reg [(rO 2 (.mv (.const (.string { data := #[] })))),
 (rO 3 (.mv (.const (.int .i64 0))))])
 (.seq (.seq (.reg [(rO 4 (.mv (.tmp 0))),
 (rO 5 (.bin .lss (.tmp 4) (.const (.int .i64 0)))),
 (rO 6 (.mv (.tmp 5))),
 ⟨(some 7), (.mv (.tmp 0)), (some (6, false))⟩,
 ⟨(some 8), (.bin .gtr (.tmp 7) (.const (.int .i64 1099511627776))), (some (6, false))⟩,
 (rO 9 (.pick (.tmp 6) (.const (.bool true)) (.tmp 8)))])
 (.cond (.tmp 9) (.seq (.reg [(rO 2 (.mv (.const (.string { data := #[] })))),
 (rO 3 (.mv (.const (.int .i64 1))))])
 .ret)
 .skip))
 (.seq (.draw [⟨(rO 10 (.mv (.tmp 0))), .p⟩,
 ⟨(rO 11 (.call 108 [(.tmp 10)])), .g⟩,
 ⟨(rO 12 (.bin .add (.const (.string { data := #[116] })) (.tmp 11))), .p⟩,
 ⟨(rO 13 (.bin .add (.tmp 12) (.const (.string { data := #[46] })))), .p⟩,
 ⟨(rO 14 (.mv (.tmp 0))), .p⟩,
 ⟨(rO 15 (.bin .mul (.tmp 14) (.const (.int .i64 7)))), .p⟩,
 ⟨(rO 16 (.bin .add (.tmp 15) (.const (.int .i64 3)))), .p⟩,
 ⟨(rO 17 (.bin .rem (.tmp 16) (.const (.int .i64 26)))), .p⟩,
 ⟨(rO 18 (.bin .add (.const (.int .i64 97)) (.tmp 17))), .p⟩,
 ⟨(rO 19 (.conv .u8 (.tmp 18))), .p⟩,
 ⟨(rO 20 (.lit 5 1 1 [.int .u8 (0)] [(0, 1, (.tmp 19))])), .f⟩,
 ⟨(rO 21 (.bys (.tmp 20))), .r⟩,
 ⟨(rO 22 (.bin .add (.tmp 13) (.tmp 21))), .p⟩,
 ⟨(rO 2 (.mv (.tmp 22))), .p⟩,
 ⟨(rO 3 (.mv (.const (.int .i64 0)))), .p⟩])
 .ret)))
def r92 : List RV := [.tmp 2, .tmp 3]
theorem ok92 : FnOk Tryz.prog 92 23 c92 r92 := ⟨[40, 45], _, _, Tryz.func92, rfl, rfl, by kernel_rfl, by kernel_rfl, by kernel_rfl⟩
/-- (*vouch/vouchref16.Session).Join -/
def c93 : C := (.seq (.reg [(rO 4 (.mv (.const (.int .i64 0))))])
 (.seq (.reg [(rO 8 (.mv (.tmp 1))),
 (rO 9 (.call 109 [(.tmp 8)])),
 (rO 7 (.mv (.tmp 9))),
 (rO 10 (.ext 0 (.tmp 7))),
 (rO 11 (.ext 1 (.tmp 7))),
 (rO 5 (.mv (.tmp 10))),
 (rO 6 (.mv (.tmp 11)))])
 (.seq (.seq (.reg [(rO 12 (.mv (.tmp 6))),
 (rO 13 (.bin .eql (.tmp 12) (.const (.int .i64 0))))])
 (.cond (.tmp 13) (.reg [(rO 14 (.mv (.tmp 0))),
 (rO 15 (.mv (.tmp 5))),
 (rO 16 (.call 59 [(.tmp 14), (.tmp 15)]))])
 .skip))
 (.seq (.reg [(rO 17 (.mv (.tmp 6))),
 (rO 4 (.mv (.tmp 17)))])
 .ret))))
def r93 : List RV := [.tmp 4]
theorem ok93 : FnOk Tryz.prog 93 18 c93 r93 := ⟨[40, 45], _, _, Tryz.func93, rfl, rfl, by kernel_rfl, by kernel_rfl, by kernel_rfl⟩
/-- vouch/store.check -/
def c96 : C := (.seq (.reg [(rO 2 (.mv (.const (.int .i64 0))))])
 (.seq (.seq (.reg [(rO 9 (.mv (.tmp 0))),
 (rO 10 (.len true (.tmp 9))),
 (rO 11 (.bin .eql (.tmp 10) (.const (.int .i64 0)))),
 (rO 12 (.mv (.tmp 11))),
 ⟨(some 13), (.mv (.tmp 0)), (some (12, false))⟩,
 ⟨(some 14), (.len true (.tmp 13)), (some (12, false))⟩,
 ⟨(some 15), (.bin .gtr (.tmp 14) (.const (.int .i64 8))), (some (12, false))⟩,
 (rO 16 (.pick (.tmp 12) (.const (.bool true)) (.tmp 15)))])
 (.cond (.tmp 16) (.seq (.reg [(rO 2 (.mv (.const (.int .i64 1))))])
 .ret)
 .skip))
 (.seq (.reg [(rO 17 .mkmap),
 (rO 3 (.mv (.tmp 17)))])
 (.seq (.reg [(rO 4 (.mv (.const (.bool false))))])
 (.seq (.seq (.reg [(rO 18 (.mv (.tmp 0))),
 (rO 19 (.len true (.tmp 18))),
 (rO 20 (.mv (.const (.int .i64 0))))])
 (.block 0 (.loop (.seq (.reg [(rO 21 (.bin .lss (.tmp 20) (.tmp 19)))])
 (.seq (.cond (.tmp 21) .skip
 (.exit 0))
 (.seq (.block 1 (.seq (.reg [(rO 22 (.mv (.tmp 20))),
 (rO 23 (.ia 3 (.tmp 18) (.tmp 20))),
 (rO 24 (.ld (some 3) (.tmp 23))),
 (rO 6 (.new 52 [.string ⟨#[]⟩, .bool false, .string ⟨#[]⟩])),
 (rO 5 (.mv (.tmp 22))),
 ⟨none, (.st 3 (.tmp 6) (.tmp 24)), none⟩])
 (.seq (.seq (.reg [(rO 25 (.ld (some 3) (.tmp 6))),
 (rO 26 (.call 111 [(.tmp 25)])),
 (rO 27 (.nt (.tmp 26)))])
 (.cond (.tmp 27) (.seq (.reg [(rO 2 (.mv (.const (.int .i64 1))))])
 .ret)
 .skip))
 (.seq (.reg [(rO 29 (.mv (.tmp 3))),
 (rO 30 (.fa 0 (.tmp 6))),
 (rO 31 (.ld none (.tmp 30))),
 (rO 32 (.look true (.int .i64 (0)) (.tmp 29) (.tmp 31))),
 (rO 28 (.mv (.tmp 32))),
 (rO 33 (.ext 0 (.tmp 28))),
 (rO 34 (.ext 1 (.tmp 28))),
 (rO 7 (.mv (.tmp 33))),
 (rO 8 (.mv (.tmp 34)))])
 (.seq (.reg [(rO 35 (.mv (.tmp 4))),
 (rO 36 (.mv (.tmp 35))),
 ⟨(some 37), (.mv (.tmp 8)), (some (36, false))⟩,
 (rO 38 (.pick (.tmp 36) (.const (.bool true)) (.tmp 37))),
 (rO 4 (.mv (.tmp 38)))])
 (.reg [(rO 39 (.mv (.tmp 3))),
 (rO 40 (.fa 0 (.tmp 6))),
 (rO 41 (.ld none (.tmp 40))),
 (rO 42 (.mv (.tmp 5))),
 ⟨none, (.mset (.tmp 39) (.tmp 41) (.tmp 42)), none⟩]))))))
 (.reg [(rO 43 (.bin .add (.tmp 20) (.const (.int .i64 1)))),
 (rO 20 (.mv (.tmp 43)))])))))))
 (.seq (.seq (.reg [(rO 44 (.mv (.tmp 4)))])
 (.cond (.tmp 44) (.seq (.reg [(rO 2 (.mv (.const (.int .i64 22))))])
 .ret)
 .skip))
 (.seq (.reg [(rO 2 (.mv (.const (.int .i64 0))))])
 .ret)))))))
def r96 : List RV := [.tmp 2]
theorem ok96 : FnOk Tryz.prog 96 45 c96 r96 := ⟨[40, 45], _, _, Tryz.func96, rfl, rfl, by kernel_rfl, by kernel_rfl, by kernel_rfl⟩
/-- slices.Clone[[]vouch/api.Version,vouch/api.Version] -/
def c97 : C := (.seq (.reg [(rO 2 (.mv (.const (.slice none 0 0))))])
 (.seq (.seq (.reg [(rO 3 (.mv (.tmp 0))),
 (rO 4 (.eqs false .slice (.tmp 3) (.const (.slice none 0 0))))])
 (.cond (.tmp 4) (.seq (.reg [(rO 2 (.mv (.const (.slice none 0 0))))])
 .ret)
 .skip))
 (.seq (.reg [(rO 5 (.lit 162 0 3 [] [])),
 (rO 6 (.mv (.tmp 0))),
 (rO 7 (.app 162 3 32 (.tmp 5) (.tmp 6))),
 (rO 2 (.mv (.tmp 7)))])
 .ret)))
def r97 : List RV := [.tmp 2]
theorem ok97 : FnOk Tryz.prog 97 8 c97 r97 := ⟨[40, 45], _, _, Tryz.func97, rfl, rfl, by kernel_rfl, by kernel_rfl, by kernel_rfl⟩
/-- vouch/vouchref05.Check -/
def c106 : C := (.seq (.reg [(rO 2 (.mv (.const (.int .i64 0))))])
 (.seq (.seq (.reg [(rO 6 (.mv (.tmp 0))),
 (rO 7 (.len true (.tmp 6))),
 (rO 8 (.bin .lss (.tmp 7) (.const (.int .i64 1)))),
 (rO 9 (.mv (.tmp 8))),
 ⟨(some 10), (.mv (.tmp 0)), (some (9, false))⟩,
 ⟨(some 11), (.len true (.tmp 10)), (some (9, false))⟩,
 ⟨(some 12), (.bin .gtr (.tmp 11) (.const (.int .i64 8))), (some (9, false))⟩,
 (rO 13 (.pick (.tmp 9) (.const (.bool true)) (.tmp 12)))])
 (.cond (.tmp 13) (.seq (.reg [(rO 2 (.mv (.const (.int .i64 1))))])
 .ret)
 .skip))
 (.seq (.seq (.reg [(rO 3 (.mv (.const (.int .i64 0))))])
 (.block 0 (.loop (.seq (.seq (.reg [(rO 14 (.mv (.tmp 3))),
 (rO 15 (.mv (.tmp 0))),
 (rO 16 (.len true (.tmp 15))),
 (rO 17 (.bin .lss (.tmp 14) (.tmp 16)))])
 (.cond (.tmp 17) .skip
 (.exit 0)))
 (.seq (.block 1 (.seq (.reg [(rO 20 (.mv (.tmp 0))),
 (rO 21 (.mv (.tmp 3))),
 (rO 22 (.ia 3 (.tmp 20) (.tmp 21))),
 (rO 23 (.fa 0 (.tmp 22))),
 (rO 24 (.ld none (.tmp 23))),
 (rO 25 (.call 83 [(.tmp 24)])),
 (rO 26 (.nt (.tmp 25))),
 (rO 27 (.mv (.tmp 26))),
 ⟨(some 28), (.mv (.tmp 0)), (some (27, false))⟩,
 ⟨(some 29), (.mv (.tmp 3)), (some (27, false))⟩,
 ⟨(some 30), (.ia 3 (.tmp 28) (.tmp 29)), (some (27, false))⟩,
 ⟨(some 31), (.fa 1 (.tmp 30)), (some (27, false))⟩,
 ⟨(some 32), (.ld (some 2) (.tmp 31)), (some (27, false))⟩,
 ⟨(some 33), (.call 125 [(.tmp 32)]), (some (27, false))⟩,
 ⟨(some 34), (.nt (.tmp 33)), (some (27, false))⟩,
 (rO 35 (.pick (.tmp 27) (.const (.bool true)) (.tmp 34)))])
 (.cond (.tmp 35) (.seq (.reg [(rO 2 (.mv (.const (.int .i64 1))))])
 .ret)
 .skip)))
 (.reg [(rO 18 (.mv (.tmp 3))),
 (rO 19 (.bin .add (.tmp 18) (.const (.int .i64 1)))),
 (rO 3 (.mv (.tmp 19)))]))))))
 (.seq (.seq (.reg [(rO 4 (.mv (.const (.int .i64 0))))])
 (.block 2 (.loop (.seq (.seq (.reg [(rO 36 (.mv (.tmp 4))),
 (rO 37 (.mv (.tmp 0))),
 (rO 38 (.len true (.tmp 37))),
 (rO 39 (.bin .lss (.tmp 36) (.tmp 38)))])
 (.cond (.tmp 39) .skip
 (.exit 2)))
 (.seq (.block 3 (.seq (.reg [(rO 5 (.mv (.const (.int .i64 0))))])
 (.block 4 (.loop (.seq (.seq (.reg [(rO 42 (.mv (.tmp 5))),
 (rO 43 (.mv (.tmp 4))),
 (rO 44 (.bin .lss (.tmp 42) (.tmp 43)))])
 (.cond (.tmp 44) .skip
 (.exit 4)))
 (.seq (.block 5 (.seq (.draw [⟨(rO 47 (.mv (.tmp 0))), .p⟩,
 ⟨(rO 48 (.mv (.tmp 5))), .p⟩,
 ⟨(rO 49 (.ia 3 (.tmp 47) (.tmp 48))), .p⟩,
 ⟨(rO 50 (.fa 0 (.tmp 49))), .p⟩,
 ⟨(rO 51 (.ld none (.tmp 50))), .l⟩,
 ⟨(rO 52 (.mv (.tmp 0))), .p⟩,
 ⟨(rO 53 (.mv (.tmp 4))), .p⟩,
 ⟨(rO 54 (.ia 3 (.tmp 52) (.tmp 53))), .p⟩,
 ⟨(rO 55 (.fa 0 (.tmp 54))), .p⟩,
 ⟨(rO 56 (.ld none (.tmp 55))), .l⟩,
 ⟨(rO 57 (.bin .eql (.tmp 51) (.tmp 56))), .p⟩])
 (.cond (.tmp 57) (.seq (.reg [(rO 2 (.mv (.const (.int .i64 22))))])
 .ret)
 .skip)))
 (.reg [(rO 45 (.mv (.tmp 5))),
 (rO 46 (.bin .add (.tmp 45) (.const (.int .i64 1)))),
 (rO 5 (.mv (.tmp 46)))])))))))
 (.reg [(rO 40 (.mv (.tmp 4))),
 (rO 41 (.bin .add (.tmp 40) (.const (.int .i64 1)))),
 (rO 4 (.mv (.tmp 41)))]))))))
 (.seq (.reg [(rO 2 (.mv (.const (.int .i64 0))))])
 .ret)))))
def r106 : List RV := [.tmp 2]
theorem ok106 : FnOk Tryz.prog 106 58 c106 r106 := ⟨[40, 45], _, _, Tryz.func106, rfl, rfl, by kernel_rfl, by kernel_rfl, by kernel_rfl⟩
/-- (*vouch/vouchref16.Session).message -/
def c107 : C := (.seq (.reg [(rO 2 (.new 39 [.int .i64 (0), .int .i64 (0), .int .i64 (0), .int .i64 (0), .int .i64 (0), .int .i64 (0), .string ⟨#[]⟩, .int .i64 (0), .int .i64 (0), .bool false, .string ⟨#[]⟩, .bool false, .int .i64 (0), .int .i64 (0), .slice none 0 0, .slice none 0 0]))])
 (.seq (.draw [⟨(rO 3 (.mv (.tmp 0))), .p⟩,
 ⟨(rO 4 (.nilc (.tmp 3))), .p⟩,
 ⟨(rO 5 (.fa 0 (.tmp 4))), .p⟩,
 ⟨(rO 6 (.ld none (.tmp 5))), .l⟩,
 ⟨(rO 7 (.mv (.tmp 0))), .p⟩,
 ⟨(rO 8 (.nilc (.tmp 7))), .p⟩,
 ⟨(rO 9 (.fa 1 (.tmp 8))), .p⟩,
 ⟨(rO 10 (.fa 2 (.tmp 9))), .p⟩,
 ⟨(rO 11 (.ld none (.tmp 10))), .l⟩,
 ⟨(rO 12 (.lit 52 0 3 [] [])), .f⟩,
 ⟨(rO 13 (.mv (.tmp 0))), .p⟩,
 ⟨(rO 14 (.nilc (.tmp 13))), .p⟩,
 ⟨(rO 15 (.fa 7 (.tmp 14))), .p⟩,
 ⟨(rO 16 (.ld none (.tmp 15))), .l⟩,
 ⟨(rO 17 (.app 52 3 40 (.tmp 12) (.tmp 16))), .w⟩,
 ⟨(rO 18 (.bld [.int .i64 (0), .int .i64 (0), .int .i64 (0), .int .i64 (0), .int .i64 (0), .int .i64 (0), .string ⟨#[]⟩, .int .i64 (0), .int .i64 (0), .bool false, .string ⟨#[]⟩, .bool false, .int .i64 (0), .int .i64 (0), .slice none 0 0, .slice none 0 0] [(0, 1, (.const (.int .i64 1))), (3, 1, (.tmp 6)), (5, 1, (.tmp 11)), (14, 1, (.tmp 17))])), .p⟩,
 ⟨⟨none, (.st 16 (.tmp 2) (.tmp 18)), none⟩, .m⟩])
 .ret))
def r107 : List RV := [.agg 2 16]
theorem ok107 : FnOk Tryz.prog 107 19 c107 r107 := ⟨[40, 45], _, _, Tryz.func107, rfl, rfl, by kernel_rfl, by kernel_rfl, by kernel_rfl⟩
/-- vouch/vouchref16.digits -/
def c108 : C := (.seq (.reg [(rO 2 (.mv (.const (.string { data := #[] }))))])
 (.seq (.reg [(rO 4 (.mv (.tmp 0))),
 (rO 5 (.bin .rem (.tmp 4) (.const (.int .i64 10)))),
 (rO 6 (.bin .add (.const (.int .i64 48)) (.tmp 5))),
 (rO 7 (.conv .u8 (.tmp 6))),
 (rO 8 (.lit 5 1 1 [.int .u8 (0)] [(0, 1, (.tmp 7))])),
 (rO 9 (.bys (.tmp 8))),
 (rO 3 (.mv (.tmp 9)))])
 (.seq (.seq (.reg [(rO 10 (.mv (.tmp 0))),
 (rO 11 (.bin .lss (.tmp 10) (.const (.int .i64 10))))])
 (.cond (.tmp 11) (.seq (.reg [(rO 12 (.mv (.tmp 3))),
 (rO 2 (.mv (.tmp 12)))])
 .ret)
 .skip))
 (.seq (.reg [(rO 13 (.mv (.tmp 0))),
 (rO 14 (.bin .quo (.tmp 13) (.const (.int .i64 10)))),
 (rO 15 (.call 108 [(.tmp 14)])),
 (rO 16 (.mv (.tmp 3))),
 (rO 17 (.bin .add (.tmp 15) (.tmp 16))),
 (rO 2 (.mv (.tmp 17)))])
 .ret))))
def r108 : List RV := [.tmp 2]
theorem ok108 : FnOk Tryz.prog 108 18 c108 r108 := ⟨[40, 45], _, _, Tryz.func108, rfl, rfl, by kernel_rfl, by kernel_rfl, by kernel_rfl⟩
/-- vouch/vouchref16.Parse -/
def c109 : C := (.seq (.reg [(rO 2 (.mv (.const (.int .i64 0)))),
 (rO 3 (.mv (.const (.int .i64 0))))])
 (.seq (.reg [(rO 4 (.mv (.const (.int .i64 0))))])
 (.seq (.reg [(rO 5 (.mv (.const (.int .i64 1))))])
 (.seq (.block 0 (.loop (.seq (.seq (.reg [(rO 8 (.mv (.tmp 5))),
 (rO 9 (.mv (.tmp 0))),
 (rO 10 (.len false (.tmp 9))),
 (rO 11 (.bin .lss (.tmp 8) (.tmp 10))),
 (rO 12 (.mv (.tmp 11))),
 ⟨(some 13), (.mv (.tmp 5)), (some (12, true))⟩,
 ⟨(some 14), (.bin .lss (.tmp 13) (.const (.int .i64 20))), (some (12, true))⟩,
 (rO 15 (.pick (.tmp 12) (.tmp 14) (.const (.bool false)))),
 (rO 16 (.mv (.tmp 15))),
 ⟨(some 17), (.mv (.tmp 0)), (some (16, true))⟩,
 ⟨(some 18), (.mv (.tmp 5)), (some (16, true))⟩,
 ⟨(some 19), (.ixs (.tmp 17) (.tmp 18)), (some (16, true))⟩,
 ⟨(some 20), (.bin .geq (.tmp 19) (.const (.int .u8 48))), (some (16, true))⟩,
 (rO 21 (.pick (.tmp 16) (.tmp 20) (.const (.bool false)))),
 (rO 22 (.mv (.tmp 21))),
 ⟨(some 23), (.mv (.tmp 0)), (some (22, true))⟩,
 ⟨(some 24), (.mv (.tmp 5)), (some (22, true))⟩,
 ⟨(some 25), (.ixs (.tmp 23) (.tmp 24)), (some (22, true))⟩,
 ⟨(some 26), (.bin .leq (.tmp 25) (.const (.int .u8 57))), (some (22, true))⟩,
 (rO 27 (.pick (.tmp 22) (.tmp 26) (.const (.bool false)))),
 (rO 28 (.mv (.tmp 27))),
 ⟨(some 29), (.mv (.tmp 4)), (some (28, true))⟩,
 ⟨(some 30), (.bin .leq (.tmp 29) (.const (.int .i64 1099511627776))), (some (28, true))⟩,
 (rO 31 (.pick (.tmp 28) (.tmp 30) (.const (.bool false))))])
 (.cond (.tmp 31) .skip
 (.exit 0)))
 (.block 1 (.seq (.reg [(rO 32 (.mv (.tmp 4))),
 (rO 33 (.bin .mul (.const (.int .i64 10)) (.tmp 32))),
 (rO 34 (.mv (.tmp 0))),
 (rO 35 (.mv (.tmp 5))),
 (rO 36 (.ixs (.tmp 34) (.tmp 35))),
 (rO 37 (.bin .sub (.tmp 36) (.const (.int .u8 48)))),
 (rO 38 (.conv .i64 (.tmp 37))),
 (rO 39 (.bin .add (.tmp 33) (.tmp 38))),
 (rO 4 (.mv (.tmp 39)))])
 (.reg [(rO 40 (.mv (.tmp 5))),
 (rO 41 (.bin .add (.tmp 40) (.const (.int .i64 1)))),
 (rO 5 (.mv (.tmp 41)))]))))))
 (.seq (.reg [(rO 43 (.mv (.tmp 4))),
 (rO 44 (.call 92 [(.tmp 43)])),
 (rO 42 (.mv (.tmp 44))),
 (rO 45 (.ext 0 (.tmp 42))),
 (rO 46 (.ext 1 (.tmp 42))),
 (rO 6 (.mv (.tmp 45))),
 (rO 7 (.mv (.tmp 46)))])
 (.seq (.seq (.reg [(rO 47 (.mv (.tmp 7))),
 (rO 48 (.bin .neq (.tmp 47) (.const (.int .i64 0)))),
 (rO 49 (.mv (.tmp 48))),
 ⟨(some 50), (.mv (.tmp 6)), (some (49, false))⟩,
 ⟨(some 51), (.mv (.tmp 0)), (some (49, false))⟩,
 ⟨(some 52), (.bin .neq (.tmp 50) (.tmp 51)), (some (49, false))⟩,
 (rO 53 (.pick (.tmp 49) (.const (.bool true)) (.tmp 52)))])
 (.cond (.tmp 53) (.seq (.reg [(rO 2 (.mv (.const (.int .i64 0)))),
 (rO 3 (.mv (.const (.int .i64 30))))])
 .ret)
 .skip))
 (.seq (.reg [(rO 54 (.mv (.tmp 4))),
 (rO 2 (.mv (.tmp 54))),
 (rO 3 (.mv (.const (.int .i64 0))))])
 .ret)))))))
def r109 : List RV := [.tmp 2, .tmp 3]
theorem ok109 : FnOk Tryz.prog 109 55 c109 r109 := ⟨[40, 45], _, _, Tryz.func109, rfl, rfl, by kernel_rfl, by kernel_rfl, by kernel_rfl⟩
/-- vouch/store.goodWrite -/
def c111 : C := (.seq (.reg [(rO 1 (.box 52 (.tmp 0))),
 (rO 2 (.mv (.const (.bool false))))])
 (.seq (.reg [(rO 3 (.fa 0 (.tmp 1))),
 (rO 4 (.ld none (.tmp 3))),
 (rO 5 (.call 126 [(.tmp 4)])),
 (rO 6 (.mv (.tmp 5))),
 ⟨(some 7), (.fa 1 (.tmp 1)), (some (6, true))⟩,
 ⟨(some 8), (.fa 1 (.tmp 7)), (some (6, true))⟩,
 ⟨(some 9), (.ld none (.tmp 8)), (some (6, true))⟩,
 ⟨(some 10), (.len false (.tmp 9)), (some (6, true))⟩,
 ⟨(some 11), (.bin .leq (.tmp 10) (.const (.int .i64 256))), (some (6, true))⟩,
 (rO 12 (.pick (.tmp 6) (.tmp 11) (.const (.bool false)))),
 (rO 13 (.mv (.tmp 12))),
 ⟨(some 14), (.fa 1 (.tmp 1)), (some (13, true))⟩,
 ⟨(some 15), (.fa 0 (.tmp 14)), (some (13, true))⟩,
 ⟨(some 16), (.ld none (.tmp 15)), (some (13, true))⟩,
 ⟨(some 17), (.mv (.tmp 16)), (some (13, true))⟩,
 ⟨(some 18), (.fa 1 (.tmp 1)), (some (17, false))⟩,
 ⟨(some 19), (.fa 1 (.tmp 18)), (some (17, false))⟩,
 ⟨(some 20), (.ld none (.tmp 19)), (some (17, false))⟩,
 ⟨(some 21), (.bin .eql (.tmp 20) (.const (.string { data := #[] }))), (some (17, false))⟩,
 ⟨(some 22), (.pick (.tmp 17) (.const (.bool true)) (.tmp 21)), (some (13, true))⟩,
 (rO 23 (.pick (.tmp 13) (.tmp 22) (.const (.bool false)))),
 (rO 2 (.mv (.tmp 23)))])
 .ret))
def r111 : List RV := [.tmp 2]
theorem ok111 : FnOk Tryz.prog 111 24 c111 r111 := ⟨[40, 45], _, _, Tryz.func111, rfl, rfl, by kernel_rfl, by kernel_rfl, by kernel_rfl⟩
/-- vouch/vouchref05.GoodValue -/
def c125 : C := (.seq (.reg [(rO 1 (.box 35 (.tmp 0))),
 (rO 2 (.mv (.const (.bool false))))])
 (.seq (.seq (.reg [(rO 3 (.fa 0 (.tmp 1))),
 (rO 4 (.ld none (.tmp 3))),
 (rO 5 (.nt (.tmp 4)))])
 (.cond (.tmp 5) (.seq (.reg [(rO 6 (.fa 1 (.tmp 1))),
 (rO 7 (.ld none (.tmp 6))),
 (rO 8 (.bin .eql (.tmp 7) (.const (.string { data := #[] })))),
 (rO 2 (.mv (.tmp 8)))])
 .ret)
 .skip))
 (.seq (.reg [(rO 9 (.fa 1 (.tmp 1))),
 (rO 10 (.ld none (.tmp 9))),
 (rO 11 (.len false (.tmp 10))),
 (rO 12 (.bin .leq (.tmp 11) (.const (.int .i64 256)))),
 (rO 2 (.mv (.tmp 12)))])
 .ret)))
def r125 : List RV := [.tmp 2]
theorem ok125 : FnOk Tryz.prog 125 13 c125 r125 := ⟨[40, 45], _, _, Tryz.func125, rfl, rfl, by kernel_rfl, by kernel_rfl, by kernel_rfl⟩
/-- vouch/store.goodKey -/
def c126 : C := (.seq (.reg [(rO 2 (.mv (.const (.bool false))))])
 (.seq (.reg [(rO 3 (.mv (.tmp 0))),
 (rO 4 (.len false (.tmp 3))),
 (rO 5 (.bin .geq (.tmp 4) (.const (.int .i64 1)))),
 (rO 6 (.mv (.tmp 5))),
 ⟨(some 7), (.mv (.tmp 0)), (some (6, true))⟩,
 ⟨(some 8), (.len false (.tmp 7)), (some (6, true))⟩,
 ⟨(some 9), (.bin .leq (.tmp 8) (.const (.int .i64 32))), (some (6, true))⟩,
 (rO 10 (.pick (.tmp 6) (.tmp 9) (.const (.bool false)))),
 (rO 2 (.mv (.tmp 10)))])
 .ret))
def r126 : List RV := [.tmp 2]
theorem ok126 : FnOk Tryz.prog 126 11 c126 r126 := ⟨[40, 45], _, _, Tryz.func126, rfl, rfl, by kernel_rfl, by kernel_rfl, by kernel_rfl⟩
end Go.Proofs.YtaoafjlocjjbbaaGreatDoor

-- SpK
namespace Go.Sp
theorem RowsAt.subK {α : Type} {E sz : Nat} {f : α → List Value} {σ σ' : Hp} {v : Value} {l : List α} (h : RowsAt E sz f σ v l) (hs : Sub σ σ') : RowsAt E sz f σ' v l := by
  rcases h with h | ⟨b, c, rfl, hc, hb⟩
  · exact .inl h
  · refine .inr ⟨b, c, rfl, hc, ?_⟩
    rcases hs b with e | e
    · rw [hb] at e; cases e
    · rw [← e]; exact hb
theorem RowsAt.known {α : Type} {E sz : Nat} {f : α → List Value} {σ : Hp} {v : Value} {l : List α} (h : RowsAt E sz f σ v l) {k : Nat} (hk : blk v = some k) : σ k ≠ none := by
  rcases h with ⟨rfl, _⟩ | ⟨b, c, rfl, _, hb⟩
  · cases hk
  · cases hk; rw [hb]; simp
theorem splice_nil (cs : List Value) (o : Nat) : splice cs o [] = cs := by simp [splice]
theorem splice_zero (c v : Value) (cs vs : List Value) : splice (c :: cs) 0 (v :: vs) = v :: splice cs 0 vs := by simp [splice, Nat.add_comm]
theorem splice_skip (c : Value) (cs vs : List Value) (o : Nat) : splice (c :: cs) (o + 1) vs = c :: splice cs o vs := by
  simp only [splice, List.take_succ_cons, List.cons_append]
  rw [show o + 1 + vs.length = (o + vs.length) + 1 by omega, List.drop_succ_cons]
end Go.Sp

-- C1
namespace Go.Proofs.YtaoafjlocjjbbaaGreatDoor
open Go.Sp
set_option linter.unusedSimpArgs false
set_option linter.unusedVariables false
structure Wr where
  key : ByteArray
  has : Bool
  data : ByteArray
def Wr.cells (w : Wr) : List Value := [.string w.key, .bool w.has, .string w.data]
structure SesS where
  id : Int
  floor : Int
  busy : Bool
  seq : Int
  tries : Int
  last : Int
  err : Int
def SesS.cells (S : SesS) (v : Value) : List Value := [.int .i64 S.id, .int .i64 S.floor, .bool S.busy, .int .i64 S.seq, .int .i64 S.tries, .int .i64 S.last, .int .i64 S.err, v]
def SesS.view (S : SesS) : List Value := [.int .i64 S.floor, .bool S.busy, .int .i64 S.seq, .int .i64 S.tries, .int .i64 S.last, .int .i64 S.err]
def goodK (k : ByteArray) : Bool := decide ((k.size : Int) ≥ 1) && decide ((k.size : Int) ≤ 32)
theorem goodKey100 (k : ByteArray) (σ : Hp) : ACalls Tryz.prog 126 #[.string k] σ fun v σ' => v = .bool (goodK k) ∧ σ' = σ := by
  (refine acalls_F ok126 (by simp) ?_; unfold c126 r126)
  (repeat' (first | (simp +contextual -dsimp only [*, SesS.cells, SesS.view, Wr.cells, ↓reduceIte, ↓evP, evQ, splice, Nat.reduceAdd, Nat.reduceEqDiff, Nat.reduceLeDiff, Nat.reduceMul, reduceCtorEq, Int.reduceLT, Int.reduceLE, Int.reduceGT, Int.reduceGE, Int.reduceEq, Int.reduceNeg]) | (refine condF_split (fun hc => ?_) (fun hc => ?_) <;> (try simp only [Bool.not_eq_true', Bool.not_eq_false', Bool.and_eq_true, Bool.or_eq_false_iff] at hc)) | (intro _; intros) | (refine And.intro ?_ ?_; focus (first | omega | ((repeat (first | exact Sub.refl _ | (refine Sub.drop ?_ ?_; focus (simp only [evN, *]; done)) | refine Sub.both ?_)); done) | (simp_all; done) | (simp_all; omega)))))
  all_goals exact endF_sub (by (repeat (first | exact Sub.refl _ | (refine Sub.drop ?_ ?_; focus (simp only [evN, *]; done)) | refine Sub.both ?_)); done) ⟨by ((try simp only [decide_eq_true_eq, decide_eq_false_iff_not] at *) <;> first | rfl | (simp [goodK]; done) | (simp_all [goodK]; done) | (simp [goodK]; omega) | (simp [goodK]; (rw [Bool.eq_iff_iff]); simp; omega) | (simp_all [goodK] <;> omega) | ((try unfold goodK); (rw [Value.bool.injEq, Bool.eq_iff_iff]); simp <;> omega) | ((try unfold goodK); (repeat' split) <;> simp_all <;> omega) | (simp_all [goodK] <;> (repeat' split) <;> simp_all <;> omega)), rfl⟩
theorem new14 (id : Int) (σ : Hp) : ACalls Tryz.prog 37 #[.int .i64 id] σ fun u σ' => ∃ g, σ g = none ∧ u = .pointer (some ⟨g, 0, none⟩) ∧ σ' = upd σ g (.cells ((⟨id, 0, false, 0, 0, 0, 0⟩ : SesS).cells (.slice none 0 0)) 130) := by
  (refine acalls_F ok37 (by simp) ?_; unfold c37 r37)
  (repeat' (first | (simp +contextual -dsimp only [*, SesS.cells, SesS.view, Wr.cells, ↓reduceIte, ↓evP, evQ, splice, Nat.reduceAdd, Nat.reduceEqDiff, Nat.reduceLeDiff, Nat.reduceMul, reduceCtorEq, Int.reduceLT, Int.reduceLE, Int.reduceGT, Int.reduceGE, Int.reduceEq, Int.reduceNeg]) | (refine condF_split (fun hc => ?_) (fun hc => ?_) <;> (try simp only [Bool.not_eq_true', Bool.not_eq_false', Bool.and_eq_true, Bool.or_eq_false_iff] at hc)) | (intro _; intros) | (refine And.intro ?_ ?_; focus (first | omega | ((repeat (first | exact Sub.refl _ | (refine Sub.drop ?_ ?_; focus (simp only [evN, *]; done)) | refine Sub.both ?_)); done) | (simp_all; done) | (simp_all; omega)))))
  exact endF_at ⟨_, ‹_›, rfl, rfl⟩
theorem view18 {σ : Hp} {g : Nat} {S : SesS} {v : Value} (hg : σ g = some (.cells (S.cells v) 130)) : ACalls Tryz.prog 70 #[.pointer (some ⟨g, 0, none⟩)] σ fun u σ' => u = .agg S.view.toArray ∧ σ' = σ := by
  (unfold SesS.cells at hg; obtain ⟨τ, rfl⟩ := open_upd hg; clear hg)
  (refine acalls_F ok70 (by simp) ?_; unfold c70 r70)
  (repeat' (first | (simp +contextual -dsimp only [*, SesS.cells, SesS.view, Wr.cells, ↓reduceIte, ↓evP, evQ, splice, Nat.reduceAdd, Nat.reduceEqDiff, Nat.reduceLeDiff, Nat.reduceMul, reduceCtorEq, Int.reduceLT, Int.reduceLE, Int.reduceGT, Int.reduceGE, Int.reduceEq, Int.reduceNeg]) | (refine condF_split (fun hc => ?_) (fun hc => ?_) <;> (try simp only [Bool.not_eq_true', Bool.not_eq_false', Bool.and_eq_true, Bool.or_eq_false_iff] at hc)) | (intro _; intros) | (refine And.intro ?_ ?_; focus (first | omega | ((repeat (first | exact Sub.refl _ | (refine Sub.drop ?_ ?_; focus (simp only [evN, *]; done)) | refine Sub.both ?_)); done) | (simp_all; done) | (simp_all; omega)))))
  all_goals (refine endF_det ?_ ?_; (focus ((try simp only [cond_true, cond_false, *]) <;> ((try simp only [decide_eq_true_eq, decide_eq_false_iff_not] at *) <;> first | rfl | (simp []; done) | (simp_all []; done) | (simp []; omega) | (simp []; (rw [Bool.eq_iff_iff]); simp; omega) | (simp_all [] <;> omega) | ((try unfold id); (rw [Value.bool.injEq, Bool.eq_iff_iff]); simp <;> omega) | ((try unfold id); (repeat' split) <;> simp_all <;> omega) | (simp_all [] <;> (repeat' split) <;> simp_all <;> omega)))); (focus ((try simp only [cond_true, cond_false, set_same, *]); exact (by (repeat (first | exact Sub.refl _ | (refine Sub.drop ?_ ?_; focus (simp only [evN, *]; done)) | refine Sub.both ?_)); done))))
theorem floor26 {σ : Hp} {g : Nat} {S : SesS} {v : Value} (hg : σ g = some (.cells (S.cells v) 130)) : ACalls Tryz.prog 44 #[.pointer (some ⟨g, 0, none⟩)] σ fun u σ' => u = .int .i64 S.floor ∧ σ' = σ := by
  (refine acalls_F ok44 (by simp) ?_; unfold c44 r44)
  (repeat' (first | (simp +contextual -dsimp only [*, SesS.cells, SesS.view, Wr.cells, ↓reduceIte, ↓evP, evQ, splice, Nat.reduceAdd, Nat.reduceEqDiff, Nat.reduceLeDiff, Nat.reduceMul, reduceCtorEq, Int.reduceLT, Int.reduceLE, Int.reduceGT, Int.reduceGE, Int.reduceEq, Int.reduceNeg]) | (refine condF_split (fun hc => ?_) (fun hc => ?_) <;> (try simp only [Bool.not_eq_true', Bool.not_eq_false', Bool.and_eq_true, Bool.or_eq_false_iff] at hc)) | refine callF_v (view18 hg) ?_ | refine ccallF_of (view18 hg) ?_ | refine gcallF_of (view18 hg) ?_ | (intro _; intros) | (refine And.intro ?_ ?_; focus (first | omega | ((repeat (first | exact Sub.refl _ | (refine Sub.drop ?_ ?_; focus (simp only [evN, *]; done)) | refine Sub.both ?_)); done) | (simp_all; done) | (simp_all; omega)))))
  all_goals (refine endF_det ?_ ?_; (focus ((try simp only [cond_true, cond_false, *]) <;> ((try simp only [decide_eq_true_eq, decide_eq_false_iff_not] at *) <;> first | rfl | (simp []; done) | (simp_all []; done) | (simp []; omega) | (simp []; (rw [Bool.eq_iff_iff]); simp; omega) | (simp_all [] <;> omega) | ((try unfold id); (rw [Value.bool.injEq, Bool.eq_iff_iff]); simp <;> omega) | ((try unfold id); (repeat' split) <;> simp_all <;> omega) | (simp_all [] <;> (repeat' split) <;> simp_all <;> omega)))); (focus ((try simp only [cond_true, cond_false, set_same, *]); exact (by (repeat (first | exact Sub.refl _ | (refine Sub.drop ?_ ?_; focus (simp only [evN, *]; done)) | refine Sub.both ?_)); done))))
def SesS.raise (S : SesS) (n : Int) : SesS := cond (decide (n ≤ 1099511627776)) { S with floor := mxI S.floor n } S
theorem raise23 {σ : Hp} {g : Nat} {S : SesS} {v : Value} (hg : σ g = some (.cells (S.cells v) 130)) (n : Int) : ACalls Tryz.prog 48 #[.pointer (some ⟨g, 0, none⟩), .int .i64 n] σ fun u σ' => u = .tuple #[] ∧ σ' = set σ g (.cells ((S.raise n).cells v) 130) := by
  (unfold SesS.cells at hg; obtain ⟨τ, rfl⟩ := open_upd hg; clear hg)
  (refine acalls_F ok48 (by simp) ?_; unfold c48 r48)
  (repeat' (first | (simp +contextual -dsimp only [*, SesS.cells, SesS.view, Wr.cells, ↓reduceIte, ↓evP, evQ, splice, Nat.reduceAdd, Nat.reduceEqDiff, Nat.reduceLeDiff, Nat.reduceMul, reduceCtorEq, Int.reduceLT, Int.reduceLE, Int.reduceGT, Int.reduceGE, Int.reduceEq, Int.reduceNeg]) | (refine condF_split (fun hc => ?_) (fun hc => ?_) <;> (try simp only [Bool.not_eq_true', Bool.not_eq_false', Bool.and_eq_true, Bool.or_eq_false_iff] at hc)) | (intro _; intros) | (refine And.intro ?_ ?_; focus (first | omega | ((repeat (first | exact Sub.refl _ | (refine Sub.drop ?_ ?_; focus (simp only [evN, *]; done)) | refine Sub.both ?_)); done) | (simp_all; done) | (simp_all; omega)))))
  all_goals (refine endF_det ?_ ?_; (focus ((try simp only [SesS.raise, cond_true, cond_false, *]) <;> ((try simp only [decide_eq_true_eq, decide_eq_false_iff_not] at *) <;> first | rfl | (simp [SesS.raise]; done) | (simp_all [SesS.raise]; done) | (simp [SesS.raise]; omega) | (simp [SesS.raise]; (rw [Bool.eq_iff_iff]); simp; omega) | (simp_all [SesS.raise] <;> omega) | ((try unfold SesS.raise); (rw [Value.bool.injEq, Bool.eq_iff_iff]); simp <;> omega) | ((try unfold SesS.raise); (repeat' split) <;> simp_all <;> omega) | (simp_all [SesS.raise] <;> (repeat' split) <;> simp_all <;> omega)))); (focus ((try simp only [SesS.raise, cond_true, cond_false, set_same, *]); exact (by (repeat (first | exact Sub.refl _ | (refine Sub.drop ?_ ?_; focus (simp only [evN, *]; done)) | refine Sub.both ?_)); done))))
def SesS.ended (S : SesS) (e : Int) : SesS := { S with busy := false, tries := 0, err := e }
theorem end48 {σ : Hp} {g : Nat} {S : SesS} {v : Value} (hg : σ g = some (.cells (S.cells v) 130)) (e : Int) : ACalls Tryz.prog 76 #[.pointer (some ⟨g, 0, none⟩), .int .i64 e] σ fun u σ' => u = .tuple #[] ∧ σ' = set σ g (.cells ((S.ended e).cells (.slice none 0 0)) 130) := by
  (unfold SesS.cells at hg; obtain ⟨τ, rfl⟩ := open_upd hg; clear hg)
  (refine acalls_F ok76 (by simp) ?_; unfold c76 r76)
  (repeat' (first | (simp +contextual -dsimp only [*, SesS.cells, SesS.view, Wr.cells, ↓reduceIte, ↓evP, evQ, splice, Nat.reduceAdd, Nat.reduceEqDiff, Nat.reduceLeDiff, Nat.reduceMul, reduceCtorEq, Int.reduceLT, Int.reduceLE, Int.reduceGT, Int.reduceGE, Int.reduceEq, Int.reduceNeg]) | (refine condF_split (fun hc => ?_) (fun hc => ?_) <;> (try simp only [Bool.not_eq_true', Bool.not_eq_false', Bool.and_eq_true, Bool.or_eq_false_iff] at hc)) | (intro _; intros) | (refine And.intro ?_ ?_; focus (first | omega | ((repeat (first | exact Sub.refl _ | (refine Sub.drop ?_ ?_; focus (simp only [evN, *]; done)) | refine Sub.both ?_)); done) | (simp_all; done) | (simp_all; omega)))))
  all_goals (refine endF_det ?_ ?_; (focus ((try simp only [SesS.ended, cond_true, cond_false, *]) <;> ((try simp only [decide_eq_true_eq, decide_eq_false_iff_not] at *) <;> first | rfl | (simp [SesS.ended]; done) | (simp_all [SesS.ended]; done) | (simp [SesS.ended]; omega) | (simp [SesS.ended]; (rw [Bool.eq_iff_iff]); simp; omega) | (simp_all [SesS.ended] <;> omega) | ((try unfold SesS.ended); (rw [Value.bool.injEq, Bool.eq_iff_iff]); simp <;> omega) | ((try unfold SesS.ended); (repeat' split) <;> simp_all <;> omega) | (simp_all [SesS.ended] <;> (repeat' split) <;> simp_all <;> omega)))); (focus ((try simp only [SesS.ended, cond_true, cond_false, set_same, *]); exact (by (repeat (first | exact Sub.refl _ | (refine Sub.drop ?_ ?_; focus (simp only [evN, *]; done)) | refine Sub.both ?_)); done))))
def goodW (w : Wr) : Bool := goodK w.key && decide ((w.data.size : Int) ≤ 256) && (w.has || decide (w.data = ⟨#[]⟩))
theorem goodWrite85 (w : Wr) (σ : Hp) : ACalls Tryz.prog 111 #[.agg w.cells.toArray] σ fun v σ' => v = .bool (goodW w) ∧ σ' = σ := by
  (refine acalls_F ok111 (by simp) ?_; unfold c111 r111)
  (repeat' (first | (simp +contextual -dsimp only [*, SesS.cells, SesS.view, Wr.cells, ↓reduceIte, ↓evP, evQ, splice, Nat.reduceAdd, Nat.reduceEqDiff, Nat.reduceLeDiff, Nat.reduceMul, reduceCtorEq, Int.reduceLT, Int.reduceLE, Int.reduceGT, Int.reduceGE, Int.reduceEq, Int.reduceNeg]) | (refine condF_split (fun hc => ?_) (fun hc => ?_) <;> (try simp only [Bool.not_eq_true', Bool.not_eq_false', Bool.and_eq_true, Bool.or_eq_false_iff] at hc)) | refine callF_v (goodKey100 _ _) ?_ | refine ccallF_of (goodKey100 _ _) ?_ | refine gcallF_of (goodKey100 _ _) ?_ | (intro _; intros) | (refine And.intro ?_ ?_; focus (first | omega | ((repeat (first | exact Sub.refl _ | (refine Sub.drop ?_ ?_; focus (simp only [evN, *]; done)) | refine Sub.both ?_)); done) | (simp_all; done) | (simp_all; omega)))))
  all_goals (refine endF_det ?_ ?_; (focus ((try simp only [goodW, cond_true, cond_false, *]) <;> ((try simp only [decide_eq_true_eq, decide_eq_false_iff_not] at *) <;> first | rfl | (simp [goodW]; done) | (simp_all [goodW]; done) | (simp [goodW]; omega) | (simp [goodW]; (rw [Bool.eq_iff_iff]); simp; omega) | (simp_all [goodW] <;> omega) | ((try unfold goodW); (rw [Value.bool.injEq, Bool.eq_iff_iff]); simp <;> omega) | ((try unfold goodW); (repeat' split) <;> simp_all <;> omega) | (simp_all [goodW] <;> (repeat' split) <;> simp_all <;> omega)))); (focus ((try simp only [goodW, cond_true, cond_false, set_same, *]); exact (by (repeat (first | exact Sub.refl _ | (refine Sub.drop ?_ ?_; focus (simp only [evN, *]; done)) | refine Sub.both ?_)); done))))
theorem wi64 {x : Int} (h : -9223372036854775808 ≤ x ∧ x ≤ 9223372036854775807) : IntKind.i64.wrap x = x := IntWalk.i64_in x (by omega)
def chk : List Wr → Nat → List (ByteArray × Value) → Bool → Int
  | [], _, _, tw => cond tw 22 0
  | w :: r, i, l, tw => cond (goodW w) (chk r (i + 1) (mput l w.key (.int .i64 i)) (tw || (mget l w.key).isSome)) 1
def checkV (ws : List Wr) : Int := cond (decide ((ws.length : Int) = 0) || decide ((ws.length : Int) > 8)) 1 (chk ws 0 [] false)
theorem check70 {σ : Hp} {v : Value} {ws : List Wr} (hv : RoRows 3 Wr.cells σ v ws) (hn : ws.length ≤ 140737488355328) : ACalls Tryz.prog 96 #[v] σ fun u σ' => u = .int .i64 (checkV ws) ∧ σ' = σ := by
  obtain ⟨A, c, rfl, hrow⟩ := hv
  have H := Hid.mk hrow
  clear hrow
  (refine acalls_F ok96 (by simp) ?_; unfold c96 r96)
  (repeat' (first | (simp +contextual -dsimp only [*, Wr.cells, ↓reduceIte, ↓evP, evQ, splice, Nat.reduceAdd, Nat.reduceEqDiff, Nat.reduceLeDiff, Nat.reduceMul, reduceCtorEq, Int.reduceLT, Int.reduceLE, Int.reduceGT, Int.reduceGE, Int.reduceEq, Int.reduceNeg]) | (refine condF_split (fun hc => ?_) (fun hc => ?_) <;> (try simp only [Bool.not_eq_true', Bool.not_eq_false', Bool.and_eq_true, Bool.or_eq_false_iff] at hc)) | (intro _; intros) | (refine And.intro ?_ ?_; focus (first | omega | ((repeat (first | exact Sub.refl _ | (refine Sub.drop ?_ ?_; focus (simp only [evN, *]; done)) | refine Sub.both ?_)); done) | (simp_all; done) | (simp_all; omega)))))
  · exact endF_det (by unfold checkV; rw [hc]; rfl) (Sub.refl _)
  · rename_i h1; exact endF_det (by unfold checkV; rw [h1, hc]; rfl) (Sub.refl _)
  rename_i m hm
  have hck : checkV ws = chk ws 0 [] false := by unfold checkV; rw [‹decide ((ws.length : Int) = 0) = false›, ‹decide ((ws.length : Int) > 8) = false›]; rfl
  rw [hck]
  refine loopF_of (fun k s σ' => ∃ (i : Nat) (l : List (ByteArray × Value)) (tw : Bool), i ≤ ws.length ∧ k = ws.length - i ∧ s 20 = .int .i64 i ∧ s 19 = .int .i64 ws.length ∧ s 18 = .slice A ws.length c ∧ s 3 = .map (some m) ∧ s 4 = .bool tw ∧ σ' = upd σ m (.mp l) ∧
    chk (ws.drop i) i l tw = chk ws 0 [] false) ws.length (Sub.refl _) ⟨0, [], false, by omega, rfl, (by first | rfl | (simp only [↓putO_get, ↓putO_no, init_zero, init_succ, Nat.reduceEqDiff, ↓reduceIte, *]; done) | (simp only [↓putO_get, ↓putO_no, init_zero, init_succ, Nat.reduceEqDiff, ↓reduceIte, *]; rfl)), (by first | rfl | (simp only [↓putO_get, ↓putO_no, init_zero, init_succ, Nat.reduceEqDiff, ↓reduceIte, *]; done) | (simp only [↓putO_get, ↓putO_no, init_zero, init_succ, Nat.reduceEqDiff, ↓reduceIte, *]; rfl)), (by first | rfl | (simp only [↓putO_get, ↓putO_no, init_zero, init_succ, Nat.reduceEqDiff, ↓reduceIte, *]; done) | (simp only [↓putO_get, ↓putO_no, init_zero, init_succ, Nat.reduceEqDiff, ↓reduceIte, *]; rfl)), (by first | rfl | (simp only [↓putO_get, ↓putO_no, init_zero, init_succ, Nat.reduceEqDiff, ↓reduceIte, *]; done) | (simp only [↓putO_get, ↓putO_no, init_zero, init_succ, Nat.reduceEqDiff, ↓reduceIte, *]; rfl)), (by first | rfl | (simp only [↓putO_get, ↓putO_no, init_zero, init_succ, Nat.reduceEqDiff, ↓reduceIte, *]; done) | (simp only [↓putO_get, ↓putO_no, init_zero, init_succ, Nat.reduceEqDiff, ↓reduceIte, *]; rfl)), rfl, rfl⟩ ?_
  rintro k s σ' ⟨i, l, tw, hi, hk, h20, h19, h18, h3, h4, rfl, hc⟩
  rcases Nat.lt_or_ge i ws.length with hlt | hge
  · obtain ⟨w, ho⟩ : ∃ w, ws[i]? = some w := ⟨_, List.getElem?_eq_getElem hlt⟩
    obtain ⟨b, off, rfl, hrd⟩ := H.out i w ho
    have hrd := rdn_sub (Sub.drop (o := .mp l) hm (Sub.refl _)) hrd
    have hd : decide ((i : Int) < (ws.length : Int)) = true := by simp; omega
    have hdrop : ws.drop i = w :: ws.drop (i + 1) := by
      rw [List.drop_eq_getElem_cons hlt]
      rw [List.getElem?_eq_getElem hlt] at ho
      cases ho; rfl
    rw [hdrop] at hc
    have HC := Hid.mk hc
    have HK := Hid.mk hck
    clear ho hc hck hdrop H
    (repeat' (first | (simp +contextual -dsimp only [*, Wr.cells, ↓reduceIte, ↓evP, evQ, splice, Nat.reduceAdd, Nat.reduceEqDiff, Nat.reduceLeDiff, Nat.reduceMul, reduceCtorEq, Int.reduceLT, Int.reduceLE, Int.reduceGT, Int.reduceGE, Int.reduceEq, Int.reduceNeg]) | (refine condF_split (fun hc => ?_) (fun hc => ?_) <;> (try simp only [Bool.not_eq_true', Bool.not_eq_false', Bool.and_eq_true, Bool.or_eq_false_iff] at hc)) | refine callF_v (goodWrite85 _ _) ?_ | refine ccallF_of (goodWrite85 _ _) ?_ | refine gcallF_of (goodWrite85 _ _) ?_ | (intro _; intros) | (refine And.intro ?_ ?_; focus (first | omega | ((repeat (first | exact Sub.refl _ | (refine Sub.drop ?_ ?_; focus (simp only [evN, *]; done)) | refine Sub.both ?_)); done) | (simp_all; done) | (simp_all; omega)))))
    · have hg' := Hid.mk (show goodW w = false by assumption)
      refine endF_det ?_ ?_
      · rw [← HC.out]; unfold chk; rw [hg'.out]; rfl
      · refine Sub.drop ?_ (Sub.drop hm (Sub.refl _)); assumption
    · have hg' := Hid.mk (show goodW w = true by assumption)
      have htw' := Hid.mk (show tw = true by assumption)
      refine nextF_of (σ₁ := upd σ m (.mp (mput l w.key (.int .i64 i)))) (ws.length - (i + 1)) (by omega) (by (repeat (first | exact Sub.refl _ | (refine Sub.drop ?_ ?_; focus (simp only [evN, *]; done)) | refine Sub.both ?_)); done) ⟨i + 1, _, true, by omega, rfl, ?_, (by first | rfl | (simp only [↓putO_get, ↓putO_no, init_zero, init_succ, Nat.reduceEqDiff, ↓reduceIte, *]; done) | (simp only [↓putO_get, ↓putO_no, init_zero, init_succ, Nat.reduceEqDiff, ↓reduceIte, *]; rfl)), (by first | rfl | (simp only [↓putO_get, ↓putO_no, init_zero, init_succ, Nat.reduceEqDiff, ↓reduceIte, *]; done) | (simp only [↓putO_get, ↓putO_no, init_zero, init_succ, Nat.reduceEqDiff, ↓reduceIte, *]; rfl)), (by first | rfl | (simp only [↓putO_get, ↓putO_no, init_zero, init_succ, Nat.reduceEqDiff, ↓reduceIte, *]; done) | (simp only [↓putO_get, ↓putO_no, init_zero, init_succ, Nat.reduceEqDiff, ↓reduceIte, *]; rfl)), (by first | rfl | (simp only [↓putO_get, ↓putO_no, init_zero, init_succ, Nat.reduceEqDiff, ↓reduceIte, *]; done) | (simp only [↓putO_get, ↓putO_no, init_zero, init_succ, Nat.reduceEqDiff, ↓reduceIte, *]; rfl)), rfl, ?_⟩
      · show Value.int .i64 (IntKind.i64.wrap _) = _; rw [wi64 (by omega)]; rfl
      · rw [← HC.out]; conv => rhs; unfold chk
        rw [hg'.out, htw'.out]; rfl
    · have hg' := Hid.mk (show goodW w = true by assumption)
      have htw' := Hid.mk (show tw = false by assumption)
      refine nextF_of (σ₁ := upd σ m (.mp (mput l w.key (.int .i64 i)))) (ws.length - (i + 1)) (by omega) (by (repeat (first | exact Sub.refl _ | (refine Sub.drop ?_ ?_; focus (simp only [evN, *]; done)) | refine Sub.both ?_)); done) ⟨i + 1, _, (mget l w.key).isSome, by omega, rfl, ?_, (by first | rfl | (simp only [↓putO_get, ↓putO_no, init_zero, init_succ, Nat.reduceEqDiff, ↓reduceIte, *]; done) | (simp only [↓putO_get, ↓putO_no, init_zero, init_succ, Nat.reduceEqDiff, ↓reduceIte, *]; rfl)), (by first | rfl | (simp only [↓putO_get, ↓putO_no, init_zero, init_succ, Nat.reduceEqDiff, ↓reduceIte, *]; done) | (simp only [↓putO_get, ↓putO_no, init_zero, init_succ, Nat.reduceEqDiff, ↓reduceIte, *]; rfl)), (by first | rfl | (simp only [↓putO_get, ↓putO_no, init_zero, init_succ, Nat.reduceEqDiff, ↓reduceIte, *]; done) | (simp only [↓putO_get, ↓putO_no, init_zero, init_succ, Nat.reduceEqDiff, ↓reduceIte, *]; rfl)), (by first | rfl | (simp only [↓putO_get, ↓putO_no, init_zero, init_succ, Nat.reduceEqDiff, ↓reduceIte, *]; done) | (simp only [↓putO_get, ↓putO_no, init_zero, init_succ, Nat.reduceEqDiff, ↓reduceIte, *]; rfl)), rfl, ?_⟩
      · show Value.int .i64 (IntKind.i64.wrap _) = _; rw [wi64 (by omega)]; rfl
      · rw [← HC.out]; conv => rhs; unfold chk
        rw [hg'.out, htw'.out]; rfl
  · have hd : decide ((i : Int) < (ws.length : Int)) = false := by simp; omega
    have hdrop : ws.drop i = [] := List.drop_eq_nil_of_le hge
    rw [hdrop] at hc
    have HC := Hid.mk hc
    clear hc hck
    cases tw
    all_goals simp +contextual -dsimp only [*, Wr.cells, ↓reduceIte, ↓evP, evQ, splice, Nat.reduceAdd, Nat.reduceEqDiff, Nat.reduceLeDiff, Nat.reduceMul, reduceCtorEq, Int.reduceLT, Int.reduceLE, Int.reduceGT, Int.reduceGE, Int.reduceEq, Int.reduceNeg]
    all_goals exact endF_det (by rw [← HC.out]; rfl) (Sub.drop hm (Sub.refl _))
theorem Wr.cells_len (w : Wr) : w.cells.length = 3 := rfl
theorem new44 (σ : Hp) : ACalls Tryz.prog 73 #[.int .i64 1] σ fun u σ' => ∃ m g, σ m = none ∧ σ g = none ∧ g ≠ m ∧ u = .pointer (some ⟨g, 0, none⟩) ∧ σ' = upd (upd σ m (.mp [])) g (.cells [.map (some m), .int .i64 1, .int .i64 0] 155) := by
  (refine acalls_F ok73 (by simp) ?_; unfold c73 r73)
  (repeat' (first | (simp +contextual -dsimp only [*, Wr.cells, ↓reduceIte, ↓evP, evQ, splice, Nat.reduceAdd, Nat.reduceEqDiff, Nat.reduceLeDiff, Nat.reduceMul, reduceCtorEq, Int.reduceLT, Int.reduceLE, Int.reduceGT, Int.reduceGE, Int.reduceEq, Int.reduceNeg]) | (refine condF_split (fun hc => ?_) (fun hc => ?_) <;> (try simp only [Bool.not_eq_true', Bool.not_eq_false', Bool.and_eq_true, Bool.or_eq_false_iff] at hc)) | (intro _; intros) | (refine And.intro ?_ ?_; focus (first | omega | ((repeat (first | exact Sub.refl _ | (refine Sub.drop ?_ ?_; focus (simp only [evN, *]; done)) | refine Sub.both ?_)); done) | (simp_all; done) | (simp_all; omega)))))
  rename_i m hm g n1 n2 hg
  exact endF_at ⟨m, g, hm, hg, n1, rfl, rfl⟩
theorem seg_add {cs xs ys : List Value} {o n m : Nat} (h1 : seg cs o n = some xs) (h2 : seg cs (o + n) m = some ys) : seg cs o (n + m) = some (xs ++ ys) := by
  unfold seg at *
  split at h1
  · split at h2
    · cases h1; cases h2
      rw [if_pos (by omega), List.take_add, List.drop_drop]
    · cases h2
  · cases h1
theorem rdn_add {σ : Hp} {b o n m : Nat} {xs ys : List Value} (h1 : rdn σ b o n = some xs) (h2 : rdn σ b (o + n) m = some ys) : rdn σ b o (n + m) = some (xs ++ ys) := by
  unfold rdn at *
  generalize σ b = q at *
  split at h1
  · exact seg_add h1 h2
  · exact seg_add h1 h2
  · exact seg_add h1 h2
  · cases h1
theorem ro_whole {α : Type} {sz : Nat} {f : α → List Value} {σ : Hp} {b : Nat} : ∀ (l : List α) (o : Nat), l ≠ [] → (∀ i x, l[i]? = some x → rdn σ b (o + i * sz) sz = some (f x)) → rdn σ b o (l.length * sz) = some (l.flatMap f)
  | [], _, h, _ => absurd rfl h
  | [x], o, _, h => by
    have := h 0 x rfl
    simpa using this
  | x :: y :: r, o, _, h => by
    have h0 := h 0 x rfl
    have ih := ro_whole (σ := σ) (b := b) (f := f) (sz := sz) (y :: r) (o + sz) (by simp) (fun i z hz => by
      have := h (i + 1) z (by simpa using hz)
      rw [show o + (i + 1) * sz = o + sz + i * sz by rw [Nat.add_mul]; omega] at this
      exact this)
    have h0 : rdn σ b o sz = some (f x) := by simpa using h0
    have := rdn_add h0 ih
    rw [show (x :: y :: r).length * sz = sz + (y :: r).length * sz by simp only [List.length_cons, Nat.add_mul]; omega]
    exact this
theorem chk_twice : ∀ (ws : List Wr) (i : Nat) (l : List (ByteArray × Value)), chk ws i l true ≠ 0
  | [], i, l => by show (22 : Int) ≠ 0; decide
  | w :: r, i, l => by
    unfold chk
    cases goodW w
    · show (1 : Int) ≠ 0; decide
    · exact chk_twice r _ _
theorem chk_zero {w : Wr} {r : List Wr} {i : Nat} {l : List (ByteArray × Value)} (h : chk (w :: r) i l false = 0) : mget l w.key = none ∧ chk r (i + 1) (mput l w.key (.int .i64 i)) false = 0 := by
  unfold chk at h
  cases hg : goodW w <;> rw [hg] at h
  · exact absurd h (by show (1 : Int) ≠ 0; decide)
  · have h : chk r (i + 1) (mput l w.key (.int .i64 i)) (false || (mget l w.key).isSome) = 0 := h
    cases hm : mget l w.key with
    | none => rw [hm] at h; exact ⟨rfl, h⟩
    | some x => rw [hm] at h; exact absurd h (chk_twice _ _ _)
theorem mget_mput (k k' : ByteArray) (v : Value) : ∀ (l : List (ByteArray × Value)), (mget (mput l k v) k').isSome = (decide (k' = k) || (mget l k').isSome)
  | [] => by by_cases h : k' = k <;> simp [mput, mget, h]
  | p :: r => by
    have ih := mget_mput k k' v r
    unfold mput
    by_cases h : k = p.1
    · rw [if_pos h]
      unfold mget
      by_cases h' : k' = k
      · rw [if_pos h', if_pos (h'.trans h)]; simp
      · rw [if_neg h', if_neg (fun e => h' (e.trans h.symm))]; simp [h']
    · rw [if_neg h]
      unfold mget
      by_cases h' : k' = p.1
      · rw [if_pos h', if_pos h']; simp
      · rw [if_neg h', if_neg h']; exact ih
theorem clone71n (σ : Hp) : ACalls Tryz.prog 97 #[.slice none 0 0] σ fun u σ' => u = .slice none 0 0 ∧ σ' = σ := by
  (refine acalls_F ok97 (by simp) ?_; unfold c97 r97)
  (repeat' (first | (simp +contextual -dsimp only [*, Wr.cells, ↓reduceIte, ↓evP, evQ, splice, Nat.reduceAdd, Nat.reduceEqDiff, Nat.reduceLeDiff, Nat.reduceMul, reduceCtorEq, Int.reduceLT, Int.reduceLE, Int.reduceGT, Int.reduceGE, Int.reduceEq, Int.reduceNeg]) | (refine condF_split (fun hc => ?_) (fun hc => ?_) <;> (try simp only [Bool.not_eq_true', Bool.not_eq_false', Bool.and_eq_true, Bool.or_eq_false_iff] at hc)) | (intro _; intros) | (refine And.intro ?_ ?_; focus (first | omega | ((repeat (first | exact Sub.refl _ | (refine Sub.drop ?_ ?_; focus (simp only [evN, *]; done)) | refine Sub.both ?_)); done) | (simp_all; done) | (simp_all; omega)))))
  all_goals (refine endF_det ?_ ?_; (focus ((try simp only [cond_true, cond_false, *]) <;> ((try simp only [decide_eq_true_eq, decide_eq_false_iff_not] at *) <;> first | rfl | (simp []; done) | (simp_all []; done) | (simp []; omega) | (simp []; (rw [Bool.eq_iff_iff]); simp; omega) | (simp_all [] <;> omega) | ((try unfold id); (rw [Value.bool.injEq, Bool.eq_iff_iff]); simp <;> omega) | ((try unfold id); (repeat' split) <;> simp_all <;> omega) | (simp_all [] <;> (repeat' split) <;> simp_all <;> omega)))); (focus ((try simp only [cond_true, cond_false, set_same, *]); exact (by (repeat (first | exact Sub.refl _ | (refine Sub.drop ?_ ?_; focus (simp only [evN, *]; done)) | refine Sub.both ?_)); done))))
set_option maxRecDepth 100000 in
theorem commit45 {σ : Hp} {m g : Nat} {v : Value} {ws : List Wr} (hm : σ m = none) (hg : σ g = none) (hne : ¬ g = m) (hv : RoRows 3 Wr.cells σ v ws) (hn : ws.length ≤ 140737488355328) :
    ACalls Tryz.prog 74 #[.pointer (some ⟨g, 0, none⟩), v] (upd (upd σ m (.mp [])) g (.cells [.map (some m), .int .i64 1, .int .i64 0] 155)) fun u σ' => u = .tuple #[.int .i64 (cond (decide (checkV ws = 0)) 1 0), .int .i64 (checkV ws)] ∧ σ' = σ := by
  have hne' : ¬ m = g := fun e => hne e.symm
  have hv1 := Hid.mk (hv.sub (σ' := upd (upd σ m (.mp [])) g (.cells [.map (some m), .int .i64 1, .int .i64 0] 155)) (by (repeat (first | exact Sub.refl _ | (refine Sub.drop ?_ ?_; focus (simp only [evN, *]; done)) | refine Sub.both ?_)); done))
  obtain ⟨A, c, rfl, hrow⟩ := hv
  have H := Hid.mk hrow
  clear hrow
  (refine acalls_F ok74 (by simp) ?_; unfold c74 r74)
  (repeat' (first | (simp +contextual -dsimp only [*, Wr.cells, ↓reduceIte, ↓evP, evQ, splice, Nat.reduceAdd, Nat.reduceEqDiff, Nat.reduceLeDiff, Nat.reduceMul, reduceCtorEq, Int.reduceLT, Int.reduceLE, Int.reduceGT, Int.reduceGE, Int.reduceEq, Int.reduceNeg]) | (refine condF_split (fun hc => ?_) (fun hc => ?_) <;> (try simp only [Bool.not_eq_true', Bool.not_eq_false', Bool.and_eq_true, Bool.or_eq_false_iff] at hc)) | refine callF_v (check70 hv1.out hn) ?_ | refine ccallF_of (check70 hv1.out hn) ?_ | refine gcallF_of (check70 hv1.out hn) ?_ | (intro _; intros) | (refine And.intro ?_ ?_; focus (first | omega | ((repeat (first | exact Sub.refl _ | (refine Sub.drop ?_ ?_; focus (simp only [evN, *]; done)) | refine Sub.both ?_)); done) | (simp_all; done) | (simp_all; omega)))))
  · exact endF_det (by rw [hc]; rfl) (by (repeat (first | exact Sub.refl _ | (refine Sub.drop ?_ ?_; focus (simp only [evN, *]; done)) | refine Sub.both ?_)); done)
  have hz : chk ws 0 [] false = 0 := by
    have h0 : checkV ws = 0 := of_decide_eq_true hc
    unfold checkV at h0
    cases he : (decide ((ws.length : Int) = 0) || decide ((ws.length : Int) > 8)) <;> rw [he] at h0
    · exact h0
    · exact absurd h0 (by show (1 : Int) ≠ 0; decide)
  have hck := Hid.mk hc
  clear hc
  refine loopF_of (fun k s σ' => ∃ (i : Nat) (l l' : List (ByteArray × Value)), i ≤ ws.length ∧ k = ws.length - i ∧ s 32 = .int .i64 i ∧ s 31 = .int .i64 ws.length ∧ s 30 = .slice A ws.length c ∧ s 0 = .pointer (some ⟨g, 0, none⟩) ∧ σ' = upd (upd σ m (.mp l')) g (.cells [.map (some m), .int .i64 1, .int .i64 1] 155) ∧
    chk (ws.drop i) i l false = 0 ∧ ∀ k, (mget l k).isSome = (mget l' k).isSome) ws.length (Sub.refl _) ⟨0, [], [], by omega, rfl, (by first | rfl | (simp only [↓putO_get, ↓putO_no, init_zero, init_succ, Nat.reduceEqDiff, ↓reduceIte, *]; done) | (simp only [↓putO_get, ↓putO_no, init_zero, init_succ, Nat.reduceEqDiff, ↓reduceIte, *]; rfl)), (by first | rfl | (simp only [↓putO_get, ↓putO_no, init_zero, init_succ, Nat.reduceEqDiff, ↓reduceIte, *]; done) | (simp only [↓putO_get, ↓putO_no, init_zero, init_succ, Nat.reduceEqDiff, ↓reduceIte, *]; rfl)), (by first | rfl | (simp only [↓putO_get, ↓putO_no, init_zero, init_succ, Nat.reduceEqDiff, ↓reduceIte, *]; done) | (simp only [↓putO_get, ↓putO_no, init_zero, init_succ, Nat.reduceEqDiff, ↓reduceIte, *]; rfl)), (by first | rfl | (simp only [↓putO_get, ↓putO_no, init_zero, init_succ, Nat.reduceEqDiff, ↓reduceIte, *]; done) | (simp only [↓putO_get, ↓putO_no, init_zero, init_succ, Nat.reduceEqDiff, ↓reduceIte, *]; rfl)), rfl, hz, fun k => rfl⟩ ?_
  clear hz hv1
  rintro k s σ' ⟨i, l, l', hi, hk, h32, h31, h30, h0, rfl, hz, hll⟩
  rcases Nat.lt_or_ge i ws.length with hlt | hge
  · obtain ⟨w, ho⟩ : ∃ w, ws[i]? = some w := ⟨_, List.getElem?_eq_getElem hlt⟩
    obtain ⟨b, off, rfl, hrd⟩ := H.out i w ho
    have hrd := rdn_sub (σ := upd (upd σ m (.mp l')) g (.cells [.map (some m), .int .i64 1, .int .i64 1] 155)) (by (repeat (first | exact Sub.refl _ | (refine Sub.drop ?_ ?_; focus (simp only [evN, *]; done)) | refine Sub.both ?_)); done) hrd
    have hd : decide ((i : Int) < (ws.length : Int)) = true := by simp; omega
    have hdrop : ws.drop i = w :: ws.drop (i + 1) := by
      rw [List.drop_eq_getElem_cons hlt]
      rw [List.getElem?_eq_getElem hlt] at ho
      cases ho; rfl
    rw [hdrop] at hz
    obtain ⟨hnone, hz'⟩ := chk_zero hz
    have hnone' : mget l' w.key = none := by
      have := hll w.key
      rw [hnone] at this
      cases h : mget l' w.key with
      | none => rfl
      | some x => rw [h] at this; cases this
    have HZ := Hid.mk hz'
    have HL := Hid.mk hll
    clear ho hz hz' hdrop H hnone hll
    (repeat' (first | (simp +contextual -dsimp only [*, Wr.cells, ↓reduceIte, ↓evP, evQ, splice, Nat.reduceAdd, Nat.reduceEqDiff, Nat.reduceLeDiff, Nat.reduceMul, reduceCtorEq, Int.reduceLT, Int.reduceLE, Int.reduceGT, Int.reduceGE, Int.reduceEq, Int.reduceNeg]) | (refine condF_split (fun hc => ?_) (fun hc => ?_) <;> (try simp only [Bool.not_eq_true', Bool.not_eq_false', Bool.and_eq_true, Bool.or_eq_false_iff] at hc)) | refine callF_v (clone71n _) ?_ | refine ccallF_of (clone71n _) ?_ | refine gcallF_of (clone71n _) ?_ | (intro _; intros) | (refine And.intro ?_ ?_; focus (first | omega | ((repeat (first | exact Sub.refl _ | (refine Sub.drop ?_ ?_; focus (simp only [evN, *]; done)) | refine Sub.both ?_)); done) | (simp_all; done) | (simp_all; omega)))))
    refine app_n (by first | (simp only [Nat.reduceMul, Nat.one_mul, Nat.zero_mul, rdn_row, rdn_same, rdn_ne, seg_zero, seg_cons, seg_skip, Option.map_some, not_false_eq_true, *]; done) | (simp only [Nat.reduceMul, Nat.one_mul, Nat.zero_mul, rdn_row, rdn_same, rdn_ne, seg_zero, seg_cons, seg_skip, Option.map_some, not_false_eq_true, *]; exact rfl)) rfl (by omega) (by omega) (by unfold maxLen; omega) ?_
    (repeat' (first | (simp +contextual -dsimp only [*, Wr.cells, ↓reduceIte, ↓evP, evQ, splice, Nat.reduceAdd, Nat.reduceEqDiff, Nat.reduceLeDiff, Nat.reduceMul, reduceCtorEq, Int.reduceLT, Int.reduceLE, Int.reduceGT, Int.reduceGE, Int.reduceEq, Int.reduceNeg]) | (refine condF_split (fun hc => ?_) (fun hc => ?_) <;> (try simp only [Bool.not_eq_true', Bool.not_eq_false', Bool.and_eq_true, Bool.or_eq_false_iff] at hc)) | (intro _; intros) | (refine And.intro ?_ ?_; focus (first | omega | ((repeat (first | exact Sub.refl _ | (refine Sub.drop ?_ ?_; focus (simp only [evN, *]; done)) | refine Sub.both ?_)); done) | (simp_all; done) | (simp_all; omega)))))
    rename_i b' c' x1 x2 x3 x4 x5 x6 x7 x8 x9 x10 x11 x12
    refine nextF_of (σ₁ := upd (upd σ m (.mp (mput l' w.key (.agg #[.slice (some ⟨b', 0, none⟩) 1 c', .bool false])))) g (.cells [.map (some m), .int .i64 1, .int .i64 1] 155)) (ws.length - (i + 1)) (by omega) (by (repeat (first | exact Sub.refl _ | (refine Sub.drop ?_ ?_; focus (simp only [evN, *]; done)) | refine Sub.both ?_)); done) ⟨i + 1, _, _, by omega, rfl, ?_, (by first | rfl | (simp only [↓putO_get, ↓putO_no, init_zero, init_succ, Nat.reduceEqDiff, ↓reduceIte, *]; done) | (simp only [↓putO_get, ↓putO_no, init_zero, init_succ, Nat.reduceEqDiff, ↓reduceIte, *]; rfl)), (by first | rfl | (simp only [↓putO_get, ↓putO_no, init_zero, init_succ, Nat.reduceEqDiff, ↓reduceIte, *]; done) | (simp only [↓putO_get, ↓putO_no, init_zero, init_succ, Nat.reduceEqDiff, ↓reduceIte, *]; rfl)), (by first | rfl | (simp only [↓putO_get, ↓putO_no, init_zero, init_succ, Nat.reduceEqDiff, ↓reduceIte, *]; done) | (simp only [↓putO_get, ↓putO_no, init_zero, init_succ, Nat.reduceEqDiff, ↓reduceIte, *]; rfl)), rfl, HZ.out, ?_⟩
    · show Value.int .i64 (IntKind.i64.wrap _) = _; rw [wi64 (by omega)]; rfl
    · intro k; rw [mget_mput, mget_mput, HL.out]
  · have hd : decide ((i : Int) < (ws.length : Int)) = false := by simp; omega
    clear hz hll
    simp +contextual -dsimp only [*, Wr.cells, ↓reduceIte, ↓evP, evQ, splice, Nat.reduceAdd, Nat.reduceEqDiff, Nat.reduceLeDiff, Nat.reduceMul, reduceCtorEq, Int.reduceLT, Int.reduceLE, Int.reduceGT, Int.reduceGE, Int.reduceEq, Int.reduceNeg]
    exact endF_det (by rw [hck.out]; first | rfl | simp [of_decide_eq_true hck.out]) (by (repeat (first | exact Sub.refl _ | (refine Sub.drop ?_ ?_; focus (simp only [evN, *]; done)) | refine Sub.both ?_)); done)
theorem wr_one : ∀ (l : List Wr), (l.flatMap Wr.cells).all one = true
  | [] => rfl
  | w :: r => by rw [List.flatMap_cons, List.all_append, wr_one r]; rfl
theorem clone46 {σ : Hp} {v : Value} {ws : List Wr} (hr : RowsAt 52 3 Wr.cells σ v ws) (hn : ws.length * 40 ≤ 140737488355328) :
    ACalls Tryz.prog 72 #[v] σ fun u σ' => RowsAt 52 3 Wr.cells σ' u ws ∧ Made σ σ' u := by
  rcases hr with ⟨rfl, hnil⟩ | ⟨b, c, rfl, hcap, hb⟩
  · (refine acalls_F ok72 (by simp) ?_; unfold c72 r72; simp +contextual -dsimp only [Wr.cells, ↓reduceIte, ↓evP, evQ, splice, Nat.reduceAdd, Nat.reduceEqDiff, Nat.reduceLeDiff, Nat.reduceMul, reduceCtorEq, Int.reduceLT, Int.reduceLE, Int.reduceGT, Int.reduceGE, Int.reduceEq, Int.reduceNeg])
    exact endF_at ⟨.inl ⟨rfl, hnil⟩, Same.refl _ _, fun k hk => by cases hk⟩
  · have hsg : seg (ws.flatMap Wr.cells) 0 (ws.length * 3) = some (ws.flatMap Wr.cells) := by rw [← flat_len Wr.cells_len]; exact seg_all _
    have hone : (ws.flatMap Wr.cells).all one = true := wr_one _
    obtain ⟨τ, rfl⟩ := open_upd hb
    clear hb
    (refine acalls_F ok72 (by simp) ?_; unfold c72 r72)
    (repeat' (first | (simp +contextual -dsimp only [*, Wr.cells, ↓reduceIte, ↓evP, evQ, splice, Nat.reduceAdd, Nat.reduceEqDiff, Nat.reduceLeDiff, Nat.reduceMul, reduceCtorEq, Int.reduceLT, Int.reduceLE, Int.reduceGT, Int.reduceGE, Int.reduceEq, Int.reduceNeg]) | (refine condF_split (fun hc => ?_) (fun hc => ?_) <;> (try simp only [Bool.not_eq_true', Bool.not_eq_false', Bool.and_eq_true, Bool.or_eq_false_iff] at hc)) | (intro _; intros) | (refine And.intro ?_ ?_; focus (first | omega | ((repeat (first | exact Sub.refl _ | (refine Sub.drop ?_ ?_; focus (simp only [evN, *]; done)) | refine Sub.both ?_)); done) | (simp_all; done) | (simp_all; omega)))))
    refine app_b (by first | (simp only [Nat.reduceMul, Nat.one_mul, Nat.zero_mul, rdn_row, rdn_same, rdn_ne, seg_zero, seg_cons, seg_skip, Option.map_some, not_false_eq_true, *]; done) | (simp only [Nat.reduceMul, Nat.one_mul, Nat.zero_mul, rdn_row, rdn_same, rdn_ne, seg_zero, seg_cons, seg_skip, Option.map_some, not_false_eq_true, *]; exact rfl)) hone (by first | (simp only [upd_at, *, ↓reduceIte]; done) | (simp only [upd_at, *, ↓reduceIte]; rfl)) rfl (by omega) (by omega) (by unfold maxLen; omega) ?_ ?_
    all_goals (repeat' (first | (simp +contextual -dsimp only [*, Wr.cells, ↓reduceIte, ↓evP, evQ, splice, Nat.reduceAdd, Nat.reduceEqDiff, Nat.reduceLeDiff, Nat.reduceMul, reduceCtorEq, Int.reduceLT, Int.reduceLE, Int.reduceGT, Int.reduceGE, Int.reduceEq, Int.reduceNeg]) | (refine condF_split (fun hc => ?_) (fun hc => ?_) <;> (try simp only [Bool.not_eq_true', Bool.not_eq_false', Bool.and_eq_true, Bool.or_eq_false_iff] at hc)) | (intro _; intros) | (refine And.intro ?_ ?_; focus (first | omega | ((repeat (first | exact Sub.refl _ | (refine Sub.drop ?_ ?_; focus (simp only [evN, *]; done)) | refine Sub.both ?_)); done) | (simp_all; done) | (simp_all; omega)))))
    all_goals (refine endF_at ⟨?_, ?_, ?_⟩; (focus exact rows_mk (by simp) (by omega) (by first | (simp only [upd_at, *, ↓reduceIte, List.nil_append]; done) | (simp only [upd_at, *, ↓reduceIte, List.nil_append]; rfl))); (focus exact (by repeat (first | exact Same.refl _ _ | (refine Same.updNew ?_ ?_; focus (simp only [evN, *]; done)) | (refine Same.both ?_ ?_; focus (first | exact rfl | exact .inl rfl | exact .inr rfl)) | (refine Same.updIn ?_ ?_; focus (first | exact rfl | exact .inl rfl | exact .inr rfl)) | refine Same.eq ?_))); (focus (intro k hk; cases hk; exact (by simp only [evN, *]; done))))
theorem clone46ro {σ : Hp} {v : Value} {ws : List Wr} (hv : RoRows 3 Wr.cells σ v ws) (h0 : ws ≠ []) (hn : ws.length * 40 ≤ 140737488355328) :
    ACalls Tryz.prog 72 #[v] σ fun u σ' => RowsAt 52 3 Wr.cells σ' u ws ∧ Made σ σ' u := by
  obtain ⟨A, c, rfl, hrow⟩ := hv
  obtain ⟨b, off, rfl, _⟩ := hrow 0 (ws[0]'(List.length_pos_iff.2 h0)) (List.getElem?_eq_getElem _)
  have hrd : rdn σ b off (ws.length * 3) = some (ws.flatMap Wr.cells) := ro_whole ws off h0 fun i x hx => by
    obtain ⟨b', o', e, h⟩ := hrow i x hx
    cases e; exact h
  have hone : (ws.flatMap Wr.cells).all one = true := wr_one _
  clear hrow
  (refine acalls_F ok72 (by simp) ?_; unfold c72 r72)
  (repeat' (first | (simp +contextual -dsimp only [*, Wr.cells, ↓reduceIte, ↓evP, evQ, splice, Nat.reduceAdd, Nat.reduceEqDiff, Nat.reduceLeDiff, Nat.reduceMul, reduceCtorEq, Int.reduceLT, Int.reduceLE, Int.reduceGT, Int.reduceGE, Int.reduceEq, Int.reduceNeg]) | (refine condF_split (fun hc => ?_) (fun hc => ?_) <;> (try simp only [Bool.not_eq_true', Bool.not_eq_false', Bool.and_eq_true, Bool.or_eq_false_iff] at hc)) | (intro _; intros) | (refine And.intro ?_ ?_; focus (first | omega | ((repeat (first | exact Sub.refl _ | (refine Sub.drop ?_ ?_; focus (simp only [evN, *]; done)) | refine Sub.both ?_)); done) | (simp_all; done) | (simp_all; omega)))))
  rename_i b2 hb2
  refine app_b (rdn_sub (Sub.drop hb2 (Sub.refl _)) hrd) hone (by first | (simp only [upd_at, *, ↓reduceIte]; done) | (simp only [upd_at, *, ↓reduceIte]; rfl)) rfl (by omega) (by omega) (by unfold maxLen; omega) ?_ ?_
  all_goals (repeat' (first | (simp +contextual -dsimp only [*, Wr.cells, ↓reduceIte, ↓evP, evQ, splice, Nat.reduceAdd, Nat.reduceEqDiff, Nat.reduceLeDiff, Nat.reduceMul, reduceCtorEq, Int.reduceLT, Int.reduceLE, Int.reduceGT, Int.reduceGE, Int.reduceEq, Int.reduceNeg]) | (refine condF_split (fun hc => ?_) (fun hc => ?_) <;> (try simp only [Bool.not_eq_true', Bool.not_eq_false', Bool.and_eq_true, Bool.or_eq_false_iff] at hc)) | (intro _; intros) | (refine And.intro ?_ ?_; focus (first | omega | ((repeat (first | exact Sub.refl _ | (refine Sub.drop ?_ ?_; focus (simp only [evN, *]; done)) | refine Sub.both ?_)); done) | (simp_all; done) | (simp_all; omega)))))
  all_goals (refine endF_at ⟨?_, ?_, ?_⟩; (focus exact rows_mk (by simp) (by omega) (by first | (simp only [upd_at, *, ↓reduceIte, List.nil_append]; done) | (simp only [upd_at, *, ↓reduceIte, List.nil_append]; rfl))); (focus exact (by repeat (first | exact Same.refl _ _ | (refine Same.updNew ?_ ?_; focus (simp only [evN, *]; done)) | (refine Same.both ?_ ?_; focus (first | exact rfl | exact .inl rfl | exact .inr rfl)) | (refine Same.updIn ?_ ?_; focus (first | exact rfl | exact .inl rfl | exact .inr rfl)) | refine Same.eq ?_))); (focus (intro k hk; cases hk; exact (by simp only [evN, *]; done))))
def SesS.msg (S : SesS) (v : Value) : List Value := [.int .i64 1, .int .i64 0, .int .i64 0, .int .i64 S.id, .int .i64 0, .int .i64 S.seq, .string ⟨#[]⟩, .int .i64 0, .int .i64 0, .bool false, .string ⟨#[]⟩, .bool false, .int .i64 0, .int .i64 0, v, .slice none 0 0]
theorem message47 {σ : Hp} {g : Nat} {S : SesS} {v : Value} {ws : List Wr} (hg : σ g = some (.cells (S.cells v) 130)) (hr : RowsAt 52 3 Wr.cells σ v ws) (hn : ws.length * 40 ≤ 140737488355328) :
    ACalls Tryz.prog 75 #[.pointer (some ⟨g, 0, none⟩)] σ fun u σ' => ∃ v', u = .agg (S.msg v').toArray ∧ RowsAt 52 3 Wr.cells σ' v' ws ∧ Made σ σ' v' := by
  obtain ⟨a, c, rfl⟩ := hr.slice
  unfold SesS.cells at hg
  obtain ⟨τ, rfl⟩ := open_upd hg
  clear hg
  have H : Hid (RowsAt 52 3 Wr.cells _ _ _) := ⟨hr⟩
  clear hr
  (refine acalls_F ok75 (by simp) ?_; unfold c75 r75)
  (repeat' (first | (simp +contextual -dsimp only [*, SesS.cells, SesS.view, Wr.cells, SesS.msg, ↓reduceIte, ↓evP, evQ, splice, Nat.reduceAdd, Nat.reduceEqDiff, Nat.reduceLeDiff, Nat.reduceMul, reduceCtorEq, Int.reduceLT, Int.reduceLE, Int.reduceGT, Int.reduceGE, Int.reduceEq, Int.reduceNeg]) | (refine condF_split (fun hc => ?_) (fun hc => ?_) <;> (try simp only [Bool.not_eq_true', Bool.not_eq_false', Bool.and_eq_true, Bool.or_eq_false_iff] at hc)) | (intro _; intros) | (refine And.intro ?_ ?_; focus (first | omega | ((repeat (first | exact Sub.refl _ | (refine Sub.drop ?_ ?_; focus (simp only [evN, *]; done)) | refine Sub.both ?_)); done) | (simp_all; done) | (simp_all; omega)))))
  refine gcallF_first (ACalls.beside ?_ (clone46 H.out hn)) ?_ ?_
  · (simp only [evN, *]; done)
  · rintro u s3 ⟨q0, ⟨_, hM⟩, _, rfl⟩
    exact Sub.both hM.sub
  rintro u σ'' ⟨σ1, ⟨hR, hM⟩, hn1, rfl⟩
  obtain ⟨a', c', rfl⟩ := hR.slice
  have H2 : Hid (RowsAt 52 3 Wr.cells _ _ _ ∧ Made _ _ _) := ⟨hR, hM⟩
  clear hR hM
  (repeat' (first | (simp +contextual -dsimp only [*, SesS.cells, SesS.view, Wr.cells, SesS.msg, ↓reduceIte, ↓evP, evQ, splice, Nat.reduceAdd, Nat.reduceEqDiff, Nat.reduceLeDiff, Nat.reduceMul, reduceCtorEq, Int.reduceLT, Int.reduceLE, Int.reduceGT, Int.reduceGE, Int.reduceEq, Int.reduceNeg]) | (refine condF_split (fun hc => ?_) (fun hc => ?_) <;> (try simp only [Bool.not_eq_true', Bool.not_eq_false', Bool.and_eq_true, Bool.or_eq_false_iff] at hc)) | (intro _; intros) | (refine And.intro ?_ ?_; focus (first | omega | ((repeat (first | exact Sub.refl _ | (refine Sub.drop ?_ ?_; focus (simp only [evN, *]; done)) | refine Sub.both ?_)); done) | (simp_all; done) | (simp_all; omega)))))
  refine endF_sub (τ := σ1) ?_ ⟨.slice a' ws.length c', rfl, H2.out.1, H2.out.2⟩
  (repeat (first | exact Sub.refl _ | (refine Sub.drop ?_ ?_; focus (simp only [evN, *]; done)) | refine Sub.both ?_)); done
structure Msg where
  kind : Int := 0
  node : Int := 0
  inc : Int := 0
  session : Int := 0
  tx : Int := 0
  seq : Int := 0
  key : ByteArray := ⟨#[]⟩
  lo : Int := 0
  hi : Int := 0
  has : Bool := false
  data : ByteArray := ⟨#[]⟩
  hit : Bool := false
  err : Int := 0
  n : Int := 0
  writes : Value := .slice none 0 0
  keys : Value := .slice none 0 0
def Msg.cells (m : Msg) : List Value := [.int .i64 m.kind, .int .i64 m.node, .int .i64 m.inc, .int .i64 m.session, .int .i64 m.tx, .int .i64 m.seq, .string m.key, .int .i64 m.lo, .int .i64 m.hi, .bool m.has, .string m.data, .bool m.hit, .int .i64 m.err, .int .i64 m.n, m.writes, m.keys]
def SesS.hears (S : SesS) (m : Msg) : Bool := S.busy && decide (m.kind = 2) && decide (m.session = S.id) && decide (m.seq = S.seq)
def SesS.acked (S : SesS) (m : Msg) : SesS := cond (decide (m.err = 0)) (({ S.ended m.err with last := m.n } : SesS).raise m.n) (S.ended m.err)
set_option maxRecDepth 100000 in
theorem ack25 {σ : Hp} {g : Nat} {S : SesS} {v : Value} (hg : σ g = some (.cells (S.cells v) 130)) (m : Msg) : ACalls Tryz.prog 40 #[.pointer (some ⟨g, 0, none⟩), .agg m.cells.toArray] σ fun u σ' => u = .bool (S.hears m) ∧ σ' = cond (S.hears m) (set σ g (.cells ((S.acked m).cells (.slice none 0 0)) 130)) σ := by
  (unfold SesS.cells at hg; obtain ⟨τ, rfl⟩ := open_upd hg; clear hg)
  (refine acalls_F ok40 (by simp) ?_; unfold c40 r40)
  (repeat' (first | (simp +contextual -dsimp only [*, SesS.cells, SesS.view, Wr.cells, SesS.msg, Msg.cells, ↓reduceIte, ↓evP, evQ, splice, Nat.reduceAdd, Nat.reduceEqDiff, Nat.reduceLeDiff, Nat.reduceMul, reduceCtorEq, Int.reduceLT, Int.reduceLE, Int.reduceGT, Int.reduceGE, Int.reduceEq, Int.reduceNeg]) | (refine condF_split (fun hc => ?_) (fun hc => ?_) <;> (try simp only [Bool.not_eq_true', Bool.not_eq_false', Bool.and_eq_true, Bool.or_eq_false_iff] at hc)) | refine callF_v (end48 (S := { S with busy := true }) (v := v) (by first | rfl | (simp only [upd_same, upd_at, set_at, *, ↓reduceIte]; done) | (simp only [upd_same, upd_at, set_at, *, ↓reduceIte]; rfl)) m.err) ?_ | refine callF_v (raise23 (S := { S.ended m.err with last := m.n }) (v := .slice none 0 0) (by first | rfl | (simp only [upd_same, upd_at, set_at, *, ↓reduceIte]; done) | (simp only [upd_same, upd_at, set_at, *, ↓reduceIte]; rfl)) m.n) ?_ | refine ccallF_of (end48 (S := { S with busy := true }) (v := v) (by first | rfl | (simp only [upd_same, upd_at, set_at, *, ↓reduceIte]; done) | (simp only [upd_same, upd_at, set_at, *, ↓reduceIte]; rfl)) m.err) ?_ | refine ccallF_of (raise23 (S := { S.ended m.err with last := m.n }) (v := .slice none 0 0) (by first | rfl | (simp only [upd_same, upd_at, set_at, *, ↓reduceIte]; done) | (simp only [upd_same, upd_at, set_at, *, ↓reduceIte]; rfl)) m.n) ?_ | refine gcallF_of (end48 (S := { S with busy := true }) (v := v) (by first | rfl | (simp only [upd_same, upd_at, set_at, *, ↓reduceIte]; done) | (simp only [upd_same, upd_at, set_at, *, ↓reduceIte]; rfl)) m.err) ?_ | refine gcallF_of (raise23 (S := { S.ended m.err with last := m.n }) (v := .slice none 0 0) (by first | rfl | (simp only [upd_same, upd_at, set_at, *, ↓reduceIte]; done) | (simp only [upd_same, upd_at, set_at, *, ↓reduceIte]; rfl)) m.n) ?_ | (intro _; intros) | (refine And.intro ?_ ?_; focus (first | omega | ((repeat (first | exact Sub.refl _ | (refine Sub.drop ?_ ?_; focus (simp only [evN, *]; done)) | refine Sub.both ?_)); done) | (simp_all; done) | (simp_all; omega)))))
  all_goals (refine endF_det ?_ ?_; (focus ((try simp only [SesS.hears, SesS.acked, SesS.ended, SesS.raise, Bool.true_and, Bool.false_and, Bool.and_true, Bool.and_false, cond_true, cond_false, *]) <;> ((try simp only [decide_eq_true_eq, decide_eq_false_iff_not] at *) <;> first | rfl | (simp [SesS.hears, SesS.acked, SesS.ended, SesS.raise, Bool.true_and, Bool.false_and, Bool.and_true, Bool.and_false]; done) | (simp_all [SesS.hears, SesS.acked, SesS.ended, SesS.raise, Bool.true_and, Bool.false_and, Bool.and_true, Bool.and_false]; done) | (simp [SesS.hears, SesS.acked, SesS.ended, SesS.raise, Bool.true_and, Bool.false_and, Bool.and_true, Bool.and_false]; omega) | (simp [SesS.hears, SesS.acked, SesS.ended, SesS.raise, Bool.true_and, Bool.false_and, Bool.and_true, Bool.and_false]; (rw [Bool.eq_iff_iff]); simp; omega) | (simp_all [SesS.hears, SesS.acked, SesS.ended, SesS.raise, Bool.true_and, Bool.false_and, Bool.and_true, Bool.and_false] <;> omega) | ((try unfold SesS.hears  SesS.acked  SesS.ended  SesS.raise  Bool.true_and  Bool.false_and  Bool.and_true  Bool.and_false); (rw [Value.bool.injEq, Bool.eq_iff_iff]); simp <;> omega) | ((try unfold SesS.hears  SesS.acked  SesS.ended  SesS.raise  Bool.true_and  Bool.false_and  Bool.and_true  Bool.and_false); (repeat' split) <;> simp_all <;> omega) | (simp_all [SesS.hears, SesS.acked, SesS.ended, SesS.raise, Bool.true_and, Bool.false_and, Bool.and_true, Bool.and_false] <;> (repeat' split) <;> simp_all <;> omega)))); (focus ((try simp only [SesS.hears, SesS.acked, SesS.ended, SesS.raise, Bool.true_and, Bool.false_and, Bool.and_true, Bool.and_false, cond_true, cond_false, set_same, *]); exact (by (repeat (first | exact Sub.refl _ | (refine Sub.drop ?_ ?_; focus (simp only [evN, *]; done)) | refine Sub.both ?_)); done))))
def noMsg : List Value := ({} : Msg).cells
set_option maxRecDepth 100000 in
theorem again17a {σ : Hp} {g : Nat} {S : SesS} {v : Value} (hg : σ g = some (.cells (S.cells v) 130)) (r : Int) (h : S.busy = false) : ACalls Tryz.prog 90 #[.pointer (some ⟨g, 0, none⟩), .int .i64 r] σ fun u σ' => u = .tuple #[.agg noMsg.toArray, .int .i64 3] ∧ σ' = σ := by
  (unfold SesS.cells at hg; obtain ⟨τ, rfl⟩ := open_upd hg; clear hg)
  have hh := Hid.mk h
  clear h
  (refine acalls_F ok90 (by simp) ?_; unfold c90 r90)
  (repeat' (first | (simp +contextual -dsimp only [*, SesS.cells, SesS.view, Wr.cells, SesS.msg, Msg.cells, Bool.not_false, Bool.not_true, ↓reduceIte, ↓evP, evQ, splice, Nat.reduceAdd, Nat.reduceEqDiff, Nat.reduceLeDiff, Nat.reduceMul, reduceCtorEq, Int.reduceLT, Int.reduceLE, Int.reduceGT, Int.reduceGE, Int.reduceEq, Int.reduceNeg]) | (refine condF_split (fun hc => ?_) (fun hc => ?_) <;> (try simp only [Bool.not_eq_true', Bool.not_eq_false', Bool.and_eq_true, Bool.or_eq_false_iff] at hc)) | (intro _; intros) | (refine And.intro ?_ ?_; focus (first | omega | ((repeat (first | exact Sub.refl _ | (refine Sub.drop ?_ ?_; focus (simp only [evN, *]; done)) | refine Sub.both ?_)); done) | (simp_all; done) | (simp_all; omega)))))
  all_goals try (exact absurd (hh.out.symm.trans ‹S.busy = true›) (by simp))
  all_goals (refine endF_det ?_ ?_; (focus ((try simp only [noMsg, cond_true, cond_false, *]) <;> ((try simp only [decide_eq_true_eq, decide_eq_false_iff_not] at *) <;> first | rfl | (simp [noMsg]; done) | (simp_all [noMsg]; done) | (simp [noMsg]; omega) | (simp [noMsg]; (rw [Bool.eq_iff_iff]); simp; omega) | (simp_all [noMsg] <;> omega) | ((try unfold noMsg); (rw [Value.bool.injEq, Bool.eq_iff_iff]); simp <;> omega) | ((try unfold noMsg); (repeat' split) <;> simp_all <;> omega) | (simp_all [noMsg] <;> (repeat' split) <;> simp_all <;> omega)))); (focus ((try simp only [noMsg, cond_true, cond_false, set_same, *]); exact (by (repeat (first | exact Sub.refl _ | (refine Sub.drop ?_ ?_; focus (simp only [evN, *]; done)) | refine Sub.both ?_)); done))))
set_option maxRecDepth 100000 in
theorem again17b {σ : Hp} {g : Nat} {S : SesS} {v : Value} (hg : σ g = some (.cells (S.cells v) 130)) (r : Int) (h : S.busy = true) (hr : decide (S.tries ≥ r) = true) : ACalls Tryz.prog 90 #[.pointer (some ⟨g, 0, none⟩), .int .i64 r] σ fun u σ' => u = .tuple #[.agg noMsg.toArray, .int .i64 41] ∧ σ' = set σ g (.cells ((S.ended 41).cells (.slice none 0 0)) 130) := by
  (unfold SesS.cells at hg; obtain ⟨τ, rfl⟩ := open_upd hg; clear hg)
  have hh := Hid.mk h
  clear h
  (refine acalls_F ok90 (by simp) ?_; unfold c90 r90)
  (repeat' (first | (simp +contextual -dsimp only [*, SesS.cells, SesS.view, Wr.cells, SesS.msg, Msg.cells, Bool.not_false, Bool.not_true, ↓reduceIte, ↓evP, evQ, splice, Nat.reduceAdd, Nat.reduceEqDiff, Nat.reduceLeDiff, Nat.reduceMul, reduceCtorEq, Int.reduceLT, Int.reduceLE, Int.reduceGT, Int.reduceGE, Int.reduceEq, Int.reduceNeg]) | (refine condF_split (fun hc => ?_) (fun hc => ?_) <;> (try simp only [Bool.not_eq_true', Bool.not_eq_false', Bool.and_eq_true, Bool.or_eq_false_iff] at hc)) | refine callF_v (end48 (S := { S with busy := true }) (v := v) (by first | rfl | (simp only [upd_same, upd_at, set_at, *, ↓reduceIte]; done) | (simp only [upd_same, upd_at, set_at, *, ↓reduceIte]; rfl)) 41) ?_ | refine ccallF_of (end48 (S := { S with busy := true }) (v := v) (by first | rfl | (simp only [upd_same, upd_at, set_at, *, ↓reduceIte]; done) | (simp only [upd_same, upd_at, set_at, *, ↓reduceIte]; rfl)) 41) ?_ | refine gcallF_of (end48 (S := { S with busy := true }) (v := v) (by first | rfl | (simp only [upd_same, upd_at, set_at, *, ↓reduceIte]; done) | (simp only [upd_same, upd_at, set_at, *, ↓reduceIte]; rfl)) 41) ?_ | (intro _; intros) | (refine And.intro ?_ ?_; focus (first | omega | ((repeat (first | exact Sub.refl _ | (refine Sub.drop ?_ ?_; focus (simp only [evN, *]; done)) | refine Sub.both ?_)); done) | (simp_all; done) | (simp_all; omega)))))
  all_goals try (exact absurd (hh.out.symm.trans ‹S.busy = false›) (by simp))
  all_goals (refine endF_det ?_ ?_; (focus ((try simp only [noMsg, SesS.ended, cond_true, cond_false, *]) <;> ((try simp only [decide_eq_true_eq, decide_eq_false_iff_not] at *) <;> first | rfl | (simp [noMsg, SesS.ended]; done) | (simp_all [noMsg, SesS.ended]; done) | (simp [noMsg, SesS.ended]; omega) | (simp [noMsg, SesS.ended]; (rw [Bool.eq_iff_iff]); simp; omega) | (simp_all [noMsg, SesS.ended] <;> omega) | ((try unfold noMsg  SesS.ended); (rw [Value.bool.injEq, Bool.eq_iff_iff]); simp <;> omega) | ((try unfold noMsg  SesS.ended); (repeat' split) <;> simp_all <;> omega) | (simp_all [noMsg, SesS.ended] <;> (repeat' split) <;> simp_all <;> omega)))); (focus ((try simp only [noMsg, SesS.ended, cond_true, cond_false, set_same, *]); exact (by (repeat (first | exact Sub.refl _ | (refine Sub.drop ?_ ?_; focus (simp only [evN, *]; done)) | refine Sub.both ?_)); done))))
def SesS.tried (S : SesS) : SesS := { S with tries := IntKind.i64.wrap (S.tries + 1) }
set_option maxRecDepth 100000 in
theorem again17c {σ : Hp} {g : Nat} {S : SesS} {v : Value} {ws : List Wr} (hg : σ g = some (.cells (S.cells v) 130)) (hr : RowsAt 52 3 Wr.cells σ v ws) (hn : ws.length * 40 ≤ 140737488355328) (r : Int) (h : S.busy = true) (ht : decide (S.tries ≥ r) = false) :
    ACalls Tryz.prog 90 #[.pointer (some ⟨g, 0, none⟩), .int .i64 r] σ fun u σ' => ∃ v' σ1, u = .tuple #[.agg (S.msg v').toArray, .int .i64 0] ∧ σ1 = set σ g (.cells (S.tried.cells v) 130) ∧ RowsAt 52 3 Wr.cells σ' v' ws ∧ Made σ1 σ' v' := by
  obtain ⟨a, c, rfl⟩ := hr.slice
  unfold SesS.cells at hg
  obtain ⟨τ, rfl⟩ := open_upd hg
  have hng := hr.notCells (upd_same _ _ _)
  clear hg
  have H := Hid.mk hr
  have hh := Hid.mk h
  clear hr h
  (refine acalls_F ok90 (by simp) ?_; unfold c90 r90)
  (repeat' (first | (simp +contextual -dsimp only [*, SesS.cells, SesS.view, Wr.cells, SesS.msg, Msg.cells, ↓reduceIte, ↓evP, evQ, splice, Nat.reduceAdd, Nat.reduceEqDiff, Nat.reduceLeDiff, Nat.reduceMul, reduceCtorEq, Int.reduceLT, Int.reduceLE, Int.reduceGT, Int.reduceGE, Int.reduceEq, Int.reduceNeg]) | (refine condF_split (fun hc => ?_) (fun hc => ?_) <;> (try simp only [Bool.not_eq_true', Bool.not_eq_false', Bool.and_eq_true, Bool.or_eq_false_iff] at hc)) | (intro _; intros) | (refine And.intro ?_ ?_; focus (first | omega | ((repeat (first | exact Sub.refl _ | (refine Sub.drop ?_ ?_; focus (simp only [evN, *]; done)) | refine Sub.both ?_)); done) | (simp_all; done) | (simp_all; omega)))))
  all_goals try (exact absurd (hh.out.symm.trans ‹S.busy = false›) (by simp))
  have HR : RowsAt 52 3 Wr.cells (upd τ g (.cells (({ S with busy := true } : SesS).tried.cells (.slice a ws.length c)) 130)) (.slice a ws.length c) ws := H.out.keep fun k hk => by
    have hk' : k ≠ g := fun e => hng (by rw [hk, e])
    rw [upd_ne _ _ hk', upd_ne _ _ hk']
  refine callF_of (ACalls.beside ?_ (message47 (S := ({ S with busy := true } : SesS).tried) (upd_same _ _ _) HR hn)) ?_
  · (simp only [evN, *]; done)
  rintro u σ'' ⟨σ2, ⟨v', rfl, hR, hM⟩, hn1, rfl⟩
  obtain ⟨a', c', rfl⟩ := hR.slice
  have H2 := Hid.mk hR
  have H3 := Hid.mk hM
  clear hR hM HR H
  simp +contextual -dsimp only [*, SesS.cells, SesS.view, Wr.cells, SesS.msg, Msg.cells, ↓reduceIte, ↓evP, evQ, splice, Nat.reduceAdd, Nat.reduceEqDiff, Nat.reduceLeDiff, Nat.reduceMul, reduceCtorEq, Int.reduceLT, Int.reduceLE, Int.reduceGT, Int.reduceGE, Int.reduceEq, Int.reduceNeg]
  refine endF_sub (τ := σ2) ?_ ⟨.slice a' ws.length c', _, rfl, ?_, H2.out, H3.out⟩
  · (repeat (first | exact Sub.refl _ | (refine Sub.drop ?_ ?_; focus (simp only [evN, *]; done)) | refine Sub.both ?_)); done
  · rw [set_same]
    rw [← hh.out]; rfl
set_option maxRecDepth 100000 in
theorem send15a {σ : Hp} {g : Nat} {S : SesS} {v w : Value} (hg : σ g = some (.cells (S.cells v) 130)) (h : S.busy = true) : ACalls Tryz.prog 39 #[.pointer (some ⟨g, 0, none⟩), w] σ fun u σ' => u = .tuple #[.agg noMsg.toArray, .int .i64 31] ∧ σ' = σ := by
  (unfold SesS.cells at hg; obtain ⟨τ, rfl⟩ := open_upd hg; clear hg)
  have hh := Hid.mk h
  clear h
  (refine acalls_F ok39 (by simp) ?_; unfold c39 r39)
  (repeat' (first | (simp +contextual -dsimp only [*, SesS.cells, SesS.view, Wr.cells, SesS.msg, Msg.cells, Bool.not_false, Bool.not_true, ↓reduceIte, ↓evP, evQ, splice, Nat.reduceAdd, Nat.reduceEqDiff, Nat.reduceLeDiff, Nat.reduceMul, reduceCtorEq, Int.reduceLT, Int.reduceLE, Int.reduceGT, Int.reduceGE, Int.reduceEq, Int.reduceNeg]) | (refine condF_split (fun hc => ?_) (fun hc => ?_) <;> (try simp only [Bool.not_eq_true', Bool.not_eq_false', Bool.and_eq_true, Bool.or_eq_false_iff] at hc)) | (intro _; intros) | (refine And.intro ?_ ?_; focus (first | omega | ((repeat (first | exact Sub.refl _ | (refine Sub.drop ?_ ?_; focus (simp only [evN, *]; done)) | refine Sub.both ?_)); done) | (simp_all; done) | (simp_all; omega)))))
  all_goals try (exact absurd (hh.out.symm.trans ‹S.busy = false›) (by simp))
  all_goals (refine endF_det ?_ ?_; (focus ((try simp only [noMsg, cond_true, cond_false, *]) <;> ((try simp only [decide_eq_true_eq, decide_eq_false_iff_not] at *) <;> first | rfl | (simp [noMsg]; done) | (simp_all [noMsg]; done) | (simp [noMsg]; omega) | (simp [noMsg]; (rw [Bool.eq_iff_iff]); simp; omega) | (simp_all [noMsg] <;> omega) | ((try unfold noMsg); (rw [Value.bool.injEq, Bool.eq_iff_iff]); simp <;> omega) | ((try unfold noMsg); (repeat' split) <;> simp_all <;> omega) | (simp_all [noMsg] <;> (repeat' split) <;> simp_all <;> omega)))); (focus ((try simp only [noMsg, cond_true, cond_false, set_same, *]); exact (by (repeat (first | exact Sub.refl _ | (refine Sub.drop ?_ ?_; focus (simp only [evN, *]; done)) | refine Sub.both ?_)); done))))
set_option maxRecDepth 100000 in
theorem send15b {σ : Hp} {g : Nat} {S : SesS} {v w : Value} {ws : List Wr} (hg : σ g = some (.cells (S.cells v) 130)) (hv : RoRows 3 Wr.cells σ w ws) (hn : ws.length * 40 ≤ 140737488355328) (h : S.busy = false) (he : decide (checkV ws = 0) = false) :
    ACalls Tryz.prog 39 #[.pointer (some ⟨g, 0, none⟩), w] σ fun u σ' => u = .tuple #[.agg noMsg.toArray, .int .i64 (checkV ws)] ∧ σ' = σ := by
  obtain ⟨i0, fl, bu, sq, tr, la, er⟩ := S
  obtain rfl : bu = false := h
  obtain ⟨A, c, rfl, hrow⟩ := hv
  have H := Hid.mk (show RoRows 3 Wr.cells _ _ _ from ⟨A, c, rfl, hrow⟩)
  clear hrow
  (unfold SesS.cells at hg; obtain ⟨τ, rfl⟩ := open_upd hg; clear hg)
  (refine acalls_F ok39 (by simp) ?_; unfold c39 r39)
  (repeat' (first | (simp +contextual -dsimp only [*, SesS.cells, SesS.view, Wr.cells, SesS.msg, Msg.cells, Bool.not_false, Bool.not_true, ↓reduceIte, ↓evP, evQ, splice, Nat.reduceAdd, Nat.reduceEqDiff, Nat.reduceLeDiff, Nat.reduceMul, reduceCtorEq, Int.reduceLT, Int.reduceLE, Int.reduceGT, Int.reduceGE, Int.reduceEq, Int.reduceNeg]) | (refine condF_split (fun hc => ?_) (fun hc => ?_) <;> (try simp only [Bool.not_eq_true', Bool.not_eq_false', Bool.and_eq_true, Bool.or_eq_false_iff] at hc)) | (intro _; intros) | (refine And.intro ?_ ?_; focus (first | omega | ((repeat (first | exact Sub.refl _ | (refine Sub.drop ?_ ?_; focus (simp only [evN, *]; done)) | refine Sub.both ?_)); done) | (simp_all; done) | (simp_all; omega)))))
  refine callF_of (new44 _) ?_
  rintro u σ2 ⟨m, g2, hm, hg2, hne, rfl, rfl⟩
  simp +contextual -dsimp only [*, SesS.cells, SesS.view, Wr.cells, SesS.msg, Msg.cells, Bool.not_false, Bool.not_true, ↓reduceIte, ↓evP, evQ, splice, Nat.reduceAdd, Nat.reduceEqDiff, Nat.reduceLeDiff, Nat.reduceMul, reduceCtorEq, Int.reduceLT, Int.reduceLE, Int.reduceGT, Int.reduceGE, Int.reduceEq, Int.reduceNeg]
  refine callF_of (commit45 hm hg2 hne (H.out.sub ?_) (by omega)) ?_
  · (repeat (first | exact Sub.refl _ | (refine Sub.drop ?_ ?_; focus (simp only [evN, *]; done)) | refine Sub.both ?_)); done
  rintro u σ3 ⟨rfl, rfl⟩
  simp +contextual -dsimp only [*, SesS.cells, SesS.view, Wr.cells, SesS.msg, Msg.cells, Bool.not_false, Bool.not_true, ↓reduceIte, ↓evP, evQ, splice, Nat.reduceAdd, Nat.reduceEqDiff, Nat.reduceLeDiff, Nat.reduceMul, reduceCtorEq, Int.reduceLT, Int.reduceLE, Int.reduceGT, Int.reduceGE, Int.reduceEq, Int.reduceNeg]
  all_goals (refine endF_det ?_ ?_; (focus ((try simp only [noMsg, cond_true, cond_false, *]) <;> ((try simp only [decide_eq_true_eq, decide_eq_false_iff_not] at *) <;> first | rfl | (simp [noMsg]; done) | (simp_all [noMsg]; done) | (simp [noMsg]; omega) | (simp [noMsg]; (rw [Bool.eq_iff_iff]); simp; omega) | (simp_all [noMsg] <;> omega) | ((try unfold noMsg); (rw [Value.bool.injEq, Bool.eq_iff_iff]); simp <;> omega) | ((try unfold noMsg); (repeat' split) <;> simp_all <;> omega) | (simp_all [noMsg] <;> (repeat' split) <;> simp_all <;> omega)))); (focus ((try simp only [noMsg, cond_true, cond_false, set_same, *]); exact (by (repeat (first | exact Sub.refl _ | (refine Sub.drop ?_ ?_; focus (simp only [evN, *]; done)) | refine Sub.both ?_)); done))))
end Go.Proofs.YtaoafjlocjjbbaaGreatDoor

-- SpL
namespace Go.Sp
open Go.RowKit (Below)
/-- The block of v is not known to σ. -/
def New (σ : Hp) (v : Value) : Prop := ∀ k, blk v = some k → σ k = none
theorem RowsAt.blk_some {α : Type} {E sz : Nat} {f : α → List Value} {σ : Hp} {v : Value} {l : List α} (h : RowsAt E sz f σ v l) (hl : l ≠ []) : ∃ k, blk v = some k := by
  rcases h with ⟨rfl, rfl⟩ | ⟨b, c, rfl, _, _⟩
  · exact absurd rfl hl
  · exact ⟨b, rfl⟩
theorem Same.at {F : Nat → Prop} {σ σ' : Hp} {g : Nat} {o : Blk} (h : Same F σ σ') (hg : σ g = some o) (hf : ¬ F g) : σ' g = some o := (h g (by rw [hg]; simp) hf).trans hg
def off (σ : Hp) (g : Nat) : Hp := fun k => if k = g then none else σ k
theorem off_none (σ : Hp) (g : Nat) : off σ g g = none := by simp [off]
theorem off_upd {σ : Hp} {g : Nat} {o : Blk} (h : σ g = some o) : σ = upd (off σ g) g o := by
  funext k; by_cases e : k = g
  · subst e; simp [upd, h]
  · simp [upd, off, e]
/-- A contract that leaves all that was there as it was. -/
theorem acalls_below {P : Program} {f : FuncId} {args : Array Value} {σ : Hp} {R : Value → Prop} (h : ∀ w, Sat σ w → Calls P f args w fun e w' => ∃ v, e = .returned v ∧ R v ∧ Below w.heap.size w w') :
    ACalls P f args σ fun v σ' => R v ∧ σ' = σ := fun w hs => (h w hs).mono fun e w' ⟨v, he, hr, hb⟩ =>
  ⟨v, σ, he, fun b o hbo => by rw [hb.block b (hs.lt (by rw [hbo]; simp))]; exact hs b o hbo, ⟨hb.os, hb.tape, hb.output, hb.size, fun k hk _ => hb.block k hk, fun _ _ hn => hn⟩, hr, rfl⟩
theorem Sub.noneAt {τ σ : Hp} {b : Nat} (h : Sub τ σ) (hb : σ b = none) : τ b = none := (h b).elim id fun e => e.trans hb
theorem Sub.same {τ σ σ' : Hp} {F : Nat → Prop} (h : Sub τ σ) (s : Same F σ σ') (hF : ∀ k, F k → τ k = none) : Sub τ σ' := fun k => by
  rcases h k with e | e
  · exact .inl e
  · by_cases hf : F k
    · exact .inl (hF k hf)
    · by_cases hs : σ k = none
      · exact .inl (e.trans hs)
      · exact .inr (e.trans (s k hs hf).symm)
theorem RowsAt.ro {α : Type} {E sz : Nat} {f : α → List Value} (hf : ∀ x, (f x).length = sz) {σ : Hp} {v : Value} {l : List α} (h : RowsAt E sz f σ v l) : RoRows sz f σ v l := by
  rcases h with ⟨rfl, rfl⟩ | ⟨b, c, rfl, _, hb⟩
  · exact ⟨none, 0, rfl, fun i x hx => by simp at hx⟩
  · refine ⟨some ⟨b, 0, none⟩, c, rfl, fun i x hx => ⟨b, 0, rfl, ?_⟩⟩
    unfold rdn
    rw [hb]
    show seg _ (0 + i * sz) sz = _
    have := seg_flat hf hx 0 sz (by omega)
    rw [Nat.add_zero] at this
    rw [Nat.zero_add, this]
    have e := seg_all (f x)
    rw [hf] at e
    exact e
theorem RowsAt.offs {α : Type} {E sz : Nat} {f : α → List Value} {σ : Hp} {v : Value} {l : List α} (h : RowsAt E sz f σ v l) {g : Nat} (hg : blk v ≠ some g) : RowsAt E sz f (off σ g) v l :=
  h.keep fun k hk => by unfold off; rw [if_neg (fun e => hg (by rw [hk, e]))]
theorem Same.ofOff {σ σ' : Hp} {g : Nat} (h : Same (fun _ => False) (off σ g) σ') : Same (fun k => k = g) σ σ' := fun k hk hf => by
  have e : off σ g k = σ k := by unfold off; rw [if_neg hf]
  rw [h k (by rw [e]; exact hk) (fun x => x), e]
theorem New.ofOff {α : Type} {E sz : Nat} {f : α → List Value} {σ σ' : Hp} {g : Nat} {v : Value} {l : List α} {cs : List Value} {t : TypeId} (h : New (off σ g) v) (hr : RowsAt E sz f σ' v l) (hg : σ' g = some (.cells cs t)) : New σ v := fun k hk => by
  have := h k hk
  unfold off at this
  split at this
  · rename_i e; subst e; exact absurd hk (hr.notCells hg)
  · exact this
theorem off_same {τ σ : Hp} {g : Nat} (hg : τ g = none) (h : Same (fun _ => False) τ σ) : Same (fun _ => False) τ (off σ g) := fun k hk hf => by
  have e : k ≠ g := fun e => by subst e; exact hk hg
  unfold off; rw [if_neg e]; exact h k hk hf
theorem Same.unUpd {τ σ : Hp} {g : Nat} {X : Blk} (hg : τ g = none) (h : Same (fun _ => False) (upd τ g X) σ) : Same (fun _ => False) τ σ := fun k hk hf => by
  have e : k ≠ g := fun e => by subst e; exact hk hg
  have := h k (by rw [upd_ne _ _ e]; exact hk) hf
  rw [this, upd_ne _ _ e]
theorem New.unUpd {τ : Hp} {g : Nat} {X : Blk} {v : Value} (h : New (upd τ g X) v) : New τ v := fun k hk => ((none_upd _ _ _ _).1 (h k hk)).2
theorem New.ne {τ : Hp} {g : Nat} {X : Blk} {v : Value} (h : New (upd τ g X) v) : blk v ≠ some g := fun e => by
  have := h g e; rw [upd_same] at this; cases this
theorem Same.sub {τ σ : Hp} (h : Same (fun _ => False) τ σ) : Sub τ σ := fun k => by
  by_cases e : τ k = none
  · exact .inl e
  · exact .inr (h k e (fun x => x)).symm
theorem RowsAt.ne {α : Type} {E sz : Nat} {f : α → List Value} {σ : Hp} {v : Value} {l : List α} (h : RowsAt E sz f σ v l) {g : Nat} (hg : σ g = none) : blk v ≠ some g := fun e => h.known e hg
/-- Two known blocks, laid open. -/
theorem open_2 {σ : Hp} {g b : Nat} {A B : Blk} (hg : σ g = some A) (hb : σ b = some B) (_hne : g ≠ b) : ∃ τ, σ = upd (upd τ b B) g A := ⟨σ, by rw [upd_self hb, upd_self hg]⟩
theorem seg_part {cs vs : List Value} {o n : Nat} (h : seg cs o n = some vs) (i m : Nat) (hm : i + m ≤ n) : seg cs (o + i) m = some ((vs.drop i).take m) := by
  unfold seg at h ⊢
  split at h
  · cases h
    rw [if_pos (by omega), List.drop_take, List.take_take, List.drop_drop, Nat.min_eq_left (by omega)]
  · cases h
theorem rdn_part {σ : Hp} {b o n : Nat} {vs : List Value} (h : rdn σ b o n = some vs) (i m : Nat) (hm : i + m ≤ n) : rdn σ b (o + i) m = some ((vs.drop i).take m) := by
  unfold rdn at *
  generalize σ b = q at *
  split at h
  · exact seg_part h i m hm
  · exact seg_part h i m hm
  · exact seg_part h i m hm
  · cases h
theorem rd_of_rdn {σ : Hp} {b o : Nat} {v : Value} (h : rdn σ b o 1 = some [v]) : rd σ b o = some v := by
  have key : ∀ cs : List Value, seg cs o 1 = some [v] → cs[o]? = some v := fun cs h => by
    unfold seg at h
    split at h
    · rename_i hl
      have e : (cs.drop o).take 1 = [v] := Option.some.inj h
      have : ((cs.drop o).take 1)[0]? = some v := by rw [e]; rfl
      rw [List.getElem?_take_of_lt (by omega), List.getElem?_drop] at this
      simpa using this
    · cases h
  unfold rdn at h
  unfold rd
  generalize σ b = q at *
  cases q with
  | none => cases h
  | some x =>
    cases x with
    | cells cs t => exact key _ h
    | row cs r t => exact key _ h
    | dead => cases h
    | ro o =>
      cases o with
      | cells cs t fr =>
        have := key _ h
        simpa using this
      | _ => cases h
    | mp l => cases h
theorem rd_part {σ : Hp} {b o n : Nat} {vs : List Value} (h : rdn σ b o n = some vs) (i : Nat) {v : Value} (hv : vs[i]? = some v) : rd σ b (o + i) = some v := by
  have hl := rdn_len h
  have hi : i < vs.length := (List.getElem?_eq_some_iff.1 hv).1
  have := rdn_part h i 1 (by omega)
  refine rd_of_rdn (this.trans ?_)
  rw [List.drop_eq_getElem_cons hi]
  rw [List.getElem?_eq_getElem hi] at hv
  cases hv; rfl
/-- An element of rows that are only read. -/
theorem RoRows.get {α : Type} {sz : Nat} {f : α → List Value} {σ : Hp} {A : Option Addr} {n c : Nat} {l : List α} (h : RoRows sz f σ (.slice A n c) l) {i : Nat} (hi : i < l.length) : ∃ b o, A = some ⟨b, o, none⟩ ∧ rdn σ b (o + i * sz) sz = some (f l[i]) := by
  obtain ⟨A', c', e, h⟩ := h
  cases e
  exact h i _ (List.getElem?_eq_getElem hi)
theorem RoRows.len {α : Type} {sz : Nat} {f : α → List Value} {σ : Hp} {A : Option Addr} {n c : Nat} {l : List α} (h : RoRows sz f σ (.slice A n c) l) : n = l.length := by
  obtain ⟨A', c', e, _⟩ := h
  cases e; rfl
theorem off_upd_sub (τ : Hp) (m : Nat) (X Y : Blk) : Sub (off (upd τ m X) m) (upd τ m Y) := fun k => by
  by_cases e : k = m
  · exact .inl (by simp [off, e])
  · exact .inr (by simp [off, upd, e])
theorem off_ne (σ : Hp) {g k : Nat} (h : k ≠ g) : off σ g k = σ k := by simp [off, h]
theorem rdn_known {σ : Hp} {b o n : Nat} {vs : List Value} (h : rdn σ b o n = some vs) : σ b ≠ none := fun e => by unfold rdn at h; rw [e] at h; cases h
theorem rdn_apart {σ : Hp} {b o n k : Nat} {vs : List Value} (h : rdn σ b o n = some vs) (hk : σ k = none) : ¬ b = k := fun e => rdn_known h (by rw [e]; exact hk)
theorem open_3 {σ : Hp} {a b c : Nat} {A B C : Blk} (ha : σ a = some A) (hb : σ b = some B) (hc : σ c = some C) : ∃ τ, σ = upd (upd (upd τ c C) b B) a A := ⟨σ, by rw [upd_self hc, upd_self hb, upd_self ha]⟩
end Go.Sp

-- C12
namespace Go.Proofs.YtaoafjlocjjbbaaGreatDoor
open Go.Sp
set_option linter.unusedSimpArgs false
set_option linter.unusedVariables false
def SesS.sent (S : SesS) : SesS := { S with busy := true, seq := IntKind.i64.wrap (S.seq + 1), tries := 0 }
theorem checkV_ne {ws : List Wr} (h : checkV ws = 0) : ws ≠ [] := fun e => by
  subst e
  exact absurd h (by show (1 : Int) ≠ 0; decide)
set_option maxRecDepth 100000 in
theorem send15d {τ : Hp} {g : Nat} {S : SesS} {v w : Value} {ws : List Wr} (hg : τ g = none) (hv : RoRows 3 Wr.cells τ w ws) (hn : ws.length * 40 ≤ 140737488355328) (h : S.busy = false) (he : checkV ws = 0) (hs : decide (S.seq ≥ 2147483647) = false) :
    ACalls Tryz.prog 39 #[.pointer (some ⟨g, 0, none⟩), w] (upd τ g (.cells (S.cells v) 130)) fun u σ' => ∃ v1 v2, u = .tuple #[.agg (S.sent.msg v2).toArray, .int .i64 0] ∧ σ' g = some (.cells (S.sent.cells v1) 130) ∧ RowsAt 52 3 Wr.cells σ' v1 ws ∧ RowsAt 52 3 Wr.cells σ' v2 ws ∧
      Same (fun _ => False) τ σ' ∧ New τ v1 ∧ New τ v2 ∧ blk v1 ≠ blk v2 := by
  obtain ⟨i0, fl, bu, sq, tr, la, er⟩ := S
  obtain rfl : bu = false := h
  have hs : decide (sq ≥ 2147483647) = false := hs
  have H0 := Hid.mk hv
  obtain ⟨A, c, rfl, _⟩ := hv
  have HE := Hid.mk he
  (refine acalls_F ok39 (by simp) ?_; unfold c39 r39)
  (repeat' (first | (simp +contextual -dsimp only [*, SesS.cells, SesS.view, Wr.cells, SesS.msg, Msg.cells, Bool.not_false, Bool.not_true, ↓reduceIte, ↓evP, evQ, splice, Nat.reduceAdd, Nat.reduceEqDiff, Nat.reduceLeDiff, Nat.reduceMul, reduceCtorEq, Int.reduceLT, Int.reduceLE, Int.reduceGT, Int.reduceGE, Int.reduceEq, Int.reduceNeg]) | (refine condF_split (fun hc => ?_) (fun hc => ?_) <;> (try simp only [Bool.not_eq_true', Bool.not_eq_false', Bool.and_eq_true, Bool.or_eq_false_iff] at hc)) | (intro _; intros) | (refine And.intro ?_ ?_; focus (first | omega | ((repeat (first | exact Sub.refl _ | (refine Sub.drop ?_ ?_; focus (simp only [evN, *]; done)) | refine Sub.both ?_)); done) | (simp_all; done) | (simp_all; omega)))))
  refine callF_of (new44 _) ?_
  rintro u σ2 ⟨m, g2, hm, hg2, hne, rfl, rfl⟩
  simp +contextual -dsimp only [*, SesS.cells, SesS.view, Wr.cells, SesS.msg, Msg.cells, Bool.not_false, Bool.not_true, ↓reduceIte, ↓evP, evQ, splice, Nat.reduceAdd, Nat.reduceEqDiff, Nat.reduceLeDiff, Nat.reduceMul, reduceCtorEq, Int.reduceLT, Int.reduceLE, Int.reduceGT, Int.reduceGE, Int.reduceEq, Int.reduceNeg]
  refine callF_of (commit45 hm hg2 hne (H0.out.sub ?_) (by omega)) ?_
  · (repeat (first | exact Sub.refl _ | (refine Sub.drop ?_ ?_; focus (simp only [evN, *]; done)) | refine Sub.both ?_)); done
  rintro u σ3 ⟨rfl, rfl⟩
  rw [he]
  (repeat' (first | (simp +contextual -dsimp only [*, SesS.cells, SesS.view, Wr.cells, SesS.msg, Msg.cells, Bool.not_false, Bool.not_true, ↓reduceIte, ↓evP, evQ, splice, Nat.reduceAdd, Nat.reduceEqDiff, Nat.reduceLeDiff, Nat.reduceMul, reduceCtorEq, Int.reduceLT, Int.reduceLE, Int.reduceGT, Int.reduceGE, Int.reduceEq, Int.reduceNeg]) | (refine condF_split (fun hc => ?_) (fun hc => ?_) <;> (try simp only [Bool.not_eq_true', Bool.not_eq_false', Bool.and_eq_true, Bool.or_eq_false_iff] at hc)) | (intro _; intros) | (refine And.intro ?_ ?_; focus (first | omega | ((repeat (first | exact Sub.refl _ | (refine Sub.drop ?_ ?_; focus (simp only [evN, *]; done)) | refine Sub.both ?_)); done) | (simp_all; done) | (simp_all; omega)))))
  rename_i b' hb1 hb2 hb0
  refine callF_of (ACalls.beside ?_ (ACalls.beside ?_ (clone46ro H0.out (checkV_ne HE.out) hn))) ?_
  · (simp only [evN, *]; done)
  · (simp only [evN, *]; done)
  rintro u σ'' ⟨_, ⟨s1, ⟨hR, hM⟩, n0, rfl⟩, n1, rfl⟩
  simp only [none_upd] at n1
  obtain ⟨a', c', rfl⟩ := hR.slice
  have HR := Hid.mk hR
  have HM := Hid.mk hM
  clear hR hM hm hg2
  (repeat' (first | (simp +contextual -dsimp only [*, SesS.cells, SesS.view, Wr.cells, SesS.msg, Msg.cells, Bool.not_false, Bool.not_true, ↓reduceIte, ↓evP, evQ, splice, Nat.reduceAdd, Nat.reduceEqDiff, Nat.reduceLeDiff, Nat.reduceMul, reduceCtorEq, Int.reduceLT, Int.reduceLE, Int.reduceGT, Int.reduceGE, Int.reduceEq, Int.reduceNeg]) | (refine condF_split (fun hc => ?_) (fun hc => ?_) <;> (try simp only [Bool.not_eq_true', Bool.not_eq_false', Bool.and_eq_true, Bool.or_eq_false_iff] at hc)) | (intro _; intros) | (refine And.intro ?_ ?_; focus (first | omega | ((repeat (first | exact Sub.refl _ | (refine Sub.drop ?_ ?_; focus (simp only [evN, *]; done)) | refine Sub.both ?_)); done) | (simp_all; done) | (simp_all; omega)))))
  have HR2 := HR.out.fresh n0 (.cells ((⟨i0, fl, true, IntKind.i64.wrap (sq + 1), 0, la, er⟩ : SesS).cells (.slice a' ws.length c')) 130)
  refine callF_of (ACalls.beside ?_ (message47 (S := ⟨i0, fl, true, IntKind.i64.wrap (sq + 1), 0, la, er⟩) (upd_same _ _ _) HR2 hn)) ?_
  · (simp only [evN, *]; done)
  rintro u σ'' ⟨s2, ⟨v', rfl, hR3, hM3⟩, n2, rfl⟩
  obtain ⟨a3, c3, rfl⟩ := hR3.slice
  have HR3 := Hid.mk hR3
  have HM3 := Hid.mk hM3
  clear hR3 hM3
  simp +contextual -dsimp only [*, SesS.cells, SesS.view, Wr.cells, SesS.msg, Msg.cells, Bool.not_false, Bool.not_true, ↓reduceIte, ↓evP, evQ, splice, Nat.reduceAdd, Nat.reduceEqDiff, Nat.reduceLeDiff, Nat.reduceMul, reduceCtorEq, Int.reduceLT, Int.reduceLE, Int.reduceGT, Int.reduceGE, Int.reduceEq, Int.reduceNeg]
  refine endF_sub (τ := s2) (Sub.drop n2 (Sub.refl _)) ⟨_, _, rfl, HM3.out.1.at (upd_same _ _ _) (fun x => x), HR2.sameF HM3.out.1 (fun _ _ x => x), HR3.out, (Same.updNew hg HM.out.1).trans HM3.out.1 (fun _ _ x => x), HM.out.2, fun k hk => ?_, fun e => ?_⟩
  · exact HM.out.old ((none_upd _ _ _ _).1 (HM3.out.2 k hk)).2
  · obtain ⟨k, hk⟩ := HR2.blk_some (checkV_ne HE.out)
    exact HR2.known hk (HM3.out.2 k (e ▸ hk))
/-- What the library's variables hold. -/
def Glob (σ : Hp) : Prop := ∀ w, Sat σ w → Lib.TabIs Tryz.prog w "internal/strconv.uint64pow10" .u64 Lib.pow10Tab ∧ (∃ tp p, w.var? Tryz.prog "strconv.ErrSyntax" = some #[.iface tp p]) ∧ (∃ tp p, w.var? Tryz.prog "strconv.ErrRange" = some #[.iface tp p])
theorem Glob.sub {σ σ' : Hp} (h : Glob σ) (s : Sub σ σ') : Glob σ' := fun w hw => h w (hw.sub s)
def deci (n : Int) : ByteArray := ⟨(Lib.itoa n).toArray⟩
theorem format49 {σ : Hp} (hG : Glob σ) (n : Int) (h0 : -9223372036854775808 ≤ n) (h1 : n ≤ 9223372036854775807) : ACalls Tryz.prog 81 #[.int .i64 n, .int .i64 10] σ fun v σ' => v = .string (deci n) ∧ σ' = σ :=
  acalls_below fun w hw => (Any.strconv_FormatInt_10 Tryz.laysM173 n h0 h1 w (hG w hw).1).mono fun e w' ⟨he, k, os, hw'⟩ =>
    ⟨_, he, rfl, by subst hw'; exact ⟨rfl, rfl, rfl, by simp [Sort.grow], fun i hi => by simp [Sort.grow, Array.getElem?_append, hi]⟩⟩
def Pars (s : ByteArray) (v : Value) : Prop := ∃ n e, v = .tuple #[.int .i64 n, e] ∧ ((Lib.parseIntB 64 s.data.toList = .ok n ∧ e = .nilIface) ∨ ((∀ m, Lib.parseIntB 64 s.data.toList ≠ .ok m) ∧ ∃ T p, e = .iface T p))
theorem parse51 {σ : Hp} (hG : Glob σ) (s : ByteArray) (h1 : s.size ≤ 281474976710656) : ACalls Tryz.prog 101 #[.string s, .int .i64 10, .int .i64 64] σ fun v σ' => Pars s v ∧ σ' = σ :=
  acalls_below fun w hw => by
    cases h : Lib.parseIntB 64 s.data.toList
    · rename_i n
      refine (Any.strconv_ParseInt_10_at64_ok Tryz.laysC174 s (by omega) n h w).mono fun e w' ⟨he, hw'⟩ => ⟨_, he, ⟨_, _, rfl, .inl ⟨h, rfl⟩⟩, ?_⟩
      rcases hw' with rfl | ⟨t, rfl⟩
      · exact RowKit.Below.refl _ _
      · exact Lib.bytesWorld_below _ _ _
    · obtain ⟨tp, p, hv⟩ := (hG w hw).2.1
      exact (Any.strconv_ParseInt_10_at64_syntax_var Tryz.laysC174 s h1 h tp p w hv).mono fun e w' ⟨N, he, _, _, hb⟩ => ⟨_, he, ⟨_, _, rfl, .inr ⟨fun m e => (by rw [h] at e; cases e), _, _, rfl⟩⟩, hb⟩
    · obtain ⟨tp, p, hv⟩ := (hG w hw).2.2
      exact (Any.strconv_ParseInt_10_at64_range_var Tryz.laysC174 s h1 h tp p w hv).mono fun e w' ⟨N, he, _, _, hb⟩ => ⟨_, he, ⟨_, _, rfl, .inr ⟨fun m e => (by rw [h] at e; cases e), _, _, rfl⟩⟩, hb⟩
theorem nDigits_le : ∀ (k u : Nat), 0 < k → u < 10 ^ k → Lib.nDigits u ≤ k
  | 1, u, _, h => by rw [Lib.nDigits_small (by simpa using h)]; omega
  | k + 2, u, _, h => by
    by_cases h10 : u < 10
    · rw [Lib.nDigits_small h10]; omega
    · rw [Lib.nDigits, dif_neg h10]
      have := nDigits_le (k + 1) (u / 10) (by omega) (by rw [Nat.pow_succ] at h; omega)
      omega
theorem deci_size {n : Int} (h0 : 0 ≤ n) (h1 : n ≤ 9223372036854775807) : (deci n).size ≤ 19 := by
  obtain ⟨u, rfl⟩ := Int.eq_ofNat_of_zero_le h0
  show (Lib.itoa u).toArray.size ≤ 19
  rw [Lib.itoa_nonneg, List.size_toArray, Lib.decDigits_length]
  exact nDigits_le 19 u (by omega) (by omega)
def sufI (n : Int) : Int := 97 + (n * 7 + 3) % 26
def tokB (n : Int) : ByteArray := ⟨#[116]⟩ ++ deci n ++ ⟨#[46]⟩ ++ ⟨#[UInt8.ofNat (sufI n).toNat]⟩
def tokBad (n : Int) : Bool := decide (n < 0) || decide (n > 1099511627776)
def tokV (n : Int) : ByteArray := cond (tokBad n) ⟨#[]⟩ (tokB n)
def tokE (n : Int) : Int := cond (tokBad n) 1 0
theorem encode_low {r : Int} (h0 : 97 ≤ r) (h1 : r ≤ 122) : Utf8.encode r = ⟨#[UInt8.ofNat r.toNat]⟩ := by
  obtain ⟨k, rfl⟩ : ∃ k : Nat, r = (97 + k : Nat) := ⟨(r - 97).toNat, by omega⟩
  have hk : k < 26 := by omega
  revert hk
  clear h0 h1
  revert k
  decide
theorem deciV (n : Int) : True := trivial
theorem token19x {σ : Hp} (n : Int) (hf : tokBad n = false → ACalls Tryz.prog 81 #[.int .i64 n, .int .i64 10] σ fun v σ' => v = .string (deci n) ∧ σ' = σ) : ACalls Tryz.prog 43 #[.int .i64 n] σ fun v σ' => v = .tuple #[.string (tokV n), .int .i64 (tokE n)] ∧ σ' = σ := by
  (refine acalls_F ok43 (by simp) ?_; unfold c43 r43)
  (repeat' (first | (simp +contextual -dsimp only [*, deciV, ↓reduceIte, ↓evP, evQ, splice, Nat.reduceAdd, Nat.reduceEqDiff, Nat.reduceLeDiff, Nat.reduceMul, reduceCtorEq, Int.reduceLT, Int.reduceLE, Int.reduceGT, Int.reduceGE, Int.reduceEq, Int.reduceNeg]) | (refine condF_split (fun hc => ?_) (fun hc => ?_) <;> (try simp only [Bool.not_eq_true', Bool.not_eq_false', Bool.and_eq_true, Bool.or_eq_false_iff] at hc)) | (intro _; intros) | (refine And.intro ?_ ?_; focus (first | omega | ((repeat (first | exact Sub.refl _ | (refine Sub.drop ?_ ?_; focus (simp only [evN, *]; done)) | refine Sub.both ?_)); done) | (simp_all; done) | (simp_all; omega)))))
  · exact endF_det (by unfold tokV tokE tokBad; rw [hc]; rfl) (Sub.refl _)
  · rename_i h1; exact endF_det (by unfold tokV tokE tokBad; rw [h1, hc]; rfl) (Sub.refl _)
  have hb : tokBad n = false := by unfold tokBad; rw [‹decide (n < 0) = false›, ‹decide (n > 1099511627776) = false›]; rfl
  have h0 : 0 ≤ n := by have := of_decide_eq_false ‹decide (n < 0) = false›; omega
  have h1 : n ≤ 1099511627776 := by have := of_decide_eq_false ‹decide (n > 1099511627776) = false›; omega
  have hs := deci_size h0 (by omega)
  refine callF_v (hf hb) ?_
  have e1 : IntKind.i64.wrap (n * 7) = n * 7 := wi64 (by omega)
  have e2 : IntKind.i64.wrap (n * 7 + 3) = n * 7 + 3 := wi64 (by omega)
  have e3 : (n * 7 + 3).tmod 26 = (n * 7 + 3) % 26 := Int.tmod_eq_emod_of_nonneg (by omega)
  have e4 : IntKind.i64.wrap (97 + (n * 7 + 3) % 26) = sufI n := wi64 (by omega)
  have hs0 : 97 ≤ sufI n ∧ sufI n ≤ 122 := by unfold sufI; omega
  have e5 : IntKind.i32.wrap (sufI n) = sufI n := IntWalk.i32_in _ (by omega)
  have e6 := encode_low hs0.1 hs0.2
  have s1 : (⟨#[116]⟩ : ByteArray).size + (deci n).size ≤ 9223372036854775807 := by show 1 + _ ≤ _; omega
  have s2 : (⟨#[116]⟩ ++ deci n : ByteArray).size + (⟨#[46]⟩ : ByteArray).size ≤ 9223372036854775807 := by rw [ByteArray.size_append]; show 1 + _ + 1 ≤ _; omega
  have s3 : (⟨#[116]⟩ ++ deci n ++ ⟨#[46]⟩ : ByteArray).size + (⟨#[UInt8.ofNat (sufI n).toNat]⟩ : ByteArray).size ≤ 9223372036854775807 := by rw [ByteArray.size_append, ByteArray.size_append]; show 1 + _ + 1 + 1 ≤ _; omega
  have HT := Hid.mk (show tokV n = ⟨#[116]⟩ ++ deci n ++ ⟨#[46]⟩ ++ ⟨#[UInt8.ofNat (sufI n).toNat]⟩ ∧ tokE n = 0 by unfold tokV tokE; rw [hb]; exact ⟨rfl, rfl⟩)
  clear hf hb hs h0 h1 hs0
  simp +contextual -dsimp only [*, deciV, ↓reduceIte, ↓evP, evQ, splice, Nat.reduceAdd, Nat.reduceEqDiff, Nat.reduceLeDiff, Nat.reduceMul, reduceCtorEq, Int.reduceLT, Int.reduceLE, Int.reduceGT, Int.reduceGE, Int.reduceEq, Int.reduceNeg]
  exact endF_det (by rw [HT.out.1, HT.out.2]) (Sub.refl _)
theorem token19 {σ : Hp} (hG : Glob σ) (n : Int) : ACalls Tryz.prog 43 #[.int .i64 n] σ fun v σ' => v = .tuple #[.string (tokV n), .int .i64 (tokE n)] ∧ σ' = σ :=
  token19x n fun h => format49 hG n (by unfold tokBad at h; simp at h; omega) (by unfold tokBad at h; simp at h; omega)
def parN (s : ByteArray) : Option Int :=
  if 4 ≤ s.size then
    match Lib.parseIntB 64 (s.extract 1 (s.size - 2)).data.toList with
    | .ok n => if tokE n = 0 ∧ tokV n = s then some n else none
    | _ => none
  else none
def parV (s : ByteArray) : Int := (parN s).getD 0
def parE (s : ByteArray) : Int := cond (parN s).isSome 0 30
theorem parse21 {σ : Hp} (hG : Glob σ) (s : ByteArray) (hs : s.size ≤ 281474976710656) : ACalls Tryz.prog 82 #[.string s] σ fun v σ' => v = .tuple #[.int .i64 (parV s), .int .i64 (parE s)] ∧ σ' = σ := by
  have HG := Hid.mk hG
  clear hG
  by_cases h4 : s.size < 4
  · have hd : decide ((s.size : Int) < 4) = true := by simp; omega
    have HP := Hid.mk (show parN s = none by unfold parN; rw [if_neg (by omega)])
    clear h4
    (refine acalls_F ok82 (by simp) ?_; unfold c82 r82; simp +contextual -dsimp only [↓reduceIte, ↓evP, evQ, splice, Nat.reduceAdd, Nat.reduceEqDiff, Nat.reduceLeDiff, Nat.reduceMul, reduceCtorEq, Int.reduceLT, Int.reduceLE, Int.reduceGT, Int.reduceGE, Int.reduceEq, Int.reduceNeg])
    simp +contextual -dsimp only [*, ↓reduceIte, ↓evP, evQ, splice, Nat.reduceAdd, Nat.reduceEqDiff, Nat.reduceLeDiff, Nat.reduceMul, reduceCtorEq, Int.reduceLT, Int.reduceLE, Int.reduceGT, Int.reduceGE, Int.reduceEq, Int.reduceNeg]
    exact endF_det (by unfold parV parE; rw [HP.out]; rfl) (Sub.refl _)
  have hd : decide ((s.size : Int) < 4) = false := by simp; omega
  have e1 : IntKind.i64.wrap ((s.size : Int) - 2) = (s.size : Int) - 2 := wi64 (by omega)
  have e2 : lf .sls [.string s, .int .i64 1, .int .i64 ((s.size : Int) - 2)] = some (.string (s.extract 1 (s.size - 2))) := by
    rw [lf_sls_eq _ _ _ _ _ (by omega)]
    rw [show ((s.size : Int) - 2).toNat = s.size - 2 by omega]; rfl
  have hle : (s.extract 1 (s.size - 2)).size ≤ 281474976710656 := by rw [ByteArray.size_extract]; omega
  generalize hb : s.extract 1 (s.size - 2) = b at e2 hle
  have HB := Hid.mk (And.intro hb h4)
  clear hb h4
  (refine acalls_F ok82 (by simp) ?_; unfold c82 r82; simp +contextual -dsimp only [↓reduceIte, ↓evP, evQ, splice, Nat.reduceAdd, Nat.reduceEqDiff, Nat.reduceLeDiff, Nat.reduceMul, reduceCtorEq, Int.reduceLT, Int.reduceLE, Int.reduceGT, Int.reduceGE, Int.reduceEq, Int.reduceNeg])
  simp +contextual -dsimp only [*, ↓reduceIte, ↓evP, evQ, splice, Nat.reduceAdd, Nat.reduceEqDiff, Nat.reduceLeDiff, Nat.reduceMul, reduceCtorEq, Int.reduceLT, Int.reduceLE, Int.reduceGT, Int.reduceGE, Int.reduceEq, Int.reduceNeg]
  refine callF_of (parse51 HG.out b hle) ?_
  rintro u σ' ⟨⟨n, e, rfl, hp⟩, rfl⟩
  rcases hp with ⟨hp, rfl⟩ | ⟨hp, T, p, rfl⟩
  · have HP := Hid.mk hp
    clear hp
    (repeat' (first | (simp +contextual -dsimp only [*, ↓reduceIte, ↓evP, evQ, splice, Nat.reduceAdd, Nat.reduceEqDiff, Nat.reduceLeDiff, Nat.reduceMul, reduceCtorEq, Int.reduceLT, Int.reduceLE, Int.reduceGT, Int.reduceGE, Int.reduceEq, Int.reduceNeg]) | (refine condF_split (fun hc => ?_) (fun hc => ?_) <;> (try simp only [Bool.not_eq_true', Bool.not_eq_false', Bool.and_eq_true, Bool.or_eq_false_iff] at hc)) | refine callF_v (token19 HG.out n) ?_ | refine ccallF_of (token19 HG.out n) ?_ | refine gcallF_of (token19 HG.out n) ?_ | (intro _; intros) | (refine And.intro ?_ ?_; focus (first | omega | ((repeat (first | exact Sub.refl _ | (refine Sub.drop ?_ ?_; focus (simp only [evN, *]; done)) | refine Sub.both ?_)); done) | (simp_all; done) | (simp_all; omega)))))
    · refine endF_det ?_ (Sub.refl _)
      have : parN s = none := by
        unfold parN; rw [HB.out.1, HP.out]
        have hc := of_decide_eq_false ‹decide (tokE n = 0) = false›
        simp [hc]
      unfold parV parE; rw [this]; rfl
    · refine endF_det ?_ (Sub.refl _)
      have : parN s = none := by
        unfold parN; rw [HB.out.1, HP.out]
        have hc := of_decide_eq_false ‹decide (tokV n = s) = false›
        simp [hc]
      unfold parV parE; rw [this]; rfl
    · refine endF_det ?_ (Sub.refl _)
      have : parN s = some n := by
        unfold parN; rw [HB.out.1, HP.out]
        have h1 := of_decide_eq_true ‹decide (tokE n = 0) = true›
        have h2 := of_decide_eq_true ‹decide (tokV n = s) = true›
        have h3 := HB.out.2
        simp only [h1, h2]
        rw [if_pos (by omega), if_pos ⟨trivial, trivial⟩]
      unfold parV parE; rw [this]; rfl
  · have HP := Hid.mk hp
    clear hp
    (repeat' (first | (simp +contextual -dsimp only [*, ↓reduceIte, ↓evP, evQ, splice, Nat.reduceAdd, Nat.reduceEqDiff, Nat.reduceLeDiff, Nat.reduceMul, reduceCtorEq, Int.reduceLT, Int.reduceLE, Int.reduceGT, Int.reduceGE, Int.reduceEq, Int.reduceNeg]) | (refine condF_split (fun hc => ?_) (fun hc => ?_) <;> (try simp only [Bool.not_eq_true', Bool.not_eq_false', Bool.and_eq_true, Bool.or_eq_false_iff] at hc)) | refine callF_v (token19 HG.out n) ?_ | refine ccallF_of (token19 HG.out n) ?_ | refine gcallF_of (token19 HG.out n) ?_ | (intro _; intros) | (refine And.intro ?_ ?_; focus (first | omega | ((repeat (first | exact Sub.refl _ | (refine Sub.drop ?_ ?_; focus (simp only [evN, *]; done)) | refine Sub.both ?_)); done) | (simp_all; done) | (simp_all; omega)))))
    refine endF_det ?_ (Sub.refl _)
    have : parN s = none := by
      unfold parN; rw [HB.out.1]
      split
      · split
        · rename_i m hm; exact absurd hm (HP.out m)
        · rfl
      · rfl
    unfold parV parE; rw [this]; rfl
theorem decDigits_step {u : Nat} (h : ¬ u < 10) : Lib.decDigits u = Lib.decDigits (u / 10) ++ [UInt8.ofNat (48 + u % 10)] := by
  conv => lhs; rw [Lib.decDigits, dif_neg h]
theorem digit_toNat {d : Nat} (h : d < 10) : (UInt8.ofNat (48 + d)).toNat = 48 + d := by
  rw [UInt8.toNat_ofNat']; omega
theorem parse_digits : ∀ (u : Nat) (r : List UInt8), u ≤ 1099511627776 → Lib.parseUintM (2 ^ 64 - 1) 0 (Lib.decDigits u ++ r) = Lib.parseUintM (2 ^ 64 - 1) u r := by
  intro u
  induction u using Nat.strongRecOn with
  | ind u ih =>
    intro r hu
    by_cases h : u < 10
    · rw [Lib.decDigits_one h, List.singleton_append, Lib.parseUintM, digit_toNat h, if_pos (by omega), if_neg (by omega), if_neg (by omega)]
      rw [show 0 * 10 + (48 + u - 48) = u by omega]
    · rw [decDigits_step h, List.append_assoc, ih (u / 10) (by omega) _ (by omega), List.singleton_append, Lib.parseUintM, digit_toNat (by omega), if_pos (by omega), if_neg (by omega), if_neg (by omega)]
      rw [show u / 10 * 10 + (48 + u % 10 - 48) = u by omega]
theorem digits_ne (u : Nat) : Lib.decDigits u ≠ [] := by
  intro h
  have := Lib.decDigits_length u
  rw [h] at this
  have := Lib.nDigits_pos u
  simp at *
  omega
theorem digits_head : ∀ (u : Nat) (c : UInt8) (r : List UInt8), Lib.decDigits u = c :: r → 48 ≤ c.toNat ∧ c.toNat ≤ 57 := by
  intro u
  induction u using Nat.strongRecOn with
  | ind u ih =>
    intro c r hc
    by_cases h : u < 10
    · rw [Lib.decDigits_one h] at hc
      cases hc
      rw [digit_toNat h]; omega
    · rw [decDigits_step h] at hc
      cases hd : Lib.decDigits (u / 10) with
      | nil => exact absurd hd (digits_ne _)
      | cons c' r' =>
        rw [hd] at hc
        cases hc
        exact ih (u / 10) (by omega) _ _ hd
theorem parseInt_digits {u : Nat} (hu : u ≤ 1099511627776) : Lib.parseIntB 64 (Lib.decDigits u) = .ok (u : Int) := by
  cases hd : Lib.decDigits u with
  | nil => exact absurd hd (digits_ne _)
  | cons c r =>
    obtain ⟨h1, h2⟩ := digits_head u c r hd
    have hp := parse_digits u [] hu
    rw [List.append_nil] at hp
    have hp2 : Lib.parseUintB 64 (Lib.decDigits u) = .ok u := by
      unfold Lib.parseUintB
      rw [if_neg (digits_ne u), hp]; rfl
    unfold Lib.parseIntB
    simp only
    rw [if_neg (by omega), ← hd, hp2]
    simp only
    rw [if_neg (by intro h; have := h.2; omega), if_neg (by intro h; omega), if_neg (by omega)]
/-- A valid floor's token, letter by letter. -/
theorem tokB_list {u : Nat} : (tokB (u : Int)).data.toList = 116 :: (Lib.decDigits u ++ [46, UInt8.ofNat (sufI u).toNat]) := by
  unfold tokB deci
  rw [Lib.itoa_nonneg]
  simp [ByteArray.data_append]
theorem tokBad_nat {u : Nat} : tokBad (u : Int) = false ↔ u ≤ 1099511627776 := by
  unfold tokBad; simp only [Bool.or_eq_false_iff, decide_eq_false_iff_not]; omega
theorem tokE_iff {n : Int} : tokE n = 0 ↔ tokBad n = false := by
  unfold tokE; cases tokBad n <;> simp
theorem size_list (s : ByteArray) : s.size = s.data.toList.length := by rw [Array.length_toList]; rfl
theorem list_ext {a b : ByteArray} (h : a.data.toList = b.data.toList) : a = b := by
  cases a; cases b; exact congrArg _ (Array.toList_inj.mp h)
theorem extract_list (s : ByteArray) (i j : Nat) : (s.extract i j).data.toList = (s.data.toList.take j).drop i := by
  rw [ByteArray.data_extract, Array.toList_extract]
  simp [List.extract_eq_take_drop, List.drop_take]
theorem parN_some {s : ByteArray} {n : Int} : parN s = some n ↔ tokE n = 0 ∧ tokV n = s := by
  constructor
  · intro h
    unfold parN at h
    split at h
    · split at h
      · split at h
        · cases h; assumption
        · cases h
      · cases h
    · cases h
  · rintro ⟨h1, h2⟩
    have hb := tokE_iff.1 h1
    have h0 : 0 ≤ n := by unfold tokBad at hb; simp only [Bool.or_eq_false_iff, decide_eq_false_iff_not] at hb; omega
    obtain ⟨u, rfl⟩ := Int.eq_ofNat_of_zero_le h0
    have hu := tokBad_nat.1 hb
    have hs : s = tokB u := by rw [← h2]; unfold tokV; rw [hb]; rfl
    have hl : s.data.toList = 116 :: (Lib.decDigits u ++ [46, UInt8.ofNat (sufI u).toNat]) := by rw [hs]; exact tokB_list
    have hlen : s.size = (Lib.decDigits u).length + 3 := by rw [size_list, hl]; simp
    have hpos : 0 < (Lib.decDigits u).length := List.length_pos_iff.2 (digits_ne u)
    have he : (s.extract 1 (s.size - 2)).data.toList = Lib.decDigits u := by
      rw [extract_list, hl, hlen, show (Lib.decDigits u).length + 3 - 2 = (Lib.decDigits u).length + 1 by omega]
      simp
    unfold parN
    rw [if_pos (by omega), he, parseInt_digits hu]
    simp only
    rw [if_pos ⟨h1, h2⟩]
/-- The reference's loop over the letters: k more at the most. -/
def rpl : Nat → List UInt8 → Int → Int
  | 0, _, n => n
  | _, [], n => n
  | k + 1, c :: r, n => if (48 ≤ c.toNat ∧ c.toNat ≤ 57) ∧ n ≤ 1099511627776 then rpl k r (10 * n + ((c.toNat : Int) - 48)) else n
theorem rpl_digits : ∀ (u : Nat) (k : Nat) (r : List UInt8), u ≤ 1099511627776 → (Lib.decDigits u).length ≤ k → rpl k (Lib.decDigits u ++ r) 0 = rpl (k - (Lib.decDigits u).length) r u := by
  intro u
  induction u using Nat.strongRecOn with
  | ind u ih =>
    intro k r hu hk
    by_cases h : u < 10
    · rw [Lib.decDigits_one h] at hk ⊢
      obtain ⟨k, rfl⟩ : ∃ j, k = j + 1 := ⟨k - 1, by simp at hk; omega⟩
      rw [List.singleton_append, rpl, digit_toNat h, if_pos (by omega)]
      simp
      congr 1; omega
    · have hl : (Lib.decDigits u).length = (Lib.decDigits (u / 10)).length + 1 := by rw [decDigits_step h]; simp
      rw [hl] at hk ⊢
      rw [decDigits_step h, List.append_assoc, ih (u / 10) (by omega) k _ (by omega) (by omega), List.singleton_append]
      obtain ⟨j, hj⟩ : ∃ j, k - (Lib.decDigits (u / 10)).length = j + 1 := ⟨k - (Lib.decDigits (u / 10)).length - 1, by omega⟩
      rw [hj, rpl, digit_toNat (by omega), if_pos (by omega), show k - ((Lib.decDigits (u / 10)).length + 1) = j by omega]
      congr 1; omega
theorem rpl_tok {s : ByteArray} {n : Int} (h : parN s = some n) : rpl 19 (s.data.toList.drop 1) 0 = n := by
  obtain ⟨h1, h2⟩ := parN_some.1 h
  have hb := tokE_iff.1 h1
  have h0 : 0 ≤ n := by unfold tokBad at hb; simp only [Bool.or_eq_false_iff, decide_eq_false_iff_not] at hb; omega
  obtain ⟨u, rfl⟩ := Int.eq_ofNat_of_zero_le h0
  have hu := tokBad_nat.1 hb
  have hs : s = tokB u := by rw [← h2]; unfold tokV; rw [hb]; rfl
  rw [hs, tokB_list]
  have hl : (Lib.decDigits u).length ≤ 13 := by rw [Lib.decDigits_length]; exact nDigits_le 13 u (by omega) (by omega)
  show rpl 19 (Lib.decDigits u ++ _) 0 = _
  rw [rpl_digits u 19 _ hu (by omega)]
  obtain ⟨j, hj⟩ : ∃ j, 19 - (Lib.decDigits u).length = j + 1 := ⟨18 - (Lib.decDigits u).length, by omega⟩
  rw [hj, rpl, if_neg (by intro h; have := h.1.1; simp at this)]
theorem rpl_par (s : ByteArray) : (if tokE (rpl 19 (s.data.toList.drop 1) 0) = 0 ∧ tokV (rpl 19 (s.data.toList.drop 1) 0) = s then some (rpl 19 (s.data.toList.drop 1) 0) else none) = parN s := by
  cases h : parN s with
  | some n =>
    rw [rpl_tok h, if_pos (parN_some.1 h)]
  | none =>
    split
    · rename_i hh; rw [parN_some.2 hh] at h; cases h
    · rfl
end Go.Proofs.YtaoafjlocjjbbaaGreatDoor
