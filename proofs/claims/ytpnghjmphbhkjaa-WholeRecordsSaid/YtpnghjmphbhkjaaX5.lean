/- A slice of texts sorted, and of those that stand twice one taken out: over known heaps. -/
import Derived.Test.YtpnghjmphbhkjaaXS
import Derived.Test.YtpnghjmphbhkjaaXP1
import Derived.Test.YtpnghjmphbhkjaaSpL
namespace Go.Proofs.Ytpnghjmphbhkjaa
open Go.Sp
open Go.RowKit (Below)
open Go.Sort (Holds putRow)
open Go.Proofs (encStr)
set_option linter.unusedSimpArgs false
set_option linter.unusedVariables false
/-- A contract that hands back a new row and leaves all that was there as it was. -/
theorem _root_.Go.Sp.acalls_own {P : Program} {f : FuncId} {args : Array Value} {σ : Hp} {E sz n : Nat} {xs : List Value} (h : ∀ w, Sat σ w → Calls P f args w fun e w' => ∃ v, e = .returned v ∧ w'.ownsRow w.heap.size E sz v n xs ∧ Below w.heap.size w w') :
    ACalls P f args σ fun v σ' => (n = 0 ∧ v = .slice none 0 0 ∧ σ' = σ) ∨ ∃ b c, σ b = none ∧ n ≤ c ∧ v = .slice (some ⟨b, 0, none⟩) n c ∧ σ' = upd σ b (.row xs (c * sz) E) := fun w hs => (h w hs).mono fun e w' ⟨v, he, ho, hb⟩ => by
  have hbase : Sat σ w' := fun b o hbo => by rw [hb.block b (hs.lt (by rw [hbo]; simp))]; exact hs b o hbo
  rcases ho.2 with ⟨rfl, hn⟩ | ⟨g, cap, cur, rfl, hg, hcell, h1, h2, h3, h4⟩
  · exact ⟨_, σ, he, hbase, ⟨hb.os, hb.tape, hb.output, hb.size, fun k hk _ => hb.block k hk, fun _ _ hn => hn⟩, .inl ⟨hn, rfl, rfl⟩⟩
  · have hn : σ g = none := hs.none_of_le hg
    refine ⟨_, upd σ g (.row xs (cap * sz) E), he, fun b o hbo => ?_, ⟨hb.os, hb.tape, hb.output, hb.size, fun k hk _ => hb.block k hk, fun k hk hkn => by rw [upd_ne _ _ (by omega)]; exact hkn⟩, .inr ⟨g, cap, hn, h1, rfl, rfl⟩⟩
    by_cases e : b = g
    · subst e
      rw [upd_same] at hbo; cases hbo
      refine ⟨cur.toList.drop (n * sz), ?_, ?_⟩
      · rw [← h4, List.length_take, List.length_drop, Array.length_toList, h3]
        have := Nat.mul_le_mul_right sz h1
        omega
      · rw [hcell, ← h4, List.take_append_drop]
    · rw [upd_ne _ _ e] at hbo; exact hbase b o hbo
def bytesOf (k : ByteArray) : List UInt8 := k.data.toList
theorem enc_bytes (k : ByteArray) : encStr (bytesOf k) = .string k := by
  unfold encStr bytesOf; cases k; simp
def sortedK (ks : List ByteArray) : List (List UInt8) := (ks.map bytesOf).mergeSort (fun x y => decide (x ≤ y))
theorem sortedK_len (ks : List ByteArray) : (sortedK ks).length = ks.length := by unfold sortedK; rw [List.length_mergeSort, List.length_map]
theorem values75 (v : Value) (hv : Go.Sp.one v = true) (σ : Hp) : ACalls Try.prog 75 #[v] σ fun u σ' => ∃ b, σ b = none ∧ u = .func (.func 98) #[] #[.pointer (some ⟨b, 0, none⟩)] ∧ σ' = upd σ b (.cells (cl v) 36) := by
  (refine acalls_F ok75 (by simp) ?_; unfold c75 r75)
  (repeat' (first | (simp +contextual -dsimp only [*, ↓reduceIte, ↓evP, evQ, splice, Nat.reduceAdd, Nat.reduceEqDiff, Nat.reduceLeDiff, Nat.reduceMul, reduceCtorEq, Int.reduceLT, Int.reduceLE, Int.reduceGT, Int.reduceGE, Int.reduceEq, Int.reduceNeg]) | (refine condF_split (fun hc => ?_) (fun hc => ?_) <;> (try simp only [Bool.not_eq_true', Bool.not_eq_false', Bool.and_eq_true, Bool.or_eq_false_iff] at hc)) | (intro _; intros) | (refine And.intro ?_ ?_; focus (first | omega | ((repeat (first | exact Sub.refl _ | (refine Sub.drop ?_ ?_; focus (simp only [evN, *]; done)) | refine Sub.both ?_)); done) | (simp_all; done) | (simp_all; omega)))))
  rename_i b hb
  exact endF_at ⟨b, hb, rfl, rfl⟩
theorem sorted69a {σ : Hp} {Bs : Nat} {A : Option Addr} {c : Nat} {ks : List ByteArray} (hB : σ Bs = some (.cells [.slice A ks.length c] 36)) (hv : RoRows 1 sC σ (.slice A ks.length c) ks) (h0 : ks ≠ []) (hn : ks.length ≤ 1048576) :
    ACalls Try.prog 69 #[.func (.func 98) #[] #[.pointer (some ⟨Bs, 0, none⟩)]] σ fun u σ' => ∃ b c, σ b = none ∧ ks.length ≤ c ∧ u = .slice (some ⟨b, 0, none⟩) ks.length c ∧ σ' = upd σ b (.row ((sortedK ks).map encStr) (c * 1) 9) := by
  have key : ACalls Try.prog 69 #[.func (.func 98) #[] #[.pointer (some ⟨Bs, 0, none⟩)]] σ _ := acalls_own (E := 9) (sz := 1) (n := ks.length) (xs := (sortedK ks).map encStr) fun w hs => by
    obtain ⟨A', c', e, hrow⟩ := hv
    cases e
    obtain ⟨x0, hx0⟩ : ∃ x, ks[0]? = some x := ⟨_, List.getElem?_eq_getElem (by rcases ks with _ | ⟨a, l⟩; exact absurd rfl h0; simp)⟩
    obtain ⟨b, o, rfl, hr0⟩ := hrow 0 x0 hx0
    have hcell : w.cell? ⟨Bs, 0, none⟩ = some (.slice (some ⟨b, o, none⟩) (ks.map bytesOf).length c) := by
      rw [List.length_map]
      refine rd_cell hs ?_
      unfold rd; rw [hB]; rfl
    have hq : SeqB 98 #[.pointer (some ⟨Bs, 0, none⟩)] (ks.map bytesOf) w := by
      refine seqB98 (by rw [List.length_map]; omega) (hs.lt (by rw [hB]; simp)) (hs.lt (rdn_known hr0)) hcell fun j x hx => ?_
      rw [List.getElem?_map] at hx
      obtain ⟨k, hk, rfl⟩ := Option.map_eq_some_iff.1 hx
      obtain ⟨b', o', e, hr⟩ := hrow j k hk
      cases e
      rw [enc_bytes]
      have := rd_cell hs (rd_of_rdn hr)
      rwa [Nat.mul_one] at this
    have := sorted69 98 #[.pointer (some ⟨Bs, 0, none⟩)] (enters_of Try.func98 (by kernel_rfl) rfl) (ks.map bytesOf) (by rw [List.length_map]; unfold maxLen; omega) (by rw [List.length_map]; omega) w hq
    rw [List.length_map] at this
    exact this
  refine key.mono fun v σ' h => ?_
  rcases h with ⟨hz, _, _⟩ | h
  · exact absurd (List.eq_nil_of_length_eq_zero hz) h0
  · exact h
/-- slices.Compact of a row of its own. -/
theorem compact76 {τ : Hp} {b c : Nat} {zs : List (List UInt8)} {n : Nat} (hn : zs.length = n) (hc : n ≤ c) (hsz : n ≤ 1048576) :
    ACalls Try.prog 76 #[.slice (some ⟨b, 0, none⟩) n c] (upd τ b (.row (zs.map encStr) (c * 1) 9)) fun u σ' => u = .slice (some ⟨b, 0, none⟩) (Lib.compact zs).length c ∧ σ' = upd τ b .dead := fun w hs => by
  subst hn
  obtain ⟨rest, hl, hcell⟩ := hs b _ (upd_same _ _ _)
  have hlt : b < w.heap.size := (Array.getElem?_eq_some_iff.1 hcell).1
  have hH : Holds encStr w b 0 zs.toArray := Go.holds_of_block hcell (by simp)
  refine (Go.Proofs.Any.slices_Compact_string Try.compL b 0 c zs w hH (by omega) hc).mono fun e w' ⟨he, q, hw⟩ => ?_
  refine ⟨_, upd τ b .dead, he, fun k o hk => ?_, ?_, rfl, rfl⟩
  · subst hw
    show o.at (w.heap.modify b _)[k]?
    rw [Array.getElem?_modify]
    by_cases e : b = k
    · subst e
      rw [upd_same] at hk; cases hk
      rw [if_pos rfl, hcell]; rfl
    · rw [if_neg e]
      rw [upd_ne _ _ (fun x => e x.symm)] at hk
      exact hs k o (by rw [upd_ne _ _ (fun x => e x.symm)]; exact hk)
  · subst hw
    refine ⟨rfl, rfl, rfl, ?_, fun k hk hkn => ?_, fun k hk hkn => ?_⟩
    · show w.heap.size ≤ (w.heap.modify b _).size
      rw [Array.size_modify]; exact Nat.le_refl _
    · have e : ¬ b = k := fun e => by subst e; rw [upd_same] at hkn; cases hkn
      show (w.heap.modify b _)[k]? = _
      rw [Array.getElem?_modify, if_neg e]
    · have e : k ≠ b := fun e => by subst e; rw [upd_same] at hkn; cases hkn
      rw [upd_ne _ _ e] at hkn ⊢; exact hkn
theorem compact_nodup {zs : List (List UInt8)} (h : zs.Nodup) : (Lib.compact zs).length = zs.length := by
  unfold Lib.compact
  rw [Lib.compactUpTo_all]
  · simp
  · intro j hj
    unfold Lib.keeps
    rw [decide_eq_true_eq]
    rcases Nat.eq_zero_or_pos j with rfl | hpos
    · exact .inl rfl
    · refine .inr fun e => ?_
      rw [getElem!_pos _ _ (by simpa using hj), getElem!_pos _ _ (by simp; omega)] at e
      simp only [List.getElem_toArray] at e
      exact List.pairwise_iff_getElem.1 h (j - 1) j (by omega) hj (by omega) e.symm
theorem sorted_nodup {ks : List ByteArray} (h : ks.Nodup) : (sortedK ks).Nodup := by
  unfold sortedK
  rw [(List.mergeSort_perm _ _).nodup_iff]
  refine List.pairwise_map.2 (List.Pairwise.imp (fun {a b} hab e => hab ?_) h)
  unfold bytesOf at e
  cases a; cases b
  exact congrArg _ (Array.toList_inj.1 e)
end Go.Proofs.Ytpnghjmphbhkjaa
