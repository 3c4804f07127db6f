/- WholeRecords: stream, gap and ring side by side; the end. -/
import Derived.Test.YtpnghjmphbhkjaaXP3
namespace Go.Proofs.Ytpnghjmphbhkjaa
open Go.Sp
set_option linter.unusedSimpArgs false
set_option linter.unusedVariables false
/-- What an append to the stream turns. -/
def pLog (o : Blk) : Prop := isCells 102 o ∨ isRow 36 o
theorem Step.ks {σ σ' : Hp} {g : Nat} {v v' : Value} {H : List (List ByteArray)} (h : Step σ g v σ' v') (hL : LogAt σ g v H) : KSame pLog σ σ' :=
  KSame.ofSame h.1 fun k o hk ho => by
    rcases hk with rfl | hk
    · rw [hL.cell] at ho; cases ho; exact .inl rfl
    · obtain ⟨vs, hr, _⟩ := hL.rows
      rcases hr with ⟨rfl, _⟩ | ⟨b, c, rfl, _, hb⟩
      · cases hk
      · cases hk; rw [hb] at ho; cases ho; exact .inr rfl
/-- The stream, the gap at a and the ring at r over a heap. -/
structure WR (σ0 σ : Hp) (gl g m gr b C : Nat) (v : Value) (H : List (List ByteArray)) (a r : Nat) : Prop where
  ro : RoHeap σ0
  sub : Sub σ0 σ
  log : LogAt σ gl v H
  gap : GapAt σ g m H a
  ring : RecAt σ gr b C (runM C (H.take r)).1 (runM C (H.take r)).2 r
/-- The same before a record has come. -/
structure WR0 (σ0 σ : Hp) (gl g m gr b C : Nat) (v : Value) (H : List (List ByteArray)) : Prop where
  ro : RoHeap σ0
  sub : Sub σ0 σ
  log : LogAt σ gl v H
  gcell : σ g = some (.cells [.int .i64 0, .int .i64 256, .map (some m)] 121)
  gm : σ m = some (.im [])
  ring : RecAt σ gr b C [] 0 0
theorem WR0.done {σ0 σ : Hp} {gl g m gr b C : Nat} {v : Value} {H : List (List ByteArray)} (h : WR0 σ0 σ gl g m gr b C v H) : WR σ0 σ gl g m gr b C v H 0 0 :=
  ⟨h.ro, h.sub, h.log, ⟨h.gcell, ⟨[], h.gm, List.Pairwise.nil, fun p hp => by cases hp⟩, Nat.zero_le _⟩, h.ring⟩
theorem WR0.fresh {σ0 σ : Hp} {gl g m gr b C : Nat} {v : Value} {H : List (List ByteArray)} (h : WR0 σ0 σ gl g m gr b C v H) {x : Nat} (hx : σ x = none) (o : Blk) : WR0 σ0 (upd σ x o) gl g m gr b C v H := by
  have hs := (KSame.refl (fun _ => False) σ).new hx o
  exact ⟨h.ro, hs.sub h.ro h.sub (fun _ x => x), h.log.ks hs (fun _ x => x) (fun _ _ x => x) (fun _ _ x => x), hs _ _ h.gcell (fun x => x), hs _ _ h.gm (fun x => x), h.ring.ks hs (fun _ x => x) (fun _ _ x => x)⟩
theorem WR.fresh {σ0 σ : Hp} {gl g m gr b C : Nat} {v : Value} {H : List (List ByteArray)} {a r : Nat} (h : WR σ0 σ gl g m gr b C v H a r) {x : Nat} (hx : σ x = none) (o : Blk) : WR σ0 (upd σ x o) gl g m gr b C v H a r := by
  have hs := (KSame.refl (fun _ => False) σ).new hx o
  exact ⟨h.ro, hs.sub h.ro h.sub (fun _ x => x), h.log.ks hs (fun _ x => x) (fun _ _ x => x) (fun _ _ x => x), h.gap.ks hs (fun _ x => x) (fun _ x => x) (fun _ _ x => x), h.ring.ks hs (fun _ x => x) (fun _ _ x => x)⟩
theorem WR0.append {σ0 σ σ' : Hp} {gl g m gr b C : Nat} {v v' : Value} {H : List (List ByteArray)} {ks : List ByteArray} (h : WR0 σ0 σ gl g m gr b C v H) (hl : LogAt σ' gl v' (H ++ [ks])) (hst : Step σ gl v σ' v') : WR0 σ0 σ' gl g m gr b C v' (H ++ [ks]) := by
  have hs := hst.ks h.log
  refine ⟨h.ro, hs.sub h.ro h.sub ?_, hl, hs _ _ h.gcell ?_, hs _ _ h.gm ?_, h.ring.ks hs ?_ ?_⟩
  · rintro x (q | q) <;> exact q
  · rintro (q | q)
    · exact absurd (show (121 : Nat) = 102 from q) (by decide)
    · exact q
  · rintro (q | q) <;> exact q
  · rintro cs (q | q)
    · exact absurd (show (125 : Nat) = 102 from q) (by decide)
    · exact q
  · rintro cs r (q | q)
    · exact q
    · exact absurd (show (130 : Nat) = 36 from q) (by decide)
theorem WR.toGap {σ0 σ σ' : Hp} {gl g m gr b C : Nat} {v : Value} {H : List (List ByteArray)} {a a' r : Nat} (h : WR σ0 σ gl g m gr b C v H a r) (hg : GapAt σ' g m H a') (hs : KSame pGap σ σ') : WR σ0 σ' gl g m gr b C v H a' r := by
  refine ⟨h.ro, hs.sub h.ro h.sub ?_, h.log.ks hs ?_ ?_ pGap_9, hg, h.ring.ks hs ?_ ?_⟩
  · rintro x (q | q | q) <;> exact q
  · rintro cs (q | q | q)
    · exact absurd (show (102 : Nat) = 121 from q) (by decide)
    · exact q
    · exact q
  · rintro cs r (q | q | q)
    · exact q
    · exact q
    · exact absurd (show (36 : Nat) = 51 from q) (by decide)
  · rintro cs (q | q | q)
    · exact absurd (show (125 : Nat) = 121 from q) (by decide)
    · exact q
    · exact q
  · rintro cs r (q | q | q)
    · exact q
    · exact q
    · exact absurd (show (130 : Nat) = 51 from q) (by decide)
theorem WR.toRing {σ0 σ σ' : Hp} {gl g m gr b C : Nat} {v : Value} {H : List (List ByteArray)} {a r r' : Nat} (h : WR σ0 σ gl g m gr b C v H a r) (hg : RecAt σ' gr b C (runM C (H.take r')).1 (runM C (H.take r')).2 r') (hs : KSame pRec σ σ') : WR σ0 σ' gl g m gr b C v H a r' := by
  refine ⟨h.ro, hs.sub h.ro h.sub ?_, h.log.ks hs ?_ ?_ pRec_9, h.gap.ks hs ?_ ?_ pRec_9, hg⟩
  · rintro x (q | q) <;> exact q
  · rintro cs (q | q)
    · exact absurd (show (102 : Nat) = 125 from q) (by decide)
    · exact q
  · rintro cs r (q | q)
    · exact q
    · exact absurd (show (36 : Nat) = 130 from q) (by decide)
  · rintro cs (q | q)
    · exact absurd (show (121 : Nat) = 125 from q) (by decide)
    · exact q
  · rintro l (q | q) <;> exact q
set_option maxHeartbeats 2000000 in
theorem tail4 {σ0 σ : Hp} {gl g m gr b C : Nat} {v : Value} {H : List (List ByteArray)} {a : Nat} (hW : WR σ0 σ gl g m gr b C v H a a) (h1 : 1 ≤ a) (hC : C ≤ 255) (hH : H.length ≤ 255) (k : ByteArray) (c : Nat) (hc : c ≤ 255) {s : Sl} (s3 : s 3 = .string k) (s4 : s 4 = .int .u8 c) (s11 : s 11 = .pointer (some ⟨gl, 0, none⟩)) (s12 : s 12 = .pointer (some ⟨g, 0, none⟩)) (s13 : s 13 = .pointer (some ⟨gr, 0, none⟩)) :
    codeF Try.prog c4_t2 (fin r4 fun u σ' => u = .bool true ∧ σ' = σ0) s σ ⟨⟩ := by
  have hcw : IntKind.i64.wrap (c : Int) = c := wi64 (by omega)
  have q1 := at21 hW.gap
  have q2 := last19 hW.ring
  have q3 := covers22 hW.ring c
  have q4 := first14 hW.log k c (by omega)
  have q5 := first23 hW.ring hC k c
  have d1 : decide ((a : Int) < 1) = false := by simp; omega
  have HW := Hid.mk hW
  have hle := hW.gap.le
  clear hW
  unfold c4_t2 r4
  cases hB : decide ((runM C (H.take a)).2 ≤ c) && decide (c ≤ a) with
  | false =>
    rw [hB] at q3
    clear hB
    (repeat' (first | (simp +contextual -dsimp only [*, bne_self_eq_false, Bool.not_true, Bool.not_false, beq_self_eq_true, ↓reduceIte, ↓evP, evQ, splice, Nat.reduceAdd, Nat.reduceEqDiff, Nat.reduceLeDiff, Nat.reduceMul, reduceCtorEq, Int.reduceLT, Int.reduceLE, Int.reduceGT, Int.reduceGE, Int.reduceEq, Int.reduceNeg]) | (refine condF_split (fun hc => ?_) (fun hc => ?_) <;> (try simp only [Bool.not_eq_true', Bool.not_eq_false', Bool.and_eq_true, Bool.or_eq_false_iff] at hc)) | refine callF_v (q1) ?_ | refine callF_v (q2) ?_ | refine callF_v (q3) ?_ | refine ccallF_of (q1) ?_ | refine ccallF_of (q2) ?_ | refine ccallF_of (q3) ?_ | refine gcallF_of (q1) ?_ | refine gcallF_of (q2) ?_ | refine gcallF_of (q3) ?_ | (intro _; intros) | (refine And.intro ?_ ?_; focus (first | omega | ((repeat (first | exact Sub.refl _ | (refine Sub.drop ?_ ?_; focus (simp only [evN, *]; done)) | refine Sub.both ?_)); done) | (simp_all; done) | (simp_all; omega)))))
    exact endF_det rfl HW.out.sub
  | true =>
    rw [hB] at q3
    simp only [Bool.and_eq_true, decide_eq_true_eq] at hB
    have hlaw := first_law (C := C) k hle hB.1 hB.2
    clear hB
    generalize hF : firstV H k c = F at hlaw q4
    generalize hM : firstM (runM C (H.take a)).1 k c = M at hlaw q5
    obtain ⟨n1, b1⟩ := F
    obtain ⟨n2, b2⟩ := M
    clear hF hM
    cases b1 with
    | false =>
      rw [if_neg (by simp)] at hlaw
      cases hlaw
      (repeat' (first | (simp +contextual -dsimp only [*, bne_self_eq_false, Bool.not_true, Bool.not_false, beq_self_eq_true, ↓reduceIte, ↓evP, evQ, splice, Nat.reduceAdd, Nat.reduceEqDiff, Nat.reduceLeDiff, Nat.reduceMul, reduceCtorEq, Int.reduceLT, Int.reduceLE, Int.reduceGT, Int.reduceGE, Int.reduceEq, Int.reduceNeg]) | (refine condF_split (fun hc => ?_) (fun hc => ?_) <;> (try simp only [Bool.not_eq_true', Bool.not_eq_false', Bool.and_eq_true, Bool.or_eq_false_iff] at hc)) | refine callF_v (q1) ?_ | refine callF_v (q2) ?_ | refine callF_v (q3) ?_ | refine callF_v (q4) ?_ | refine callF_v (q5) ?_ | refine ccallF_of (q1) ?_ | refine ccallF_of (q2) ?_ | refine ccallF_of (q3) ?_ | refine ccallF_of (q4) ?_ | refine ccallF_of (q5) ?_ | refine gcallF_of (q1) ?_ | refine gcallF_of (q2) ?_ | refine gcallF_of (q3) ?_ | refine gcallF_of (q4) ?_ | refine gcallF_of (q5) ?_ | (intro _; intros) | (refine And.intro ?_ ?_; focus (first | omega | ((repeat (first | exact Sub.refl _ | (refine Sub.drop ?_ ?_; focus (simp only [evN, *]; done)) | refine Sub.both ?_)); done) | (simp_all; done) | (simp_all; omega)))))
      exact endF_det rfl HW.out.sub
    | true =>
      cases hd : decide (n1 > (a : Int)) with
      | true =>
        rw [if_pos ⟨rfl, by have := of_decide_eq_true hd; exact this⟩] at hlaw
        have hlaw : b2 = false := hlaw
        subst hlaw
        (repeat' (first | (simp +contextual -dsimp only [*, bne_self_eq_false, Bool.not_true, Bool.not_false, beq_self_eq_true, ↓reduceIte, ↓evP, evQ, splice, Nat.reduceAdd, Nat.reduceEqDiff, Nat.reduceLeDiff, Nat.reduceMul, reduceCtorEq, Int.reduceLT, Int.reduceLE, Int.reduceGT, Int.reduceGE, Int.reduceEq, Int.reduceNeg]) | (refine condF_split (fun hc => ?_) (fun hc => ?_) <;> (try simp only [Bool.not_eq_true', Bool.not_eq_false', Bool.and_eq_true, Bool.or_eq_false_iff] at hc)) | refine callF_v (q1) ?_ | refine callF_v (q2) ?_ | refine callF_v (q3) ?_ | refine callF_v (q4) ?_ | refine callF_v (q5) ?_ | refine ccallF_of (q1) ?_ | refine ccallF_of (q2) ?_ | refine ccallF_of (q3) ?_ | refine ccallF_of (q4) ?_ | refine ccallF_of (q5) ?_ | refine gcallF_of (q1) ?_ | refine gcallF_of (q2) ?_ | refine gcallF_of (q3) ?_ | refine gcallF_of (q4) ?_ | refine gcallF_of (q5) ?_ | (intro _; intros) | (refine And.intro ?_ ?_; focus (first | omega | ((repeat (first | exact Sub.refl _ | (refine Sub.drop ?_ ?_; focus (simp only [evN, *]; done)) | refine Sub.both ?_)); done) | (simp_all; done) | (simp_all; omega)))))
        exact endF_det rfl HW.out.sub
      | false =>
        rw [if_neg (by rintro ⟨_, h⟩; exact of_decide_eq_false hd h)] at hlaw
        cases hlaw
        (repeat' (first | (simp +contextual -dsimp only [*, bne_self_eq_false, Bool.not_true, Bool.not_false, beq_self_eq_true, ↓reduceIte, ↓evP, evQ, splice, Nat.reduceAdd, Nat.reduceEqDiff, Nat.reduceLeDiff, Nat.reduceMul, reduceCtorEq, Int.reduceLT, Int.reduceLE, Int.reduceGT, Int.reduceGE, Int.reduceEq, Int.reduceNeg]) | (refine condF_split (fun hc => ?_) (fun hc => ?_) <;> (try simp only [Bool.not_eq_true', Bool.not_eq_false', Bool.and_eq_true, Bool.or_eq_false_iff] at hc)) | refine callF_v (q1) ?_ | refine callF_v (q2) ?_ | refine callF_v (q3) ?_ | refine callF_v (q4) ?_ | refine callF_v (q5) ?_ | refine ccallF_of (q1) ?_ | refine ccallF_of (q2) ?_ | refine ccallF_of (q3) ?_ | refine ccallF_of (q4) ?_ | refine ccallF_of (q5) ?_ | refine gcallF_of (q1) ?_ | refine gcallF_of (q2) ?_ | refine gcallF_of (q3) ?_ | refine gcallF_of (q4) ?_ | refine gcallF_of (q5) ?_ | (intro _; intros) | (refine And.intro ?_ ?_; focus (first | omega | ((repeat (first | exact Sub.refl _ | (refine Sub.drop ?_ ?_; focus (simp only [evN, *]; done)) | refine Sub.both ?_)); done) | (simp_all; done) | (simp_all; omega)))))
        exact endF_det rfl HW.out.sub
end Go.Proofs.Ytpnghjmphbhkjaa
