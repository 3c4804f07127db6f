/- A gap: new, what is put in, where it stands. -/
import Derived.Test.YtpnghjmphbhkjaaX22
namespace Go.Proofs.Ytpnghjmphbhkjaa
open Go.Sp
set_option linter.unusedSimpArgs false
set_option linter.unusedVariables false
theorem clear52 {τ : Hp} {g : Nat} {a b : Value} {c : Value} (n : Int) : ACalls Try.prog 52 #[.pointer (some ⟨g, 0, none⟩), .int .i64 n] (upd τ g (.cells [a, b, c] 121)) fun u σ' => ∃ m, ¬ m = g ∧ τ m = none ∧ u = .tuple #[] ∧ σ' = upd (upd τ m (.im [])) g (.cells [.int .i64 (mnI (mxI n 0) 1099511627776), b, .map (some m)] 121) := by
  (refine acalls_F ok52 (by simp) ?_; unfold c52 r52)
  (repeat' (first | (simp +contextual -dsimp only [*, Option.getD_some, Option.isSome_some, ↓reduceIte, ↓evP, evQ, splice, Nat.reduceAdd, Nat.reduceEqDiff, Nat.reduceLeDiff, Nat.reduceMul, reduceCtorEq, Int.reduceLT, Int.reduceLE, Int.reduceGT, Int.reduceGE, Int.reduceEq, Int.reduceNeg]) | (refine condF_split (fun hc => ?_) (fun hc => ?_) <;> (try simp only [Bool.not_eq_true', Bool.not_eq_false', Bool.and_eq_true, Bool.or_eq_false_iff] at hc)) | (intro _; intros) | (refine And.intro ?_ ?_; focus (first | omega | ((repeat (first | exact Sub.refl _ | (refine Sub.drop ?_ ?_; focus (simp only [evN, *]; done)) | refine Sub.both ?_)); done) | (simp_all; done) | (simp_all; omega)))))
  rename_i m h1 h2 h3
  refine endF_at ⟨m, h1, h3, rfl, ?_⟩
  rw [upd_comm _ _ _ (fun e => h1 e.symm)]
theorem new15 (σ : Hp) : ACalls Try.prog 15 #[.int .i64 0, .int .i64 256] σ fun u σ' => ∃ g m, ¬ m = g ∧ σ g = none ∧ σ m = none ∧ u = .pointer (some ⟨g, 0, none⟩) ∧ σ' = upd (upd σ m (.im [])) g (.cells [.int .i64 0, .int .i64 256, .map (some m)] 121) := by
  (refine acalls_F ok15 (by simp) ?_; unfold c15 r15)
  (repeat' (first | (simp +contextual -dsimp only [*, Option.getD_some, Option.isSome_some, ↓reduceIte, ↓evP, evQ, splice, Nat.reduceAdd, Nat.reduceEqDiff, Nat.reduceLeDiff, Nat.reduceMul, reduceCtorEq, Int.reduceLT, Int.reduceLE, Int.reduceGT, Int.reduceGE, Int.reduceEq, Int.reduceNeg]) | (refine condF_split (fun hc => ?_) (fun hc => ?_) <;> (try simp only [Bool.not_eq_true', Bool.not_eq_false', Bool.and_eq_true, Bool.or_eq_false_iff] at hc)) | (intro _; intros) | (refine And.intro ?_ ?_; focus (first | omega | ((repeat (first | exact Sub.refl _ | (refine Sub.drop ?_ ?_; focus (simp only [evN, *]; done)) | refine Sub.both ?_)); done) | (simp_all; done) | (simp_all; omega)))))
  rename_i g g0
  refine callF_of (clear52 _) ?_
  rintro u σ' ⟨m, h1, h2, rfl, rfl⟩
  rw [show mnI (mxI 0 0) 1099511627776 = 0 by decide, show mnI (mxI 256 0) 256 = 256 by decide]
  (repeat' (first | (simp +contextual -dsimp only [*, Option.getD_some, Option.isSome_some, ↓reduceIte, ↓evP, evQ, splice, Nat.reduceAdd, Nat.reduceEqDiff, Nat.reduceLeDiff, Nat.reduceMul, reduceCtorEq, Int.reduceLT, Int.reduceLE, Int.reduceGT, Int.reduceGE, Int.reduceEq, Int.reduceNeg]) | (refine condF_split (fun hc => ?_) (fun hc => ?_) <;> (try simp only [Bool.not_eq_true', Bool.not_eq_false', Bool.and_eq_true, Bool.or_eq_false_iff] at hc)) | (intro _; intros) | (refine And.intro ?_ ?_; focus (first | omega | ((repeat (first | exact Sub.refl _ | (refine Sub.drop ?_ ?_; focus (simp only [evN, *]; done)) | refine Sub.both ?_)); done) | (simp_all; done) | (simp_all; omega)))))
  exact endF_at ⟨g, m, h1, g0, h2, rfl, rfl⟩
theorem gap_new {σ : Hp} {g m : Nat} (h1 : ¬ m = g) (H : List (List ByteArray)) : GapAt (upd (upd σ m (.im [])) g (.cells [.int .i64 0, .int .i64 256, .map (some m)] 121)) g m H 0 :=
  ⟨upd_same _ _ _, ⟨[], by rw [upd_ne _ _ h1, upd_same], List.Pairwise.nil, fun p hp => by cases hp⟩, Nat.zero_le _⟩
theorem at21 {σ : Hp} {g m a : Nat} {H : List (List ByteArray)} (h : GapAt σ g m H a) : ACalls Try.prog 21 #[.pointer (some ⟨g, 0, none⟩)] σ fun u σ' => u = .int .i64 (a : Nat) ∧ σ' = σ := by
  have hr : rd σ g 0 = some (.int .i64 (a : Nat)) := by unfold rd; rw [h.cell]; rfl
  clear h
  (refine acalls_F ok21 (by simp) ?_; unfold c21 r21)
  (repeat' (first | (simp +contextual -dsimp only [*, Option.getD_some, Option.isSome_some, ↓reduceIte, ↓evP, evQ, splice, Nat.reduceAdd, Nat.reduceEqDiff, Nat.reduceLeDiff, Nat.reduceMul, reduceCtorEq, Int.reduceLT, Int.reduceLE, Int.reduceGT, Int.reduceGE, Int.reduceEq, Int.reduceNeg]) | (refine condF_split (fun hc => ?_) (fun hc => ?_) <;> (try simp only [Bool.not_eq_true', Bool.not_eq_false', Bool.and_eq_true, Bool.or_eq_false_iff] at hc)) | (intro _; intros) | (refine And.intro ?_ ?_; focus (first | omega | ((repeat (first | exact Sub.refl _ | (refine Sub.drop ?_ ?_; focus (simp only [evN, *]; done)) | refine Sub.both ?_)); done) | (simp_all; done) | (simp_all; omega)))))
  all_goals (refine endF_det ?_ ?_; (focus ((try simp only [cond_true, cond_false, *]) <;> ((try simp only [decide_eq_true_eq, decide_eq_false_iff_not] at *) <;> first | rfl | (simp []; done) | (simp_all []; done) | (simp []; omega) | (simp []; (rw [Bool.eq_iff_iff]); simp; omega) | (simp_all [] <;> omega) | ((try unfold id); (rw [Value.bool.injEq, Bool.eq_iff_iff]); simp <;> omega) | ((try unfold id); (repeat' split) <;> simp_all <;> omega) | (simp_all [] <;> (repeat' split) <;> simp_all <;> omega)))); (focus ((try simp only [cond_true, cond_false, set_same, *]); exact (by (repeat (first | exact Sub.refl _ | (refine Sub.drop ?_ ?_; focus (simp only [evN, *]; done)) | refine Sub.both ?_)); done))))
/-- What Put answers: a list of what is in order now, and where the gap stands then. -/
def PutAt (σ : Hp) (g m a n : Nat) (H : List (List ByteArray)) (u : Value) (σ' : Hp) : Prop := ∃ v a', u = .tuple #[v, .bool false] ∧ a ≤ a' ∧ (n = a + 1 → a < a') ∧ GapAt σ' g m H a' ∧ OutAt σ' v H a (a' - a) ∧ KSame pGap σ σ'
theorem putAt_same {σ : Hp} {g m a n : Nat} {H : List (List ByteArray)} {σ1 : Hp} {δ} (h : GapAt σ g m H a) (hn : ¬ n = a + 1) (hs : Sub σ σ1) : endF (PutAt σ g m a n H) (.tuple #[.slice none 0 0, .bool false]) σ1 δ :=
  endF_sub hs ⟨_, a, rfl, Nat.le_refl _, fun e => absurd e hn, h, ⟨[], .inl ⟨rfl, rfl⟩, by simp, fun i p hp => by simp at hp⟩, KSame.refl _ _⟩
set_option maxHeartbeats 4000000 in
theorem put18 {σ : Hp} {g m a : Nat} {H : List (List ByteArray)} (h : GapAt σ g m H a) (n : Nat) (hn : 1 ≤ n ∧ n ≤ H.length) {kv : Value} (hr : RecRep σ H n kv) (hH : H.length ≤ 255) :
    ACalls Try.prog 18 #[.pointer (some ⟨g, 0, none⟩), .int .i64 (n : Nat), .agg #[.int .i64 (n : Nat), kv]] σ (PutAt σ g m a n H) := by
  obtain ⟨A, kn, kc, rfl⟩ : ∃ A n c, kv = .slice A n c := by obtain ⟨ks, _, _, h, _⟩ := hr; obtain ⟨A, c, e⟩ := h.slice; exact ⟨_, _, _, e⟩
  have HG := Hid.mk h
  have HR := Hid.mk hr
  obtain ⟨l, hw⟩ := h.waits
  have hcell := h.cell
  have hm := hw.map
  have hle := h.le
  have hgm : ¬ g = m := fun e => by rw [← e, hcell] at hm; cases hm
  have hmg : ¬ m = g := fun e => hgm e.symm
  have hw := Hid.mk hw
  clear h hr
  obtain ⟨τ, rfl⟩ := open_2 hcell hm hgm
  clear hcell hm
  have hbig : decide ((n : Int) > 1099511627776) = false := by simp; omega
  have e1 : IntKind.i64.wrap ((a : Int) + 1) = ((a + 1 : Nat) : Int) := by rw [wi64 (by omega)]; rfl
  have hlen : decide ((l.length : Int) ≥ 256) = false := by have := hw.out.len; simp; omega
  rcases Nat.lt_or_ge a n with hlt | hge
  · have hd : decide ((n : Int) ≤ (a : Int)) = false := by simp; omega
    cases hq : mget l (n : Int) with
    | some v =>
      have hne : ¬ n = a + 1 := fun e => by
        obtain ⟨j, kv, b1, b2, _⟩ := hw.out.each _ (mget_mem hq)
        have b1 : (n : Int) = (j : Int) := b1
        omega
      obtain ⟨A2, n2, c2, n3, rfl⟩ : ∃ A n' c n3, v = .agg #[.int .i64 n3, .slice A n' c] := by
        obtain ⟨j, kv, b1, b2, b3, b4, b5⟩ := hw.out.each _ (mget_mem hq)
        obtain ⟨ks, _, _, h, _⟩ := b5
        obtain ⟨A, c, e⟩ := h.slice
        exact ⟨_, _, _, _, by rw [← e]; exact b4⟩
      (refine acalls_F ok18 (by simp) ?_; unfold c18 r18)
      (repeat' (first | (simp +contextual -dsimp only [*, Option.getD_some, Option.isSome_some, ↓reduceIte, ↓evP, evQ, splice, Nat.reduceAdd, Nat.reduceEqDiff, Nat.reduceLeDiff, Nat.reduceMul, reduceCtorEq, Int.reduceLT, Int.reduceLE, Int.reduceGT, Int.reduceGE, Int.reduceEq, Int.reduceNeg]) | (refine condF_split (fun hc => ?_) (fun hc => ?_) <;> (try simp only [Bool.not_eq_true', Bool.not_eq_false', Bool.and_eq_true, Bool.or_eq_false_iff] at hc)) | (intro _; intros) | (refine And.intro ?_ ?_; focus (first | omega | ((repeat (first | exact Sub.refl _ | (refine Sub.drop ?_ ?_; focus (simp only [evN, *]; done)) | refine Sub.both ?_)); done) | (simp_all; done) | (simp_all; omega)))))
      exact putAt_same HG.out hne (by (repeat (first | exact Sub.refl _ | (refine Sub.drop ?_ ?_; focus (simp only [evN, *]; done)) | refine Sub.both ?_)); done)
    | none =>
      by_cases hne : n = a + 1
      · have he : decide ((n : Int) = ((a + 1 : Nat) : Int)) = true := by simp; omega
        have hnone := Hid.mk hq
        have HNE := Hid.mk hne
        clear hne
        (refine acalls_F ok18 (by simp) ?_; unfold c18 r18)
        (repeat' (first | (simp +contextual -dsimp only [*, Option.getD_some, Option.isSome_some, ↓reduceIte, ↓evP, evQ, splice, Nat.reduceAdd, Nat.reduceEqDiff, Nat.reduceLeDiff, Nat.reduceMul, reduceCtorEq, Int.reduceLT, Int.reduceLE, Int.reduceGT, Int.reduceGE, Int.reduceEq, Int.reduceNeg]) | (refine condF_split (fun hc => ?_) (fun hc => ?_) <;> (try simp only [Bool.not_eq_true', Bool.not_eq_false', Bool.and_eq_true, Bool.or_eq_false_iff] at hc)) | (intro _; intros) | (refine And.intro ?_ ?_; focus (first | omega | ((repeat (first | exact Sub.refl _ | (refine Sub.drop ?_ ?_; focus (simp only [evN, *]; done)) | refine Sub.both ?_)); done) | (simp_all; done) | (simp_all; omega)))))
        rename_i x x1 x1' x2 x2' x0 y y1 y1' y2 y2' y3 y3' y0
        have hx : upd (upd τ m (.im l)) g (.cells [.int .i64 (a : Nat), .int .i64 256, .map (some m)] 121) x = none := (by simp only [evN, *]; done)
        have hy : upd (upd (upd τ m (.im l)) g (.cells [.int .i64 (a : Nat), .int .i64 256, .map (some m)] 121)) x (.cells [.int .i64 (n : Nat), .slice A kn kc] 51) y = none := (by simp only [evN, *]; done)
        have hk : KSame pGap (upd (upd τ m (.im l)) g (.cells [.int .i64 (a : Nat), .int .i64 256, .map (some m)] 121)) (upd (upd (upd (upd τ m (.im l)) g (.cells [.int .i64 (a : Nat), .int .i64 256, .map (some m)] 121)) x (.cells [.int .i64 (n : Nat), .slice A kn kc] 51)) y (.cells [.int .i64 0, .slice none 0 0] 51)) := ((KSame.refl _ _).new hx _).trans ((KSame.refl _ _).new hy _)
        have hw2 : WaitsAt (upd (upd (upd (upd τ m (.im l)) g (.cells [.int .i64 (a : Nat), .int .i64 256, .map (some m)] 121)) x (.cells [.int .i64 (n : Nat), .slice A kn kc] 51)) y (.cells [.int .i64 0, .slice none 0 0] 51)) m H (a + 1) l :=
          ⟨(by first | (simp only [upd_at, *, ↓reduceIte]; done) | (simp only [upd_at, *, ↓reduceIte]; rfl)), hw.out.once, fun q hq' => by
            obtain ⟨j, kv, b1, b2, b3, b4, b5⟩ := hw.out.each q hq'
            exact ⟨j, kv, b1, b2, b3, b4, b5.ks hk pGap_9⟩⟩
        have hne := HNE.out
        subst hne
        refine callF_of (out53 (by first | (simp only [upd_at, *, ↓reduceIte]; done) | (simp only [upd_at, *, ↓reduceIte]; rfl)) hw2 (HR.out.ks hk pGap_9) (by omega) (by omega)) ?_
        rintro u σ' ⟨a', h1, h2, h3, h4⟩
        have H4 := Hid.mk (And.intro h2 (And.intro h3 (hk.trans h4)))
        clear h2 h3 h4 hw2
        (repeat' (first | (simp +contextual -dsimp only [*, Option.getD_some, Option.isSome_some, ↓reduceIte, ↓evP, evQ, splice, Nat.reduceAdd, Nat.reduceEqDiff, Nat.reduceLeDiff, Nat.reduceMul, reduceCtorEq, Int.reduceLT, Int.reduceLE, Int.reduceGT, Int.reduceGE, Int.reduceEq, Int.reduceNeg]) | (refine condF_split (fun hc => ?_) (fun hc => ?_) <;> (try simp only [Bool.not_eq_true', Bool.not_eq_false', Bool.and_eq_true, Bool.or_eq_false_iff] at hc)) | (intro _; intros) | (refine And.intro ?_ ?_; focus (first | omega | ((repeat (first | exact Sub.refl _ | (refine Sub.drop ?_ ?_; focus (simp only [evN, *]; done)) | refine Sub.both ?_)); done) | (simp_all; done) | (simp_all; omega)))))
        exact endF_at ⟨u, a', rfl, by omega, fun _ => h1, H4.out.1, H4.out.2.1, H4.out.2.2⟩
      · have he : decide ((n : Int) = ((a + 1 : Nat) : Int)) = false := by simp; omega
        have HNE := Hid.mk hne
        (refine acalls_F ok18 (by simp) ?_; unfold c18 r18)
        (repeat' (first | (simp +contextual -dsimp only [*, Option.getD_some, Option.isSome_some, ↓reduceIte, ↓evP, evQ, splice, Nat.reduceAdd, Nat.reduceEqDiff, Nat.reduceLeDiff, Nat.reduceMul, reduceCtorEq, Int.reduceLT, Int.reduceLE, Int.reduceGT, Int.reduceGE, Int.reduceEq, Int.reduceNeg]) | (refine condF_split (fun hc => ?_) (fun hc => ?_) <;> (try simp only [Bool.not_eq_true', Bool.not_eq_false', Bool.and_eq_true, Bool.or_eq_false_iff] at hc)) | (intro _; intros) | (refine And.intro ?_ ?_; focus (first | omega | ((repeat (first | exact Sub.refl _ | (refine Sub.drop ?_ ?_; focus (simp only [evN, *]; done)) | refine Sub.both ?_)); done) | (simp_all; done) | (simp_all; omega)))))
        rename_i x x1 x1' x2 x2' x0 y y1 y1' y2 y2' y3 y3' y0
        have hq0 : KSame pGap (upd (upd τ m (.im l)) g (.cells [.int .i64 (a : Nat), .int .i64 256, .map (some m)] 121)) (upd (upd τ m (.im (mput l (n : Int) (.agg #[.int .i64 (n : Nat), .slice A kn kc])))) g (.cells [.int .i64 (a : Nat), .int .i64 256, .map (some m)] 121)) :=
          ((KSame.refl _ _).both (.inr (.inl trivial)) _).both (.inl rfl) _
        refine endF_sub (σ := _) (τ := upd (upd τ m (.im (mput l (n : Int) (.agg #[.int .i64 (n : Nat), .slice A kn kc])))) g (.cells [.int .i64 (a : Nat), .int .i64 256, .map (some m)] 121)) (by (repeat (first | exact Sub.refl _ | (refine Sub.drop ?_ ?_; focus (simp only [evN, *]; done)) | refine Sub.both ?_)); done) ⟨_, a, rfl, Nat.le_refl _, fun e => absurd e HNE.out, ⟨upd_same _ _ _, ⟨_, by rw [upd_ne _ _ hmg, upd_same], ?_, fun q hq' => ?_⟩, hle⟩, ⟨[], .inl ⟨rfl, rfl⟩, by simp, fun i p hp => by simp at hp⟩, hq0⟩
        · rw [mput_new _ hq, List.map_append, List.nodup_append]
          refine ⟨hw.out.once, by simp, fun x hx y hy e => ?_⟩
          simp only [List.map_cons, List.map_nil, List.mem_singleton] at hy
          rw [e, hy] at hx
          exact mget_none hq hx
        · rw [mput_new _ hq] at hq'
          rcases List.mem_append.1 hq' with h | h
          · obtain ⟨j, kv, b1, b2, b3, b4, b5⟩ := hw.out.each q h
            exact ⟨j, kv, b1, b2, b3, b4, b5.ks hq0 pGap_9⟩
          · rw [List.mem_singleton] at h
            subst h
            exact ⟨n, .slice A kn kc, rfl, by have := HNE.out; omega, hn.2, rfl, HR.out.ks hq0 pGap_9⟩
  · have hd : decide ((n : Int) ≤ (a : Int)) = true := by simp; omega
    (refine acalls_F ok18 (by simp) ?_; unfold c18 r18)
    (repeat' (first | (simp +contextual -dsimp only [*, Option.getD_some, Option.isSome_some, ↓reduceIte, ↓evP, evQ, splice, Nat.reduceAdd, Nat.reduceEqDiff, Nat.reduceLeDiff, Nat.reduceMul, reduceCtorEq, Int.reduceLT, Int.reduceLE, Int.reduceGT, Int.reduceGE, Int.reduceEq, Int.reduceNeg]) | (refine condF_split (fun hc => ?_) (fun hc => ?_) <;> (try simp only [Bool.not_eq_true', Bool.not_eq_false', Bool.and_eq_true, Bool.or_eq_false_iff] at hc)) | (intro _; intros) | (refine And.intro ?_ ?_; focus (first | omega | ((repeat (first | exact Sub.refl _ | (refine Sub.drop ?_ ?_; focus (simp only [evN, *]; done)) | refine Sub.both ?_)); done) | (simp_all; done) | (simp_all; omega)))))
    exact putAt_same HG.out (by omega) (by (repeat (first | exact Sub.refl _ | (refine Sub.drop ?_ ?_; focus (simp only [evN, *]; done)) | refine Sub.both ?_)); done)
end Go.Proofs.Ytpnghjmphbhkjaa
