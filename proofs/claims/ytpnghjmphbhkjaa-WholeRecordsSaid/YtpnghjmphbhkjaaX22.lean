/- A gap gives out what is in order. -/
import Derived.Test.YtpnghjmphbhkjaaX21
namespace Go.Proofs.Ytpnghjmphbhkjaa
open Go.Sp
set_option linter.unusedSimpArgs false
set_option linter.unusedVariables false
set_option maxHeartbeats 4000000 in
theorem out53 {σ : Hp} {g m a0 : Nat} {H : List (List ByteArray)} {l0 : List (Int × Value)} {kv : Value} (hcell : σ g = some (.cells [.int .i64 (a0 : Nat), .int .i64 256, .map (some m)] 121)) (hw : WaitsAt σ m H (a0 + 1) l0) (hr : RecRep σ H (a0 + 1) kv) (hH : H.length < 1048576) (ha : a0 + 1 ≤ H.length) :
    ACalls Try.prog 53 #[.pointer (some ⟨g, 0, none⟩), .agg #[.int .i64 (a0 + 1 : Nat), kv]] σ fun u σ' => ∃ a, a0 < a ∧ GapAt σ' g m H a ∧ OutAt σ' u H a0 (a - a0) ∧ KSame pGap σ σ' := by
  obtain ⟨A, kc, hkv⟩ : ∃ A c, kv = .slice A ((H[a0]'(by omega)).length) c := by
    obtain ⟨ks, _, e, h, _⟩ := hr
    rw [Nat.add_sub_cancel, List.getElem?_eq_getElem (by omega)] at e
    have e := Option.some.inj e
    rw [e]; exact h.slice
  have hgm : ¬ g = m := fun e => by have := hw.map; rw [← e, hcell] at this; cases this
  have hmg : ¬ m = g := fun e => hgm e.symm
  have hw0 := Hid.mk hw
  have hr0 := Hid.mk hr
  have hm := hw.map
  clear hw hr
  obtain ⟨τ, hτ⟩ := open_2 hcell hm hgm
  have hG := Hid.mk (And.intro hcell hm)
  clear hcell hm
  obtain ⟨n, hn⟩ : ∃ n, n = (H[a0]'(by omega)).length := ⟨_, rfl⟩
  rw [← hn] at hkv
  clear hn
  subst hkv
  have e1 : IntKind.i64.wrap ((a0 : Int) + 1) = ((a0 + 1 : Nat) : Int) := by rw [wi64 (by omega)]; rfl
  subst hτ
  (refine acalls_F ok53 (by simp) ?_; unfold c53 r53)
  (repeat' (first | (simp +contextual -dsimp only [*, Option.getD_some, Option.isSome_some, ↓reduceIte, ↓evP, evQ, splice, Nat.reduceAdd, Nat.reduceEqDiff, Nat.reduceLeDiff, Nat.reduceMul, reduceCtorEq, Int.reduceLT, Int.reduceLE, Int.reduceGT, Int.reduceGE, Int.reduceEq, Int.reduceNeg]) | (refine condF_split (fun hc => ?_) (fun hc => ?_) <;> (try simp only [Bool.not_eq_true', Bool.not_eq_false', Bool.and_eq_true, Bool.or_eq_false_iff] at hc)) | (intro _; intros) | (refine And.intro ?_ ?_; focus (first | omega | ((repeat (first | exact Sub.refl _ | (refine Sub.drop ?_ ?_; focus (simp only [evN, *]; done)) | refine Sub.both ?_)); done) | (simp_all; done) | (simp_all; omega)))))
  rename_i x x1 x1' x2 x2' x0 y y1 y1' y2 y2' y3 y3' y0
  obtain ⟨σ0, hσ0⟩ : ∃ σ0, σ0 = upd (upd τ m (.im l0)) g (.cells [.int .i64 (a0 : Nat), .int .i64 256, .map (some m)] 121) := ⟨_, rfl⟩
  obtain ⟨σ1, hσ1⟩ : ∃ σ1, σ1 = upd (upd (upd (upd τ m (.im l0)) g (.cells [.int .i64 (a0 + 1 : Nat), .int .i64 256, .map (some m)] 121)) x (.cells [.int .i64 (a0 + 1 : Nat), .slice A n kc] 51)) y (.row [.int .i64 (a0 + 1 : Nat), .slice A n kc] 2 51) := ⟨_, rfl⟩
  have f1 : σ1 g = some (.cells [.int .i64 (a0 + 1 : Nat), .int .i64 256, .map (some m)] 121) := by rw [hσ1]; simp only [upd_at, *, ↓reduceIte]
  have f2 : σ1 m = some (.im l0) := by rw [hσ1]; simp only [upd_at, *, ↓reduceIte]
  have f3 : KSame pGap σ0 σ1 := by
    rw [hσ0, hσ1]
    have h1 : KSame pGap (upd (upd τ m (.im l0)) g (.cells [.int .i64 (a0 : Nat), .int .i64 256, .map (some m)] 121)) (upd (upd τ m (.im l0)) g (.cells [.int .i64 (a0 + 1 : Nat), .int .i64 256, .map (some m)] 121)) := by
      have := (KSame.refl pGap (upd (upd τ m (.im l0)) g (.cells [.int .i64 (a0 : Nat), .int .i64 256, .map (some m)] 121))).turn (upd_same _ _ _) (.inl rfl) (.cells [.int .i64 (a0 + 1 : Nat), .int .i64 256, .map (some m)] 121)
      rwa [upd_upd] at this
    exact (h1.new (by simp only [evN, *]; done) _).new (by simp only [evN, *]; done) _
  have f4 : RowsAt 51 2 rc σ1 (.slice (some ⟨y, 0, none⟩) 1 1) [(a0 + 1, .slice A n kc)] := .inr ⟨y, 1, rfl, Nat.le_refl _, by rw [hσ1, upd_same]; rfl⟩
  rw [← hσ0, ← hσ1]
  rw [← hσ0] at hw0 hr0
  have f5 := hr0.out.ks f3 pGap_9
  have hw1 : WaitsAt σ1 m H (a0 + 1) l0 := ⟨f2, hw0.out.once, fun q hq => by
    obtain ⟨j, kv, b1, b2, b3, b4, b5⟩ := hw0.out.each q hq
    exact ⟨j, kv, b1, b2, b3, b4, b5.ks f3 pGap_9⟩⟩
  have f6 : ∀ (i : Nat) p, [(a0 + 1, Value.slice A n kc)][i]? = some p → p.1 = a0 + 1 + i ∧ RecRep σ1 H p.1 p.2 := fun i p hp => by
    cases i with
    | zero => cases hp; exact ⟨rfl, f5⟩
    | succ i => cases hp
  clear hσ0 hσ1
  refine loopF_of (fun k s σ' => ∃ (a : Nat) (l : List (Int × Value)) (L : List (Nat × Value)) (lv : Value), a0 < a ∧ a ≤ H.length ∧ k = H.length - a ∧ s 0 = .pointer (some ⟨g, 0, none⟩) ∧ s 5 = lv ∧
    σ' g = some (.cells [.int .i64 (a : Nat), .int .i64 256, .map (some m)] 121) ∧ WaitsAt σ' m H a l ∧ RowsAt 51 2 rc σ' lv L ∧ L.length = a - a0 ∧ (∀ (i : Nat) p, L[i]? = some p → p.1 = a0 + 1 + i ∧ RecRep σ' H p.1 p.2) ∧ KSame pGap σ0 σ') (H.length - (a0 + 1)) (Sub.refl _)
    ⟨a0 + 1, l0, [(a0 + 1, .slice A n kc)], _, by omega, ha, rfl, (by first | rfl | (simp only [↓putO_get, ↓putO_no, init_zero, init_succ, Nat.reduceEqDiff, ↓reduceIte, *]; done) | (simp only [↓putO_get, ↓putO_no, init_zero, init_succ, Nat.reduceEqDiff, ↓reduceIte, *]; rfl)), (by first | rfl | (simp only [↓putO_get, ↓putO_no, init_zero, init_succ, Nat.reduceEqDiff, ↓reduceIte, *]; done) | (simp only [↓putO_get, ↓putO_no, init_zero, init_succ, Nat.reduceEqDiff, ↓reduceIte, *]; rfl)), f1, hw1, f4, by simp, f6, f3⟩ ?_
  clear f1 f2 f3 f4 f5 f6 hw1 hw0 hr0
  rintro k s τ1 ⟨a, l, L, lv, ha1, ha2, hk, s0, s5, hcell, hw, hR, hL, hE, hS⟩
  have hm := hw.map
  obtain ⟨τ2, hop⟩ := open_2 hcell hm hgm
  have e2 : IntKind.i64.wrap ((a : Int) + 1) = ((a + 1 : Nat) : Int) := by rw [wi64 (by omega)]; rfl
  cases hq : mget l ((a + 1 : Nat) : Int) with
  | none =>
    have HF := Hid.mk (And.intro hw (And.intro hR (And.intro hL (And.intro hE (And.intro hS hcell)))))
    clear hw hR hE hS hm hcell
    rw [hop] at HF ⊢
    (repeat' (first | (simp +contextual -dsimp only [*, Option.getD_some, Option.isSome_some, ↓reduceIte, ↓evP, evQ, splice, Nat.reduceAdd, Nat.reduceEqDiff, Nat.reduceLeDiff, Nat.reduceMul, reduceCtorEq, Int.reduceLT, Int.reduceLE, Int.reduceGT, Int.reduceGE, Int.reduceEq, Int.reduceNeg]) | (refine condF_split (fun hc => ?_) (fun hc => ?_) <;> (try simp only [Bool.not_eq_true', Bool.not_eq_false', Bool.and_eq_true, Bool.or_eq_false_iff] at hc)) | (intro _; intros) | (refine And.intro ?_ ?_; focus (first | omega | ((repeat (first | exact Sub.refl _ | (refine Sub.drop ?_ ?_; focus (simp only [evN, *]; done)) | refine Sub.both ?_)); done) | (simp_all; done) | (simp_all; omega)))))
    obtain ⟨hw, hR, hL, hE, hS, hcell⟩ := HF.out
    refine endF_sub (Sub.drop (by simp only [evN, *]; done) (Sub.refl _)) ⟨a, ha1, ⟨hcell, ⟨l, hw.map, hw.once, fun q hq' => ?_⟩, ha2⟩, ⟨L, hR, hL, hE⟩, hS⟩
    obtain ⟨j, kv, b1, b2, b3, b4, b5⟩ := hw.each q hq'
    have : j ≠ a + 1 := fun e => mget_none hq (by
      rw [← e, ← b1]
      exact List.mem_map_of_mem hq')
    exact ⟨j, kv, b1, by omega, b3, b4, b5⟩
  | some v =>
    obtain ⟨j, kv, b1, b2, b3, b4, b5⟩ := hw.each _ (mget_mem hq)
    have b1 : ((a + 1 : Nat) : Int) = (j : Int) := b1
    obtain rfl : j = a + 1 := by omega
    have b4 : v = .agg #[.int .i64 (a + 1 : Nat), kv] := b4
    subst b4
    obtain ⟨A2, n2, c2, rfl⟩ : ∃ A n c, kv = .slice A n c := by obtain ⟨ks, _, _, h, _⟩ := b5; obtain ⟨A, c, e⟩ := h.slice; exact ⟨_, _, _, e⟩
    have HF := Hid.mk (And.intro hw (And.intro hR (And.intro hL (And.intro hE (And.intro hS (And.intro hcell b5))))))
    clear hw hR hE hS hm hcell b5 b1
    rw [hop] at HF ⊢
    have hop := Hid.mk hop
    (repeat' (first | (simp +contextual -dsimp only [*, Option.getD_some, Option.isSome_some, ↓reduceIte, ↓evP, evQ, splice, Nat.reduceAdd, Nat.reduceEqDiff, Nat.reduceLeDiff, Nat.reduceMul, reduceCtorEq, Int.reduceLT, Int.reduceLE, Int.reduceGT, Int.reduceGE, Int.reduceEq, Int.reduceNeg]) | (refine condF_split (fun hc => ?_) (fun hc => ?_) <;> (try simp only [Bool.not_eq_true', Bool.not_eq_false', Bool.and_eq_true, Bool.or_eq_false_iff] at hc)) | (intro _; intros) | (refine And.intro ?_ ?_; focus (first | omega | ((repeat (first | exact Sub.refl _ | (refine Sub.drop ?_ ?_; focus (simp only [evN, *]; done)) | refine Sub.both ?_)); done) | (simp_all; done) | (simp_all; omega)))))
    rename_i z z1 z1' z2 z2' z0 y y1 y1' y2 y2' y3 y3' y0
    have hzy : upd (upd τ2 m (.im l)) g (.cells [.int .i64 (a : Nat), .int .i64 256, .map (some m)] 121) z = none := (by simp only [evN, *]; done)
    have hyy : upd (upd (upd τ2 m (.im l)) g (.cells [.int .i64 (a : Nat), .int .i64 256, .map (some m)] 121)) z (.cells [.int .i64 (a + 1 : Nat), .slice A2 n2 c2] 51) y = none := (by simp only [evN, *]; done)
    have hR := (HF.out.2.1.fresh hzy (.cells [.int .i64 (a + 1 : Nat), .slice A2 n2 c2] 51)).fresh hyy (.row [.int .i64 (a + 1 : Nat), .slice A2 n2 c2] 2 51)
    refine app_rowv (ys := [(a + 1, .slice A2 n2 c2)]) rc_len hR rfl (by first | (simp only [Nat.reduceMul, Nat.one_mul, Nat.zero_mul, rdn_row, rdn_same, rdn_ne, seg_zero, seg_cons, seg_skip, Option.map_some, not_false_eq_true, *]; done) | (simp only [Nat.reduceMul, Nat.one_mul, Nat.zero_mul, rdn_row, rdn_same, rdn_ne, seg_zero, seg_cons, seg_skip, Option.map_some, not_false_eq_true, *]; exact rfl)) rfl (by omega) (by omega) (by unfold maxLen; omega) ?_
    intro v' σ' hv' hG
    have hK := hG.ks hR
    have k1 : σ' g = some (.cells [.int .i64 (a : Nat), .int .i64 256, .map (some m)] 121) := hK _ _ (by simp only [upd_at, *, ↓reduceIte]) (fun h => h.elim)
    have k2 : σ' m = some (.im l) := hK _ _ (by simp only [upd_at, *, ↓reduceIte]) (fun h => h.elim)
    have k3 : KSame pGap (upd (upd τ2 m (.im l)) g (.cells [.int .i64 (a : Nat), .int .i64 256, .map (some m)] 121)) σ' := (((KSame.refl _ _).new hzy _).trans ((KSame.refl _ _).new hyy _)).trans (hK.mono fun o h => .inr (.inr h))
    clear hR hG hK hzy hyy
    obtain ⟨τ3, hop3⟩ := open_2 k1 k2 hgm
    have HV := Hid.mk (And.intro hv' (And.intro k3 hop3))
    clear hv' k1 k2 k3
    rw [hop3]
    clear hop3
    (repeat' (first | (simp +contextual -dsimp only [*, Option.getD_some, Option.isSome_some, ↓reduceIte, ↓evP, evQ, splice, Nat.reduceAdd, Nat.reduceEqDiff, Nat.reduceLeDiff, Nat.reduceMul, reduceCtorEq, Int.reduceLT, Int.reduceLE, Int.reduceGT, Int.reduceGE, Int.reduceEq, Int.reduceNeg]) | (refine condF_split (fun hc => ?_) (fun hc => ?_) <;> (try simp only [Bool.not_eq_true', Bool.not_eq_false', Bool.and_eq_true, Bool.or_eq_false_iff] at hc)) | (intro _; intros) | (refine And.intro ?_ ?_; focus (first | omega | ((repeat (first | exact Sub.refl _ | (refine Sub.drop ?_ ?_; focus (simp only [evN, *]; done)) | refine Sub.both ?_)); done) | (simp_all; done) | (simp_all; omega)))))
    obtain ⟨hw, hRw, _, hE, hS, hcell, hrep⟩ := HF.out
    obtain ⟨hv', k3, hop3⟩ := HV.out
    have hq0 : KSame (fun o => isCells 121 o ∨ isIm o) σ' (upd (upd τ3 m (.im (mdel l ((a + 1 : Nat) : Int)))) g (.cells [.int .i64 (a + 1 : Nat), .int .i64 256, .map (some m)] 121)) := by
      conv => arg 2; rw [hop3]
      exact ((KSame.refl _ _).both (.inr trivial) _).both (.inl rfl) _
    have hq1 := k3.trans (hq0.mono fun o h => h.elim .inl fun h => .inr (.inl h))
    rw [← hop.out] at hq1
    rw [← hop.out] at hw hE hrep
    refine nextF_of (H.length - (a + 1)) (by omega) (Sub.refl _) ⟨a + 1, mdel l ((a + 1 : Nat) : Int), L ++ [(a + 1, .slice A2 n2 c2)], v', by omega, by omega, rfl, (by first | rfl | (simp only [↓putO_get, ↓putO_no, init_zero, init_succ, Nat.reduceEqDiff, ↓reduceIte, *]; done) | (simp only [↓putO_get, ↓putO_no, init_zero, init_succ, Nat.reduceEqDiff, ↓reduceIte, *]; rfl)), (by first | rfl | (simp only [↓putO_get, ↓putO_no, init_zero, init_succ, Nat.reduceEqDiff, ↓reduceIte, *]; done) | (simp only [↓putO_get, ↓putO_no, init_zero, init_succ, Nat.reduceEqDiff, ↓reduceIte, *]; rfl)), upd_same _ _ _, ⟨by rw [upd_ne _ _ hmg, upd_same], hw.once.sublist ((mdel_sub _ l).map _), fun q hq' => ?_⟩, ?_, by simp; omega, fun i q hi => ?_, ?_⟩
    · obtain ⟨j, kv, b1, b2, b3, b4, b5⟩ := hw.each q ((mdel_sub _ l).subset hq')
      have : j ≠ a + 1 := fun e => mdel_not (k := ((a + 1 : Nat) : Int)) hw.once (by
        have e3 : q.1 = ((a + 1 : Nat) : Int) := by rw [b1, e]
        rw [← e3]
        rw [← e3] at hq'
        exact List.mem_map_of_mem hq')
      exact ⟨j, kv, b1, by omega, b3, b4, b5.ks hq1 pGap_9⟩
    · exact hv'.ks hq0 (fun cs r h => h.elim (fun h => h) fun h => h)
    · by_cases hlt : i < L.length
      · rw [List.getElem?_append_left hlt] at hi
        exact ⟨(hE i q hi).1, (hE i q hi).2.ks hq1 pGap_9⟩
      · have hlt2 := (List.getElem?_eq_some_iff.1 hi).1
        simp at hlt2
        have ei : i = L.length := by omega
        subst ei
        rw [List.getElem?_append_right (Nat.le_refl _), Nat.sub_self] at hi
        cases hi
        exact ⟨by show a + 1 = _; omega, hrep.ks hq1 pGap_9⟩
    · rw [← hop.out] at hS
      exact hS.trans hq1
end Go.Proofs.Ytpnghjmphbhkjaa
