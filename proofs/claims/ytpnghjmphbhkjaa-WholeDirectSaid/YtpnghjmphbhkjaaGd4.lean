/- Texts of mine, part 4 of 4, laid together: A gap: what waits, and what is given out. The origin: what it holds, the small functions; a record as a message. The origin: a record as a message. The origin: what it holds; a read. A gap gives out what is in order. A gap: new, what is put in, where it stands. A ring of marks: a mark is laid behind all others. A ring of marks: what is put, what is read. A ring of marks: commits noted, marks read. No condition. -/
import Derived.Test.YtpnghjmphbhkjaaGd3
import Derived.Test.YtpnghjmphbhkjaaProg
import Derived.KernelRfl
-- X21
namespace Go.Proofs.Ytpnghjmphbhkjaa
open Go.Sp
set_option linter.unusedSimpArgs false
set_option linter.unusedVariables false
theorem nodup_bound : ∀ (N : Nat) (l : List Int), l.Nodup → (∀ x ∈ l, 1 ≤ x ∧ x ≤ (N : Int)) → l.length ≤ N
  | 0, l, _, h => by
    cases l with
    | nil => exact Nat.le_refl _
    | cons x r => have := h x List.mem_cons_self; omega
  | N + 1, l, hn, h => by
    have h1 : (l.filter (fun x => decide (x ≠ ((N + 1 : Nat) : Int)))).length ≤ N := nodup_bound N _ (hn.sublist List.filter_sublist) fun x hx => by
      obtain ⟨h2, h3⟩ := List.mem_filter.1 hx
      have := h x h2
      have := of_decide_eq_true h3
      omega
    have h2 : ∀ (l : List Int), l.Nodup → ∀ a : Int, l.length ≤ (l.filter (fun x => decide (x ≠ a))).length + 1 := by
      intro l
      induction l with
      | nil => intro _ a; simp
      | cons y r ih =>
        intro hn a
        obtain ⟨h1, h2⟩ := List.nodup_cons.1 hn
        by_cases e : y = a
        · have e2 : (y :: r).filter (fun x => decide (x ≠ a)) = r.filter (fun x => decide (x ≠ a)) := List.filter_cons_of_neg (by simp [e])
          have e3 : r.filter (fun x => decide (x ≠ a)) = r := by
            rw [List.filter_eq_self]
            intro x hx
            simp only [ne_eq, decide_not, Bool.not_eq_true', decide_eq_false_iff_not]
            intro e4; exact h1 (by rw [e, ← e4]; exact hx)
          rw [e2, e3]; exact Nat.le_refl _
        · have e2 : (y :: r).filter (fun x => decide (x ≠ a)) = y :: r.filter (fun x => decide (x ≠ a)) := List.filter_cons_of_pos (by simp [e])
          rw [e2]
          have := ih h2 a
          simp only [List.length_cons]; omega
    have := h2 l hn ((N + 1 : Nat) : Int)
    omega
/-- A record, as a wait or an answer holds it: its keys lie in a row of their own. -/
def rc (p : Nat × Value) : List Value := [.int .i64 p.1, p.2]
theorem rc_len (p : Nat × Value) : (rc p).length = 2 := rfl
def RecRep (σ : Hp) (H : List (List ByteArray)) (n : Nat) (kv : Value) : Prop := ∃ ks, 1 ≤ n ∧ H[n - 1]? = some ks ∧ RowsAt 9 1 sC σ kv ks ∧ ks.length ≤ 8
theorem RecRep.ks {σ σ' : Hp} {H : List (List ByteArray)} {n : Nat} {kv : Value} {p : Blk → Prop} (h : RecRep σ H n kv) (hs : KSame p σ σ') (hp : ∀ cs r, ¬ p (.row cs r 9)) : RecRep σ' H n kv := by
  obtain ⟨ks, a, b, c, d⟩ := h
  exact ⟨ks, a, b, c.ks hs hp, d⟩
/-- What waits: numbers above a. -/
structure WaitsAt (σ : Hp) (m : Nat) (H : List (List ByteArray)) (a : Nat) (l : List (Int × Value)) : Prop where
  map : σ m = some (.im l)
  once : (l.map (·.1)).Nodup
  each : ∀ p ∈ l, ∃ (j : Nat) (kv : Value), p.1 = (j : Int) ∧ a < j ∧ j ≤ H.length ∧ p.2 = .agg #[.int .i64 (j : Nat), kv] ∧ RecRep σ H j kv
structure GapAt (σ : Hp) (g m : Nat) (H : List (List ByteArray)) (a : Nat) : Prop where
  cell : σ g = some (.cells [.int .i64 (a : Nat), .int .i64 256, .map (some m)] 121)
  waits : ∃ l, WaitsAt σ m H (a + 1) l
  le : a ≤ H.length
theorem WaitsAt.len {σ : Hp} {m : Nat} {H : List (List ByteArray)} {a : Nat} {l : List (Int × Value)} (h : WaitsAt σ m H a l) : l.length ≤ H.length := by
  have := nodup_bound H.length (l.map (·.1)) h.once fun x hx => by
    obtain ⟨p, hp, rfl⟩ := List.mem_map.1 hx
    obtain ⟨j, kv, e, h1, h2, _⟩ := h.each p hp
    rw [e]; omega
  simpa using this
theorem WaitsAt.ks {σ σ' : Hp} {m : Nat} {H : List (List ByteArray)} {a : Nat} {l : List (Int × Value)} {p : Blk → Prop} (h : WaitsAt σ m H a l) (hs : KSame p σ σ') (h1 : ∀ l, ¬ p (.im l)) (h2 : ∀ cs r, ¬ p (.row cs r 9)) : WaitsAt σ' m H a l :=
  ⟨hs _ _ h.map (h1 _), h.once, fun q hq => by
    obtain ⟨j, kv, a, b, c, d, e⟩ := h.each q hq
    exact ⟨j, kv, a, b, c, d, e.ks hs h2⟩⟩
theorem GapAt.ks {σ σ' : Hp} {g m : Nat} {H : List (List ByteArray)} {a : Nat} {p : Blk → Prop} (h : GapAt σ g m H a) (hs : KSame p σ σ') (h0 : ∀ cs, ¬ p (.cells cs 121)) (h1 : ∀ l, ¬ p (.im l)) (h2 : ∀ cs r, ¬ p (.row cs r 9)) : GapAt σ' g m H a := by
  obtain ⟨l, hl⟩ := h.waits
  exact ⟨hs _ _ h.cell (h0 _), ⟨l, hl.ks hs h1 h2⟩, h.le⟩
/-- A list of records given out: those behind a0, one by one. -/
structure OutAt (σ : Hp) (v : Value) (H : List (List ByteArray)) (a0 n : Nat) : Prop where
  out : ∃ L, RowsAt 51 2 rc σ v L ∧ L.length = n ∧ ∀ (i : Nat) p, L[i]? = some p → p.1 = a0 + 1 + i ∧ RecRep σ H p.1 p.2
theorem OutAt.ks {σ σ' : Hp} {v : Value} {H : List (List ByteArray)} {a0 n : Nat} {p : Blk → Prop} (h : OutAt σ v H a0 n) (hs : KSame p σ σ') (h1 : ∀ cs r, ¬ p (.row cs r 51)) (h2 : ∀ cs r, ¬ p (.row cs r 9)) : OutAt σ' v H a0 n := by
  obtain ⟨L, a, b, c⟩ := h.out
  exact ⟨L, a.ks hs h1, b, fun i q hq => ⟨(c i q hq).1, (c i q hq).2.ks hs h2⟩⟩
/-- The origin's cells. -/
def orC (c : Cfg) (g gl ms : Nat) : List Value := [.int .i64 c.nodes, .int .i64 c.bytes, .int .i64 c.spans, .int .i64 c.gap, .int .i64 c.recent, .int .i64 c.versions, .int .i64 c.protect, .int .i64 c.retries, .pointer (some ⟨g, 0, none⟩), .pointer (some ⟨gl, 0, none⟩), .map (some ms)]
theorem last58 {σ : Hp} {g m : Nat} {S : St} (h : StoreAt σ g m S) : ACalls Try.prog 58 #[.pointer (some ⟨g, 0, none⟩)] σ fun u σ' => u = .int .i64 (S.last : Nat) ∧ σ' = σ := by
  have hr : rd σ g 2 = some (.int .i64 (S.last : Nat)) := by unfold rd; rw [h.cell]; rfl
  clear h
  (refine acalls_F ok58 (by simp) ?_; unfold c58 r58)
  (repeat' (first | (simp +contextual -dsimp only [*, Msg.cells, ↓reduceIte, ↓evP, evQ, splice, Nat.reduceAdd, Nat.reduceEqDiff, Nat.reduceLeDiff, Nat.reduceMul, reduceCtorEq, Int.reduceLT, Int.reduceLE, Int.reduceGT, Int.reduceGE, Int.reduceEq, Int.reduceNeg]) | (refine condF_split (fun hc => ?_) (fun hc => ?_) <;> (try simp only [Bool.not_eq_true', Bool.not_eq_false', Bool.and_eq_true, Bool.or_eq_false_iff] at hc)) | (intro _; intros) | (refine And.intro ?_ ?_; focus (first | omega | ((repeat (first | exact Sub.refl _ | (refine Sub.drop ?_ ?_; focus (simp only [evN, *]; done)) | refine Sub.both ?_)); done) | (simp_all; done) | (simp_all; omega)))))
  all_goals (refine endF_det ?_ ?_; (focus ((try simp only [cond_true, cond_false, *]) <;> ((try simp only [decide_eq_true_eq, decide_eq_false_iff_not] at *) <;> first | rfl | (simp []; done) | (simp_all []; done) | (simp []; omega) | (simp []; (rw [Bool.eq_iff_iff]); simp; omega) | (simp_all [] <;> omega) | ((try unfold id); (rw [Value.bool.injEq, Bool.eq_iff_iff]); simp <;> omega) | ((try unfold id); (repeat' split) <;> simp_all <;> omega) | (simp_all [] <;> (repeat' split) <;> simp_all <;> omega)))); (focus ((try simp only [cond_true, cond_false, set_same, *]); exact (by (repeat (first | exact Sub.refl _ | (refine Sub.drop ?_ ?_; focus (simp only [evN, *]; done)) | refine Sub.both ?_)); done))))
theorem last26 {σ : Hp} {go g m gl ms : Nat} {c : Cfg} {S : St} (hc : σ go = some (.cells (orC c g gl ms) 135)) (h : StoreAt σ g m S) : ACalls Try.prog 26 #[.pointer (some ⟨go, 0, none⟩)] σ fun u σ' => u = .int .i64 (S.last : Nat) ∧ σ' = σ := by
  have hr : rd σ go 8 = some (.pointer (some ⟨g, 0, none⟩)) := by unfold rd; rw [hc]; rfl
  have q := last58 h
  clear h hc
  (refine acalls_F ok26 (by simp) ?_; unfold c26 r26)
  (repeat' (first | (simp +contextual -dsimp only [*, Msg.cells, ↓reduceIte, ↓evP, evQ, splice, Nat.reduceAdd, Nat.reduceEqDiff, Nat.reduceLeDiff, Nat.reduceMul, reduceCtorEq, Int.reduceLT, Int.reduceLE, Int.reduceGT, Int.reduceGE, Int.reduceEq, Int.reduceNeg]) | (refine condF_split (fun hc => ?_) (fun hc => ?_) <;> (try simp only [Bool.not_eq_true', Bool.not_eq_false', Bool.and_eq_true, Bool.or_eq_false_iff] at hc)) | refine callF_v (q) ?_ | refine ccallF_of (q) ?_ | refine gcallF_of (q) ?_ | (intro _; intros) | (refine And.intro ?_ ?_; focus (first | omega | ((repeat (first | exact Sub.refl _ | (refine Sub.drop ?_ ?_; focus (simp only [evN, *]; done)) | refine Sub.both ?_)); done) | (simp_all; done) | (simp_all; omega)))))
  all_goals (refine endF_det ?_ ?_; (focus ((try simp only [cond_true, cond_false, *]) <;> ((try simp only [decide_eq_true_eq, decide_eq_false_iff_not] at *) <;> first | rfl | (simp []; done) | (simp_all []; done) | (simp []; omega) | (simp []; (rw [Bool.eq_iff_iff]); simp; omega) | (simp_all [] <;> omega) | ((try unfold id); (rw [Value.bool.injEq, Bool.eq_iff_iff]); simp <;> omega) | ((try unfold id); (repeat' split) <;> simp_all <;> omega) | (simp_all [] <;> (repeat' split) <;> simp_all <;> omega)))); (focus ((try simp only [cond_true, cond_false, set_same, *]); exact (by (repeat (first | exact Sub.refl _ | (refine Sub.drop ?_ ?_; focus (simp only [evN, *]; done)) | refine Sub.both ?_)); done))))
theorem oldest62 {σ : Hp} {go g m gl ms : Nat} {c : Cfg} {S : St} (hc : σ go = some (.cells (orC c g gl ms) 135)) (h : StoreAt σ g m S) (k : ByteArray) (hd : (S.row k).dropped = true → (S.row k).list ≠ []) :
    ACalls Try.prog 62 #[.pointer (some ⟨go, 0, none⟩), .string k] σ fun u σ' => u = .int .i64 (S.oldest k) ∧ σ' = σ := by
  have hr : rd σ go 8 = some (.pointer (some ⟨g, 0, none⟩)) := by unfold rd; rw [hc]; rfl
  have q := oldest46 h k hd
  clear h hc
  (refine acalls_F ok62 (by simp) ?_; unfold c62 r62)
  (repeat' (first | (simp +contextual -dsimp only [*, Msg.cells, ↓reduceIte, ↓evP, evQ, splice, Nat.reduceAdd, Nat.reduceEqDiff, Nat.reduceLeDiff, Nat.reduceMul, reduceCtorEq, Int.reduceLT, Int.reduceLE, Int.reduceGT, Int.reduceGE, Int.reduceEq, Int.reduceNeg]) | (refine condF_split (fun hc => ?_) (fun hc => ?_) <;> (try simp only [Bool.not_eq_true', Bool.not_eq_false', Bool.and_eq_true, Bool.or_eq_false_iff] at hc)) | refine callF_v (q) ?_ | refine ccallF_of (q) ?_ | refine gcallF_of (q) ?_ | (intro _; intros) | (refine And.intro ?_ ?_; focus (first | omega | ((repeat (first | exact Sub.refl _ | (refine Sub.drop ?_ ?_; focus (simp only [evN, *]; done)) | refine Sub.both ?_)); done) | (simp_all; done) | (simp_all; omega)))))
  all_goals (refine endF_det ?_ ?_; (focus ((try simp only [cond_true, cond_false, *]) <;> ((try simp only [decide_eq_true_eq, decide_eq_false_iff_not] at *) <;> first | rfl | (simp []; done) | (simp_all []; done) | (simp []; omega) | (simp []; (rw [Bool.eq_iff_iff]); simp; omega) | (simp_all [] <;> omega) | ((try unfold id); (rw [Value.bool.injEq, Bool.eq_iff_iff]); simp <;> omega) | ((try unfold id); (repeat' split) <;> simp_all <;> omega) | (simp_all [] <;> (repeat' split) <;> simp_all <;> omega)))); (focus ((try simp only [cond_true, cond_false, set_same, *]); exact (by (repeat (first | exact Sub.refl _ | (refine Sub.drop ?_ ?_; focus (simp only [evN, *]; done)) | refine Sub.both ?_)); done))))
set_option maxHeartbeats 1000000 in
theorem from124 {σ : Hp} {g : Nat} {v : Value} {H : List (List ByteArray)} (h : LogAt σ g v H) (h0 : 1 ≤ H.length) (hH : H.length < 1000000) :
    ACalls Try.prog 124 #[.pointer (some ⟨g, 0, none⟩), .int .i64 (H.length : Nat), .int .i64 1] σ fun u σ' => ∃ n A k c, RowsAt 51 2 rc σ' u [(n, .slice A k c)] ∧ Made σ σ' u := by
  obtain ⟨n, hn⟩ : ∃ n, H.length = n + 1 := ⟨H.length - 1, by omega⟩
  obtain ⟨ks, hks⟩ : ∃ ks, H[n]? = some ks := ⟨_, List.getElem?_eq_getElem (by omega)⟩
  have q2 := get17 h n hks (by omega)
  rw [hn]
  have e1 : mxI ((n + 1 : Nat) : Int) 1 = ((n + 1 : Nat) : Int) := by unfold mxI; split <;> omega
  have e2 : IntKind.i64.wrap (((n + 1 : Nat) : Int) + 1) = ((n + 2 : Nat) : Int) := by rw [wi64 (by omega)]; omega
  have hl : ∀ σ', KSame (fun _ => False) σ σ' → ACalls Try.prog 13 #[.pointer (some ⟨g, 0, none⟩)] σ' fun u σ'' => u = .int .i64 (n + 1 : Nat) ∧ σ'' = σ' := fun σ' hs => by
    obtain ⟨A', cap', hv⟩ : ∃ A c, v = .slice A H.length c := by obtain ⟨vs, h, e, _⟩ := h.rows; rw [← e]; exact h.slice
    exact last13 (n := n + 1) (c := cap') (a := A') (by unfold rd; rw [hs _ _ h.cell (fun x => x), hv, hn]; rfl)
  have d1 : decide (((n + 1 : Nat) : Int) ≤ ((n + 1 : Nat) : Int)) = true := by simp
  have d2 : decide (((n + 2 : Nat) : Int) ≤ ((n + 1 : Nat) : Int)) = false := by simp
  have HH := Hid.mk (And.intro h (And.intro hks hn))
  clear h hks hn hH h0
  (refine acalls_F ok124 (by simp) ?_; unfold c124 r124)
  (repeat' (first | (simp +contextual -dsimp only [*, Msg.cells, ↓reduceIte, ↓evP, evQ, splice, Nat.reduceAdd, Nat.reduceEqDiff, Nat.reduceLeDiff, Nat.reduceMul, reduceCtorEq, Int.reduceLT, Int.reduceLE, Int.reduceGT, Int.reduceGE, Int.reduceEq, Int.reduceNeg]) | (refine condF_split (fun hc => ?_) (fun hc => ?_) <;> (try simp only [Bool.not_eq_true', Bool.not_eq_false', Bool.and_eq_true, Bool.or_eq_false_iff] at hc)) | (intro _; intros) | (refine And.intro ?_ ?_; focus (first | omega | ((repeat (first | exact Sub.refl _ | (refine Sub.drop ?_ ?_; focus (simp only [evN, *]; done)) | refine Sub.both ?_)); done) | (simp_all; done) | (simp_all; omega)))))
  refine loopF_of (fun k s σ' => (k = 1 ∧ σ' = σ ∧ s 1 = .int .i64 (n + 1 : Nat) ∧ s 7 = .slice none 0 0 ∧ s 2 = .int .i64 1 ∧ s 0 = .pointer (some ⟨g, 0, none⟩)) ∨ (k = 0 ∧ ∃ v' p A kk c, p = (n + 1, Value.slice A kk c) ∧ s 1 = .int .i64 (n + 2 : Nat) ∧ s 7 = v' ∧ s 2 = .int .i64 1 ∧ s 0 = .pointer (some ⟨g, 0, none⟩) ∧ RowsAt 51 2 rc σ' v' [p] ∧ Made σ σ' v')) 1 (Sub.refl _)
    (.inl ⟨rfl, rfl, (by first | rfl | (simp only [↓putO_get, ↓putO_no, init_zero, init_succ, Nat.reduceEqDiff, ↓reduceIte, *]; done) | (simp only [↓putO_get, ↓putO_no, init_zero, init_succ, Nat.reduceEqDiff, ↓reduceIte, *]; rfl)), (by first | rfl | (simp only [↓putO_get, ↓putO_no, init_zero, init_succ, Nat.reduceEqDiff, ↓reduceIte, *]; done) | (simp only [↓putO_get, ↓putO_no, init_zero, init_succ, Nat.reduceEqDiff, ↓reduceIte, *]; rfl)), (by first | rfl | (simp only [↓putO_get, ↓putO_no, init_zero, init_succ, Nat.reduceEqDiff, ↓reduceIte, *]; done) | (simp only [↓putO_get, ↓putO_no, init_zero, init_succ, Nat.reduceEqDiff, ↓reduceIte, *]; rfl)), (by first | rfl | (simp only [↓putO_get, ↓putO_no, init_zero, init_succ, Nat.reduceEqDiff, ↓reduceIte, *]; done) | (simp only [↓putO_get, ↓putO_no, init_zero, init_succ, Nat.reduceEqDiff, ↓reduceIte, *]; rfl))⟩) ?_
  rintro k s τ (⟨rfl, rfl, s1, s7, s2, s0⟩ | ⟨rfl, v', p, A1, kk, c1, rfl, s1, s7, s2, s0, hR, hM⟩)
  · have hl0 := hl τ (KSame.refl _ _)
    clear hl
    simp +contextual -dsimp only [*, Msg.cells, ↓reduceIte, ↓evP, evQ, splice, Nat.reduceAdd, Nat.reduceEqDiff, Nat.reduceLeDiff, Nat.reduceMul, reduceCtorEq, Int.reduceLT, Int.reduceLE, Int.reduceGT, Int.reduceGE, Int.reduceEq, Int.reduceNeg]
    refine callF_v hl0 ?_
    (repeat' (first | (simp +contextual -dsimp only [*, Msg.cells, ↓reduceIte, ↓evP, evQ, splice, Nat.reduceAdd, Nat.reduceEqDiff, Nat.reduceLeDiff, Nat.reduceMul, reduceCtorEq, Int.reduceLT, Int.reduceLE, Int.reduceGT, Int.reduceGE, Int.reduceEq, Int.reduceNeg]) | (refine condF_split (fun hc => ?_) (fun hc => ?_) <;> (try simp only [Bool.not_eq_true', Bool.not_eq_false', Bool.and_eq_true, Bool.or_eq_false_iff] at hc)) | (intro _; intros) | (refine And.intro ?_ ?_; focus (first | omega | ((repeat (first | exact Sub.refl _ | (refine Sub.drop ?_ ?_; focus (simp only [evN, *]; done)) | refine Sub.both ?_)); done) | (simp_all; done) | (simp_all; omega)))))
    refine callF_of q2 ?_
    rintro u σ' ⟨y, cy, hy, hcy, rfl, rfl⟩
    (repeat' (first | (simp +contextual -dsimp only [*, Msg.cells, ↓reduceIte, ↓evP, evQ, splice, Nat.reduceAdd, Nat.reduceEqDiff, Nat.reduceLeDiff, Nat.reduceMul, reduceCtorEq, Int.reduceLT, Int.reduceLE, Int.reduceGT, Int.reduceGE, Int.reduceEq, Int.reduceNeg]) | (refine condF_split (fun hc => ?_) (fun hc => ?_) <;> (try simp only [Bool.not_eq_true', Bool.not_eq_false', Bool.and_eq_true, Bool.or_eq_false_iff] at hc)) | (intro _; intros) | (refine And.intro ?_ ?_; focus (first | omega | ((repeat (first | exact Sub.refl _ | (refine Sub.drop ?_ ?_; focus (simp only [evN, *]; done)) | refine Sub.both ?_)); done) | (simp_all; done) | (simp_all; omega)))))
    rename_i x x1 x1' x0 z z1 z1' z2 z2' z0
    have hx : upd τ y (.row (ks.flatMap sC) (cy * 1) 9) x = none := (by simp only [evN, *]; done)
    have hz : upd (upd τ y (.row (ks.flatMap sC) (cy * 1) 9)) x (.cells [.int .i64 (n + 1 : Nat), .slice (some ⟨y, 0, none⟩) ks.length cy] 51) z = none := (by simp only [evN, *]; done)
    refine app_rowv (ys := [(n + 1, .slice (some ⟨y, 0, none⟩) ks.length cy)]) rc_len (.inl ⟨rfl, rfl⟩) rfl (by first | (simp only [Nat.reduceMul, Nat.one_mul, Nat.zero_mul, rdn_row, rdn_same, rdn_ne, seg_zero, seg_cons, seg_skip, Option.map_some, not_false_eq_true, *]; done) | (simp only [Nat.reduceMul, Nat.one_mul, Nat.zero_mul, rdn_row, rdn_same, rdn_ne, seg_zero, seg_cons, seg_skip, Option.map_some, not_false_eq_true, *]; exact rfl)) rfl (by decide) (by decide) (by decide) ?_
    intro v' σ' hv' hG
    have HM := Hid.mk (And.intro hv' (((((Made.nil τ).beside hy (.row (ks.flatMap sC) (cy * 1) 9)).beside hx (.cells [.int .i64 (n + 1 : Nat), .slice (some ⟨y, 0, none⟩) ks.length cy] 51)).beside hz (.row [.int .i64 (n + 1 : Nat), .slice (some ⟨y, 0, none⟩) ks.length cy] 2 51)).grew hG))
    clear hv' hG
    (repeat' (first | (simp +contextual -dsimp only [*, Msg.cells, ↓reduceIte, ↓evP, evQ, splice, Nat.reduceAdd, Nat.reduceEqDiff, Nat.reduceLeDiff, Nat.reduceMul, reduceCtorEq, Int.reduceLT, Int.reduceLE, Int.reduceGT, Int.reduceGE, Int.reduceEq, Int.reduceNeg]) | (refine condF_split (fun hc => ?_) (fun hc => ?_) <;> (try simp only [Bool.not_eq_true', Bool.not_eq_false', Bool.and_eq_true, Bool.or_eq_false_iff] at hc)) | (intro _; intros) | (refine And.intro ?_ ?_; focus (first | omega | ((repeat (first | exact Sub.refl _ | (refine Sub.drop ?_ ?_; focus (simp only [evN, *]; done)) | refine Sub.both ?_)); done) | (simp_all; done) | (simp_all; omega)))))
    exact nextF_of 0 (by omega) (Sub.refl _) (.inr ⟨rfl, v', _, _, _, _, rfl, (by first | rfl | (simp only [↓putO_get, ↓putO_no, init_zero, init_succ, Nat.reduceEqDiff, ↓reduceIte, *]; done) | (simp only [↓putO_get, ↓putO_no, init_zero, init_succ, Nat.reduceEqDiff, ↓reduceIte, *]; rfl)), (by first | rfl | (simp only [↓putO_get, ↓putO_no, init_zero, init_succ, Nat.reduceEqDiff, ↓reduceIte, *]; done) | (simp only [↓putO_get, ↓putO_no, init_zero, init_succ, Nat.reduceEqDiff, ↓reduceIte, *]; rfl)), (by first | rfl | (simp only [↓putO_get, ↓putO_no, init_zero, init_succ, Nat.reduceEqDiff, ↓reduceIte, *]; done) | (simp only [↓putO_get, ↓putO_no, init_zero, init_succ, Nat.reduceEqDiff, ↓reduceIte, *]; rfl)), (by first | rfl | (simp only [↓putO_get, ↓putO_no, init_zero, init_succ, Nat.reduceEqDiff, ↓reduceIte, *]; done) | (simp only [↓putO_get, ↓putO_no, init_zero, init_succ, Nat.reduceEqDiff, ↓reduceIte, *]; rfl)), HM.out⟩)
  · have hl0 := hl τ (KSame.made hM.1)
    obtain ⟨A, c, rfl⟩ := hR.slice
    have HR := Hid.mk (And.intro hR hM)
    clear hl hR hM
    (repeat' (first | (simp +contextual -dsimp only [*, Msg.cells, ↓reduceIte, ↓evP, evQ, splice, Nat.reduceAdd, Nat.reduceEqDiff, Nat.reduceLeDiff, Nat.reduceMul, reduceCtorEq, Int.reduceLT, Int.reduceLE, Int.reduceGT, Int.reduceGE, Int.reduceEq, Int.reduceNeg]) | (refine condF_split (fun hc => ?_) (fun hc => ?_) <;> (try simp only [Bool.not_eq_true', Bool.not_eq_false', Bool.and_eq_true, Bool.or_eq_false_iff] at hc)) | refine callF_v (hl0) ?_ | refine ccallF_of (hl0) ?_ | refine gcallF_of (hl0) ?_ | (intro _; intros) | (refine And.intro ?_ ?_; focus (first | omega | ((repeat (first | exact Sub.refl _ | (refine Sub.drop ?_ ?_; focus (simp only [evN, *]; done)) | refine Sub.both ?_)); done) | (simp_all; done) | (simp_all; omega)))))
    exact endF_at ⟨_, _, _, _, HR.out⟩
theorem made_trans {σ0 σ σ' : Hp} {v v' : Value} (h : Made σ0 σ v) (k : Made σ σ' v') : Made σ0 σ' v' := ⟨h.1.trans k.1 (fun _ _ x => x), fun b hb => by
  have := k.2 b hb
  exact h.sub.noneAt this⟩
set_option maxHeartbeats 1000000 in
theorem record104 {σ : Hp} {go g gl ms : Nat} {c : Cfg} {v : Value} {H : List (List ByteArray)} (hc : σ go = some (.cells (orC c g gl ms) 135)) (h : LogAt σ gl v H) (h0 : 1 ≤ H.length) (hH : H.length < 1000000) (i : Nat) (hi : i < 100) :
    ACalls Try.prog 104 #[.pointer (some ⟨go, 0, none⟩), .int .i64 (i : Nat), .int .i64 (H.length : Nat), .int .i64 1] σ fun u σ' => ∃ m, (Msg.cells m).all Sp.one = true ∧ RowsAt 139 16 Msg.cells σ' u [m] ∧ Made σ σ' u := by
  have hr : rd σ go 9 = some (.pointer (some ⟨gl, 0, none⟩)) := by unfold rd; rw [hc]; rfl
  have q := from124 h h0 hH
  clear h hc
  (refine acalls_F ok104 (by simp) ?_; unfold c104 r104)
  (repeat' (first | (simp +contextual -dsimp only [*, Msg.cells, ↓reduceIte, ↓evP, evQ, splice, Nat.reduceAdd, Nat.reduceEqDiff, Nat.reduceLeDiff, Nat.reduceMul, reduceCtorEq, Int.reduceLT, Int.reduceLE, Int.reduceGT, Int.reduceGE, Int.reduceEq, Int.reduceNeg]) | (refine condF_split (fun hc => ?_) (fun hc => ?_) <;> (try simp only [Bool.not_eq_true', Bool.not_eq_false', Bool.and_eq_true, Bool.or_eq_false_iff] at hc)) | (intro _; intros) | (refine And.intro ?_ ?_; focus (first | omega | ((repeat (first | exact Sub.refl _ | (refine Sub.drop ?_ ?_; focus (simp only [evN, *]; done)) | refine Sub.both ?_)); done) | (simp_all; done) | (simp_all; omega)))))
  refine callF_of q ?_
  rintro u τ ⟨pn, A2, k2, c2, hR, hM⟩
  clear q
  obtain ⟨A, ac, rfl⟩ := hR.slice
  obtain ⟨b, off, e, hrd⟩ := (hR.ro rc_len).get (Nat.zero_lt_one : 0 < [((pn, .slice A2 k2 c2) : Nat × Value)].length)
  have e : A = some ⟨b, off, none⟩ := e
  subst e
  have hrd1 : rdn τ b (off + Int.toNat 0 * 2) 2 = some [.int .i64 (pn : Nat), .slice A2 k2 c2] := hrd
  clear hrd e
  have HM := Hid.mk hM
  clear hR hM
  rw [show [((pn, .slice A2 k2 c2) : Nat × Value)].length = 1 from rfl]
  (repeat' (first | (simp +contextual -dsimp only [*, Msg.cells, ↓reduceIte, ↓evP, evQ, splice, Nat.reduceAdd, Nat.reduceEqDiff, Nat.reduceLeDiff, Nat.reduceMul, reduceCtorEq, Int.reduceLT, Int.reduceLE, Int.reduceGT, Int.reduceGE, Int.reduceEq, Int.reduceNeg]) | (refine condF_split (fun hc => ?_) (fun hc => ?_) <;> (try simp only [Bool.not_eq_true', Bool.not_eq_false', Bool.and_eq_true, Bool.or_eq_false_iff] at hc)) | (intro _; intros) | (refine And.intro ?_ ?_; focus (first | omega | ((repeat (first | exact Sub.refl _ | (refine Sub.drop ?_ ?_; focus (simp only [evN, *]; done)) | refine Sub.both ?_)); done) | (simp_all; done) | (simp_all; omega)))))
  refine loopF_of (fun k s σ' => (k = 1 ∧ σ' = τ ∧ s 20 = .int .i64 0 ∧ s 19 = .int .i64 1 ∧ s 18 = .slice (some ⟨b, off, none⟩) 1 ac ∧ s 9 = .slice none 0 0 ∧ s 1 = .int .i64 (i : Nat)) ∨ (k = 0 ∧ ∃ v' m, (Msg.cells m).all Sp.one = true ∧ s 20 = .int .i64 1 ∧ s 19 = .int .i64 1 ∧ s 9 = v' ∧ RowsAt 139 16 Msg.cells σ' v' [m] ∧ Made σ σ' v')) 1 (Sub.refl _)
    (.inl ⟨rfl, rfl, (by first | rfl | (simp only [↓putO_get, ↓putO_no, init_zero, init_succ, Nat.reduceEqDiff, ↓reduceIte, *]; done) | (simp only [↓putO_get, ↓putO_no, init_zero, init_succ, Nat.reduceEqDiff, ↓reduceIte, *]; rfl)), (by first | rfl | (simp only [↓putO_get, ↓putO_no, init_zero, init_succ, Nat.reduceEqDiff, ↓reduceIte, *]; done) | (simp only [↓putO_get, ↓putO_no, init_zero, init_succ, Nat.reduceEqDiff, ↓reduceIte, *]; rfl)), (by first | rfl | (simp only [↓putO_get, ↓putO_no, init_zero, init_succ, Nat.reduceEqDiff, ↓reduceIte, *]; done) | (simp only [↓putO_get, ↓putO_no, init_zero, init_succ, Nat.reduceEqDiff, ↓reduceIte, *]; rfl)), (by first | rfl | (simp only [↓putO_get, ↓putO_no, init_zero, init_succ, Nat.reduceEqDiff, ↓reduceIte, *]; done) | (simp only [↓putO_get, ↓putO_no, init_zero, init_succ, Nat.reduceEqDiff, ↓reduceIte, *]; rfl)), (by first | rfl | (simp only [↓putO_get, ↓putO_no, init_zero, init_succ, Nat.reduceEqDiff, ↓reduceIte, *]; done) | (simp only [↓putO_get, ↓putO_no, init_zero, init_succ, Nat.reduceEqDiff, ↓reduceIte, *]; rfl))⟩) ?_
  rintro k s τ1 (⟨rfl, rfl, s20, s19, s18, s9, s1⟩ | ⟨rfl, v', m, hone, s20, s19, s9, hR, hM⟩)
  · (repeat' (first | (simp +contextual -dsimp only [*, Msg.cells, ↓reduceIte, ↓evP, evQ, splice, Nat.reduceAdd, Nat.reduceEqDiff, Nat.reduceLeDiff, Nat.reduceMul, reduceCtorEq, Int.reduceLT, Int.reduceLE, Int.reduceGT, Int.reduceGE, Int.reduceEq, Int.reduceNeg]) | (refine condF_split (fun hc => ?_) (fun hc => ?_) <;> (try simp only [Bool.not_eq_true', Bool.not_eq_false', Bool.and_eq_true, Bool.or_eq_false_iff] at hc)) | (intro _; intros) | (refine And.intro ?_ ?_; focus (first | omega | ((repeat (first | exact Sub.refl _ | (refine Sub.drop ?_ ?_; focus (simp only [evN, *]; done)) | refine Sub.both ?_)); done) | (simp_all; done) | (simp_all; omega)))))
    rename_i x x0 z z1 z1' z0
    have hx : upd τ1 x (.cells [.int .i64 (pn : Nat), .slice A2 k2 c2] 51) z = none := (by simp only [evN, *]; done)
    refine app_rowv (ys := [({ kind := 8, node := (i : Nat), n := (pn : Nat), keys := .slice A2 k2 c2 } : Msg)]) Msg.cells_len (.inl ⟨rfl, rfl⟩) rfl ?_ rfl (by decide) (by decide) (by decide) ?_
    · rw [rdn_row]; rfl
    intro v' σ' hv' hG
    have HM := Hid.mk (And.intro hv' (made_trans HM.out ((((Made.nil τ1).beside x0 (.cells [.int .i64 (pn : Nat), .slice A2 k2 c2] 51)).beside hx (.row (Msg.cells { kind := 8, node := (i : Nat), n := (pn : Nat), keys := .slice A2 k2 c2 }) 16 139)).grew hG)))
    clear hv' hG
    (repeat' (first | (simp +contextual -dsimp only [*, Msg.cells, ↓reduceIte, ↓evP, evQ, splice, Nat.reduceAdd, Nat.reduceEqDiff, Nat.reduceLeDiff, Nat.reduceMul, reduceCtorEq, Int.reduceLT, Int.reduceLE, Int.reduceGT, Int.reduceGE, Int.reduceEq, Int.reduceNeg]) | (refine condF_split (fun hc => ?_) (fun hc => ?_) <;> (try simp only [Bool.not_eq_true', Bool.not_eq_false', Bool.and_eq_true, Bool.or_eq_false_iff] at hc)) | (intro _; intros) | (refine And.intro ?_ ?_; focus (first | omega | ((repeat (first | exact Sub.refl _ | (refine Sub.drop ?_ ?_; focus (simp only [evN, *]; done)) | refine Sub.both ?_)); done) | (simp_all; done) | (simp_all; omega)))))
    exact nextF_of 0 (by omega) (Sub.refl _) (.inr ⟨rfl, v', _, rfl, (by first | rfl | (simp only [↓putO_get, ↓putO_no, init_zero, init_succ, Nat.reduceEqDiff, ↓reduceIte, *]; done) | (simp only [↓putO_get, ↓putO_no, init_zero, init_succ, Nat.reduceEqDiff, ↓reduceIte, *]; rfl)), (by first | rfl | (simp only [↓putO_get, ↓putO_no, init_zero, init_succ, Nat.reduceEqDiff, ↓reduceIte, *]; done) | (simp only [↓putO_get, ↓putO_no, init_zero, init_succ, Nat.reduceEqDiff, ↓reduceIte, *]; rfl)), (by first | rfl | (simp only [↓putO_get, ↓putO_no, init_zero, init_succ, Nat.reduceEqDiff, ↓reduceIte, *]; done) | (simp only [↓putO_get, ↓putO_no, init_zero, init_succ, Nat.reduceEqDiff, ↓reduceIte, *]; rfl)), HM.out⟩)
  · have HR := Hid.mk (And.intro hone (And.intro hR hM))
    clear hone
    obtain ⟨A, c, rfl⟩ := hR.slice
    clear hR hM
    (repeat' (first | (simp +contextual -dsimp only [*, Msg.cells, ↓reduceIte, ↓evP, evQ, splice, Nat.reduceAdd, Nat.reduceEqDiff, Nat.reduceLeDiff, Nat.reduceMul, reduceCtorEq, Int.reduceLT, Int.reduceLE, Int.reduceGT, Int.reduceGE, Int.reduceEq, Int.reduceNeg]) | (refine condF_split (fun hc => ?_) (fun hc => ?_) <;> (try simp only [Bool.not_eq_true', Bool.not_eq_false', Bool.and_eq_true, Bool.or_eq_false_iff] at hc)) | (intro _; intros) | (refine And.intro ?_ ?_; focus (first | omega | ((repeat (first | exact Sub.refl _ | (refine Sub.drop ?_ ?_; focus (simp only [evN, *]; done)) | refine Sub.both ?_)); done) | (simp_all; done) | (simp_all; omega)))))
    exact endF_at ⟨m, HR.out⟩
theorem RowRep.ks {σ σ' : Hp} {v : Value} {r : Row} {p : Blk → Prop} (h : RowRep σ v r) (hs : KSame p σ σ') (hp : ∀ cs n, ¬ p (.row cs n 109)) : RowRep σ' v r := by
  obtain ⟨sv, e, h⟩ := h
  refine ⟨sv, e, ?_⟩
  rcases h with h | ⟨b, pre, c, e1, e2, h⟩
  · exact .inl h
  · exact .inr ⟨b, pre, c, e1, e2, hs _ _ h (hp _ _)⟩
theorem StoreAt.ks {σ σ' : Hp} {g m : Nat} {S : St} {p : Blk → Prop} (h : StoreAt σ g m S) (hs : KSame p σ σ') (h1 : ∀ cs, ¬ p (.cells cs 100)) (h2 : ∀ l, ¬ p (.mp l)) (h3 : ∀ cs n, ¬ p (.row cs n 109)) : StoreAt σ' g m S := by
  obtain ⟨a, l, b, c⟩ := h
  exact ⟨hs _ _ a (h1 _), l, hs _ _ b (h2 _), fun k => (c k).ks hs h3⟩
abbrev pNo : Blk → Prop := fun _ => False
theorem sub_mid {σ : Hp} {y z : Nat} (hy : σ y = none) (o p : Blk) : Sub (upd σ z o) (upd (upd σ y p) z o) := fun k => by
  by_cases e : k = z
  · subst e; right; rw [upd_same, upd_same]
  · rw [upd_ne _ _ e, upd_ne _ _ e]
    by_cases e2 : k = y
    · subst e2; exact .inl hy
    · right; rw [upd_ne _ _ e2]
theorem made_at {σ0 σ : Hp} (h : Made σ0 σ (.slice none 0 0)) {b : Nat} (hb : σ b = none) (o : Blk) (n c : Nat) : Made σ0 (upd σ b o) (.slice (some ⟨b, 0, none⟩) n c) :=
  ⟨(h.beside hb o).1, fun k hk => by cases hk; exact h.sub.noneAt hb⟩
/-- The message that a read tells. -/
def toldM (S : St) (tx seq : Int) (k : ByteArray) (hi : Int) : Msg :=
  cond (decide ((S.read k (mnI (IntKind.i64.wrap (hi - 1)) S.last)).2 = 0))
    { kind := 6, tx := tx, seq := seq, has := (S.read k (mnI (IntKind.i64.wrap (hi - 1)) S.last)).1.has, data := (S.read k (mnI (IntKind.i64.wrap (hi - 1)) S.last)).1.data, lo := (S.read k (mnI (IntKind.i64.wrap (hi - 1)) S.last)).1.lo, hi := mnI (S.read k (mnI (IntKind.i64.wrap (hi - 1)) S.last)).1.hi (IntKind.i64.wrap ((S.last : Int) + 1)) }
    { kind := 6, tx := tx, seq := seq, err := (S.read k (mnI (IntKind.i64.wrap (hi - 1)) S.last)).2 }
set_option maxHeartbeats 4000000 in
set_option maxRecDepth 20000 in
theorem read81 {σ : Hp} {go g m gl ms : Nat} {c : Cfg} {S : St} (hc : σ go = some (.cells (orC c g gl ms) 135)) (h : StoreAt σ g m S) (tx seq : Int) (k : ByteArray) (lo hi : Int) (hk : k.size ≤ 140737488351232) (hlo : lo ≤ (S.last : Int)) (hr : RowOk (S.row k)) :
    ACalls Try.prog 81 #[.pointer (some ⟨go, 0, none⟩), .agg ({ kind := 5, tx := tx, seq := seq, key := k, lo := lo, hi := hi } : Msg).cells.toArray] σ fun u σ' => ∃ l, RowsAt 139 16 Msg.cells σ' u (toldM S tx seq k hi :: l) ∧ Made σ σ' u := by
  have hr8 : rd σ go 8 = some (.pointer (some ⟨g, 0, none⟩)) := by unfold rd; rw [hc]; rfl
  have hr0 : rd σ go 0 = some (.int .i64 c.nodes) := by unfold rd; rw [hc]; rfl
  have hd : decide (lo > (S.last : Int)) = false := by simp; omega
  have hgo : ∀ y, σ y = none → ¬ go = y := fun y hy e => by rw [e, hy] at hc; cases hc
  have q1 : ∀ σ', KSame pNo σ σ' → ACalls Try.prog 26 #[.pointer (some ⟨go, 0, none⟩)] σ' fun u σ'' => u = .int .i64 (S.last : Nat) ∧ σ'' = σ' := fun σ' hs => last26 (hs _ _ hc (fun x => x)) (h.ks hs (fun _ x => x) (fun _ x => x) (fun _ _ x => x))
  have q2 : ∀ σ', KSame pNo σ σ' → ACalls Try.prog 12 #[.pointer (some ⟨g, 0, none⟩), .string k, .int .i64 (mnI (IntKind.i64.wrap (hi - 1)) S.last)] σ' fun u σ'' => u = .tuple #[.agg (S.read k (mnI (IntKind.i64.wrap (hi - 1)) S.last)).1.cells.toArray, .int .i64 (S.read k (mnI (IntKind.i64.wrap (hi - 1)) S.last)).2] ∧ σ'' = σ' := fun σ' hs => read12 (h.ks hs (fun _ x => x) (fun _ x => x) (fun _ _ x => x)) k _ hr
  have hT : toldM S tx seq k hi = toldM S tx seq k hi := rfl
  unfold toldM at hT ⊢
  generalize S.read k (mnI (IntKind.i64.wrap (hi - 1)) S.last) = F at q2 hT ⊢
  obtain ⟨⟨fk, fh, fd, fl, fi⟩, e⟩ := F
  clear hT h hc hr hlo
  (refine acalls_F ok81 (by simp) ?_; unfold c81 r81)
  (repeat' (first | (simp +contextual -dsimp only [*, Msg.cells, Fct.cells, ↓reduceIte, ↓evP, evQ, splice, Nat.reduceAdd, Nat.reduceEqDiff, Nat.reduceLeDiff, Nat.reduceMul, reduceCtorEq, Int.reduceLT, Int.reduceLE, Int.reduceGT, Int.reduceGE, Int.reduceEq, Int.reduceNeg]) | (refine condF_split (fun hc => ?_) (fun hc => ?_) <;> (try simp only [Bool.not_eq_true', Bool.not_eq_false', Bool.and_eq_true, Bool.or_eq_false_iff] at hc)) | (intro _; intros) | (refine And.intro ?_ ?_; focus (first | omega | ((repeat (first | exact Sub.refl _ | (refine Sub.drop ?_ ?_; focus (simp only [evN, *]; done)) | refine Sub.both ?_)); done) | (simp_all; done) | (simp_all; omega)))))
  rename_i x hx
  have gx := hgo x hx
  refine callF_v (q1 _ ((KSame.refl _ _).new hx _)) ?_
  (repeat' (first | (simp +contextual -dsimp only [*, Msg.cells, Fct.cells, ↓reduceIte, ↓evP, evQ, splice, Nat.reduceAdd, Nat.reduceEqDiff, Nat.reduceLeDiff, Nat.reduceMul, reduceCtorEq, Int.reduceLT, Int.reduceLE, Int.reduceGT, Int.reduceGE, Int.reduceEq, Int.reduceNeg]) | (refine condF_split (fun hc => ?_) (fun hc => ?_) <;> (try simp only [Bool.not_eq_true', Bool.not_eq_false', Bool.and_eq_true, Bool.or_eq_false_iff] at hc)) | (intro _; intros) | (refine And.intro ?_ ?_; focus (first | omega | ((repeat (first | exact Sub.refl _ | (refine Sub.drop ?_ ?_; focus (simp only [evN, *]; done)) | refine Sub.both ?_)); done) | (simp_all; done) | (simp_all; omega)))))
  rename_i y hy1 hy2 hy
  have gy := hgo y hy
  refine drawxF_of (Sub.refl _) ?_
  (repeat' (first | (simp +contextual -dsimp only [*, Msg.cells, Fct.cells, ↓reduceIte, ↓evP, evQ, splice, Nat.reduceAdd, Nat.reduceEqDiff, Nat.reduceLeDiff, Nat.reduceMul, reduceCtorEq, Int.reduceLT, Int.reduceLE, Int.reduceGT, Int.reduceGE, Int.reduceEq, Int.reduceNeg]) | (refine condF_split (fun hc => ?_) (fun hc => ?_) <;> (try simp only [Bool.not_eq_true', Bool.not_eq_false', Bool.and_eq_true, Bool.or_eq_false_iff] at hc)) | (intro _; intros) | (refine And.intro ?_ ?_; focus (first | omega | ((repeat (first | exact Sub.refl _ | (refine Sub.drop ?_ ?_; focus (simp only [evN, *]; done)) | refine Sub.both ?_)); done) | (simp_all; done) | (simp_all; omega)))))
  refine gcallF_of (q2 _ (((KSame.refl _ _).new hx _).new hy _)) ?_
  cases he : decide (e = 0) with
  | true =>
    have h0 : e = 0 := of_decide_eq_true he
    subst h0
    clear he
    (repeat' (first | (simp +contextual -dsimp only [*, Msg.cells, Fct.cells, ↓reduceIte, ↓evP, evQ, splice, Nat.reduceAdd, Nat.reduceEqDiff, Nat.reduceLeDiff, Nat.reduceMul, reduceCtorEq, Int.reduceLT, Int.reduceLE, Int.reduceGT, Int.reduceGE, Int.reduceEq, Int.reduceNeg]) | (refine condF_split (fun hc => ?_) (fun hc => ?_) <;> (try simp only [Bool.not_eq_true', Bool.not_eq_false', Bool.and_eq_true, Bool.or_eq_false_iff] at hc)) | (intro _; intros) | (refine And.intro ?_ ?_; focus (first | omega | ((repeat (first | exact Sub.refl _ | (refine Sub.drop ?_ ?_; focus (simp only [evN, *]; done)) | refine Sub.both ?_)); done) | (simp_all; done) | (simp_all; omega)))))
    rename_i z hz1 hz2 hz3 hz4 hz
    have gz := hgo z hz
    (repeat' (first | (simp +contextual -dsimp only [*, Msg.cells, Fct.cells, ↓reduceIte, ↓evP, evQ, splice, Nat.reduceAdd, Nat.reduceEqDiff, Nat.reduceLeDiff, Nat.reduceMul, reduceCtorEq, Int.reduceLT, Int.reduceLE, Int.reduceGT, Int.reduceGE, Int.reduceEq, Int.reduceNeg]) | (refine condF_split (fun hc => ?_) (fun hc => ?_) <;> (try simp only [Bool.not_eq_true', Bool.not_eq_false', Bool.and_eq_true, Bool.or_eq_false_iff] at hc)) | (intro _; intros) | (refine And.intro ?_ ?_; focus (first | omega | ((repeat (first | exact Sub.refl _ | (refine Sub.drop ?_ ?_; focus (simp only [evN, *]; done)) | refine Sub.both ?_)); done) | (simp_all; done) | (simp_all; omega)))))
    refine drawxF_of (σ₀ := upd (upd σ x (.cells (Msg.cells { kind := 5, tx := tx, seq := seq, key := k, lo := lo, hi := hi }) 139)) z (.cells [.string fk, .bool fh, .string fd, .int .i64 fl, .int .i64 fi] 39)) ?_ ?_
    · exact sub_mid (by simp only [evN, *]; done) _ _
    (repeat' (first | (simp +contextual -dsimp only [*, Msg.cells, Fct.cells, ↓reduceIte, ↓evP, evQ, splice, Nat.reduceAdd, Nat.reduceEqDiff, Nat.reduceLeDiff, Nat.reduceMul, reduceCtorEq, Int.reduceLT, Int.reduceLE, Int.reduceGT, Int.reduceGE, Int.reduceEq, Int.reduceNeg]) | (refine condF_split (fun hc => ?_) (fun hc => ?_) <;> (try simp only [Bool.not_eq_true', Bool.not_eq_false', Bool.and_eq_true, Bool.or_eq_false_iff] at hc)) | (intro _; intros) | (refine And.intro ?_ ?_; focus (first | omega | ((repeat (first | exact Sub.refl _ | (refine Sub.drop ?_ ?_; focus (simp only [evN, *]; done)) | refine Sub.both ?_)); done) | (simp_all; done) | (simp_all; omega)))))
    refine drawxF_of (Sub.refl _) ?_
    (repeat' (first | (simp +contextual -dsimp only [*, Msg.cells, Fct.cells, ↓reduceIte, ↓evP, evQ, splice, Nat.reduceAdd, Nat.reduceEqDiff, Nat.reduceLeDiff, Nat.reduceMul, reduceCtorEq, Int.reduceLT, Int.reduceLE, Int.reduceGT, Int.reduceGE, Int.reduceEq, Int.reduceNeg]) | (refine condF_split (fun hc => ?_) (fun hc => ?_) <;> (try simp only [Bool.not_eq_true', Bool.not_eq_false', Bool.and_eq_true, Bool.or_eq_false_iff] at hc)) | (intro _; intros) | (refine And.intro ?_ ?_; focus (first | omega | ((repeat (first | exact Sub.refl _ | (refine Sub.drop ?_ ?_; focus (simp only [evN, *]; done)) | refine Sub.both ?_)); done) | (simp_all; done) | (simp_all; omega)))))
    refine gcallF_of (to105 k _ _ hk) ?_
    (repeat' (first | (simp +contextual -dsimp only [*, Msg.cells, Fct.cells, ↓reduceIte, ↓evP, evQ, splice, Nat.reduceAdd, Nat.reduceEqDiff, Nat.reduceLeDiff, Nat.reduceMul, reduceCtorEq, Int.reduceLT, Int.reduceLE, Int.reduceGT, Int.reduceGE, Int.reduceEq, Int.reduceNeg]) | (refine condF_split (fun hc => ?_) (fun hc => ?_) <;> (try simp only [Bool.not_eq_true', Bool.not_eq_false', Bool.and_eq_true, Bool.or_eq_false_iff] at hc)) | (intro _; intros) | (refine And.intro ?_ ?_; focus (first | omega | ((repeat (first | exact Sub.refl _ | (refine Sub.drop ?_ ?_; focus (simp only [evN, *]; done)) | refine Sub.both ?_)); done) | (simp_all; done) | (simp_all; omega)))))
    rename_i w w1 w1' w2 w2' w3 w3' w0 b b1 b1' b2 b2' b3 b3' b4 b4' b0
    refine endF_at ⟨[{ kind := 7, node := toN k c.nodes, key := k, has := fh, data := fd, lo := fl, hi := fi, n := (S.last : Nat) }], .inr ⟨b, 2, rfl, Nat.le_refl _, by rw [upd_same]; rfl⟩, ?_⟩
    exact made_at (((((Made.nil σ).beside hx _).beside (by simp only [evN, *]; done) _).beside (by simp only [evN, *]; done) _).beside (by simp only [evN, *]; done) _) (by simp only [evN, *]; done) _ _ _
  | false =>
    (repeat' (first | (simp +contextual -dsimp only [*, Msg.cells, Fct.cells, ↓reduceIte, ↓evP, evQ, splice, Nat.reduceAdd, Nat.reduceEqDiff, Nat.reduceLeDiff, Nat.reduceMul, reduceCtorEq, Int.reduceLT, Int.reduceLE, Int.reduceGT, Int.reduceGE, Int.reduceEq, Int.reduceNeg]) | (refine condF_split (fun hc => ?_) (fun hc => ?_) <;> (try simp only [Bool.not_eq_true', Bool.not_eq_false', Bool.and_eq_true, Bool.or_eq_false_iff] at hc)) | (intro _; intros) | (refine And.intro ?_ ?_; focus (first | omega | ((repeat (first | exact Sub.refl _ | (refine Sub.drop ?_ ?_; focus (simp only [evN, *]; done)) | refine Sub.both ?_)); done) | (simp_all; done) | (simp_all; omega)))))
    rename_i f f1 f1' f2 f2' f0 b b1 b1' b2 b2' b3 b3' b0
    refine endF_at ⟨[], .inr ⟨b, 1, rfl, Nat.le_refl _, by rw [upd_same]; rfl⟩, ?_⟩
    exact made_at ((((Made.nil σ).beside hx _).beside (by simp only [evN, *]; done) _).beside (by simp only [evN, *]; done) _) (by simp only [evN, *]; done) _ _ _
structure Mk where
  n : Nat
  key : ByteArray
def Mk.cells (m : Mk) : List Value := [.int .i64 m.n, .string m.key]
theorem Mk.cells_len (m : Mk) : m.cells.length = 2 := rfl
/-- A ring of C places over a heap: the marks that it holds, the oldest first. -/
structure RecAt (σ : Hp) (g b C : Nat) (M : List Mk) (since last : Nat) : Prop where
  st : ∃ (R : List Mk) (f : Nat), σ g = some (.cells [.slice (some ⟨b, 0, none⟩) C C, .int .i64 (f : Nat), .int .i64 (M.length : Nat), .int .i64 (since : Nat), .int .i64 (last : Nat)] 125) ∧ σ b = some (.row (R.flatMap Mk.cells) (C * 2) 130) ∧
    R.length = C ∧ (f < C ∨ f = 0) ∧ M.length ≤ C ∧ ∀ (i : Nat) m, M[i]? = some m → R[(f + i) % C]? = some m
theorem RecAt.ks {σ σ' : Hp} {g b C : Nat} {M : List Mk} {since last : Nat} {p : Blk → Prop} (h : RecAt σ g b C M since last) (hs : KSame p σ σ') (h1 : ∀ cs, ¬ p (.cells cs 125)) (h2 : ∀ cs r, ¬ p (.row cs r 130)) : RecAt σ' g b C M since last := by
  obtain ⟨R, f, a, b', c⟩ := h.st
  exact ⟨R, f, hs _ _ a (h1 _), hs _ _ b' (h2 _ _), c⟩
def pushM (C : Nat) (M : List Mk) (since : Nat) (m : Mk) : List Mk × Nat := match M with
  | [] => if C = 0 then ([], m.n) else ([m], since)
  | a :: r => if r.length + 1 = C then (r ++ [m], a.n) else (a :: r ++ [m], since)
theorem tmod_nat (a b : Nat) : ((a : Nat) : Int).tmod (b : Nat) = ((a % b : Nat) : Int) := by rw [Int.tmod_eq_emod_of_nonneg (by omega)]; rfl
def noteM (C n : Nat) (S : List Mk × Nat) (ks : List ByteArray) : List Mk × Nat := ks.foldl (fun S k => pushM C S.1 S.2 ⟨n, k⟩) S
def isM (k : ByteArray) (a : Nat) (m : Mk) : Bool := decide (a < m.n) && decide (m.key = k)
def runF (C : Nat) : Nat → List Mk × Nat → List (List ByteArray) → List Mk × Nat
  | _, S, [] => S
  | n, S, ks :: r => runF C (n + 1) (noteM C n S ks) r
def runM (C : Nat) (H : List (List ByteArray)) : List Mk × Nat := runF C 1 ([], 0) H
/-- What an append to the stream turns. -/
def pLog (o : Blk) : Prop := isCells 102 o ∨ isRow 36 o
theorem Step.ks {σ σ' : Hp} {g : Nat} {v v' : Value} {H : List (List ByteArray)} (h : Step σ g v σ' v') (hL : LogAt σ g v H) : KSame pLog σ σ' :=
  KSame.ofSame h.1 fun k o hk ho => by
    rcases hk with rfl | hk
    · rw [hL.cell] at ho; cases ho; exact .inl rfl
    · obtain ⟨vs, hr, _⟩ := hL.rows
      rcases hr with ⟨rfl, _⟩ | ⟨b, c, rfl, _, hb⟩
      · cases hk
      · cases hk; rw [hb] at ho; cases ho; exact .inr rfl
/-- The stream, the gap at a and the ring at r over a heap. -/
structure WR (σ0 σ : Hp) (gl g m gr b C : Nat) (v : Value) (H : List (List ByteArray)) (a r : Nat) : Prop where
  ro : RoHeap σ0
  sub : Sub σ0 σ
  log : LogAt σ gl v H
  gap : GapAt σ g m H a
  ring : RecAt σ gr b C (runM C (H.take r)).1 (runM C (H.take r)).2 r
/-- The same before a record has come. -/
structure WR0 (σ0 σ : Hp) (gl g m gr b C : Nat) (v : Value) (H : List (List ByteArray)) : Prop where
  ro : RoHeap σ0
  sub : Sub σ0 σ
  log : LogAt σ gl v H
  gcell : σ g = some (.cells [.int .i64 0, .int .i64 256, .map (some m)] 121)
  gm : σ m = some (.im [])
  ring : RecAt σ gr b C [] 0 0
theorem WR0.done {σ0 σ : Hp} {gl g m gr b C : Nat} {v : Value} {H : List (List ByteArray)} (h : WR0 σ0 σ gl g m gr b C v H) : WR σ0 σ gl g m gr b C v H 0 0 :=
  ⟨h.ro, h.sub, h.log, ⟨h.gcell, ⟨[], h.gm, List.Pairwise.nil, fun p hp => by cases hp⟩, Nat.zero_le _⟩, h.ring⟩
theorem WR0.fresh {σ0 σ : Hp} {gl g m gr b C : Nat} {v : Value} {H : List (List ByteArray)} (h : WR0 σ0 σ gl g m gr b C v H) {x : Nat} (hx : σ x = none) (o : Blk) : WR0 σ0 (upd σ x o) gl g m gr b C v H := by
  have hs := (KSame.refl (fun _ => False) σ).new hx o
  exact ⟨h.ro, hs.sub h.ro h.sub (fun _ x => x), h.log.ks hs (fun _ x => x) (fun _ _ x => x) (fun _ _ x => x), hs _ _ h.gcell (fun x => x), hs _ _ h.gm (fun x => x), h.ring.ks hs (fun _ x => x) (fun _ _ x => x)⟩
theorem WR.fresh {σ0 σ : Hp} {gl g m gr b C : Nat} {v : Value} {H : List (List ByteArray)} {a r : Nat} (h : WR σ0 σ gl g m gr b C v H a r) {x : Nat} (hx : σ x = none) (o : Blk) : WR σ0 (upd σ x o) gl g m gr b C v H a r := by
  have hs := (KSame.refl (fun _ => False) σ).new hx o
  exact ⟨h.ro, hs.sub h.ro h.sub (fun _ x => x), h.log.ks hs (fun _ x => x) (fun _ _ x => x) (fun _ _ x => x), h.gap.ks hs (fun _ x => x) (fun _ x => x) (fun _ _ x => x), h.ring.ks hs (fun _ x => x) (fun _ _ x => x)⟩
theorem WR0.append {σ0 σ σ' : Hp} {gl g m gr b C : Nat} {v v' : Value} {H : List (List ByteArray)} {ks : List ByteArray} (h : WR0 σ0 σ gl g m gr b C v H) (hl : LogAt σ' gl v' (H ++ [ks])) (hst : Step σ gl v σ' v') : WR0 σ0 σ' gl g m gr b C v' (H ++ [ks]) := by
  have hs := hst.ks h.log
  refine ⟨h.ro, hs.sub h.ro h.sub ?_, hl, hs _ _ h.gcell ?_, hs _ _ h.gm ?_, h.ring.ks hs ?_ ?_⟩
  · rintro x (q | q) <;> exact q
  · rintro (q | q)
    · exact absurd (show (121 : Nat) = 102 from q) (by decide)
    · exact q
  · rintro (q | q) <;> exact q
  · rintro cs (q | q)
    · exact absurd (show (125 : Nat) = 102 from q) (by decide)
    · exact q
  · rintro cs r (q | q)
    · exact q
    · exact absurd (show (130 : Nat) = 36 from q) (by decide)
def zReq : Value := .agg #[.int .i64 0, .int .i64 0, .int .i64 0]
/-- The last request of session 0 had no greater number. -/
def SesOk (l : List (Int × Value)) (q : Int) : Prop := ∃ a n e : Int, (mget l 0).getD zReq = .agg #[.int .i64 a, .int .i64 n, .int .i64 e] ∧ a ≤ q
/-- The origin over a heap: its store holds HS, its stream HL. -/
structure OR (σ0 σ : Hp) (go ms g m gl : Nat) (c : Cfg) (mo : Nat) (v : Value) (HS HL : List (List Wr)) (q : Int) : Prop where
  ro : RoHeap σ0
  sub : Sub σ0 σ
  cell : σ go = some (.cells (orC c g gl ms) 135)
  ses : ∃ l, σ ms = some (.im l) ∧ SesOk l q
  store : StoreAt σ g m (St.run mo HS)
  log : LogAt σ gl v (HL.map keysOf)
/-- What the origin turns. -/
def pOr (o : Blk) : Prop := isIm o ∨ isCells 100 o ∨ isMp o ∨ isCells 102 o ∨ isRow 36 o ∨ isRow 139 o
def pSto (o : Blk) : Prop := isCells 100 o ∨ isMp o
theorem ro_not {σ0 σ : Hp} (hr : RoHeap σ0) (hs : Sub σ0 σ) {k : Nat} {o : Blk} (h : σ k = some o) (ho : ∀ x, ¬ o = .ro x) : σ0 k = none := by
  rcases hs k with e | e
  · exact e
  · cases hk : σ0 k with
    | none => rfl
    | some o' =>
      obtain ⟨x, rfl⟩ := hr k o' hk
      rw [hk, h] at e
      exact absurd (Option.some.inj e).symm (ho x)
theorem OR.fresh {σ0 σ σ' : Hp} {go ms g m gl : Nat} {c : Cfg} {mo : Nat} {v : Value} {HS HL : List (List Wr)} {q : Int} (h : OR σ0 σ go ms g m gl c mo v HS HL q) (hs : KSame pNo σ σ') : OR σ0 σ' go ms g m gl c mo v HS HL q := by
  obtain ⟨l, h1, h2⟩ := h.ses
  exact ⟨h.ro, hs.sub h.ro h.sub (fun _ x => x), hs _ _ h.cell (fun x => x), ⟨l, hs _ _ h1 (fun x => x), h2⟩, h.store.ks hs (fun _ x => x) (fun _ x => x) (fun _ _ x => x), h.log.ks hs (fun _ x => x) (fun _ _ x => x) (fun _ _ x => x)⟩
theorem sto_ks {σ σ' : Hp} {g m : Nat} {S : St} (h : StoreAt σ g m S) (hs : Same (fun k => k = g ∨ k = m) σ σ') : KSame pSto σ σ' :=
  KSame.ofSame hs fun k o hk ho => by
    obtain ⟨l, hm, _⟩ := h.map
    rcases hk with rfl | rfl
    · rw [h.cell] at ho; cases ho; exact .inl rfl
    · rw [hm] at ho; cases ho; exact .inr trivial
theorem OR.commit {σ0 σ σ' : Hp} {go ms g m gl : Nat} {c : Cfg} {mo : Nat} {v : Value} {HS HL : List (List Wr)} {ws : List Wr} {q : Int} (h : OR σ0 σ go ms g m gl c mo v HS HL q) (hs : KSame pSto σ σ') (hS : StoreAt σ' g m ((St.run mo HS).commit ws)) (hg : GoodWs ws) : OR σ0 σ' go ms g m gl c mo v (HS ++ [ws]) HL q := by
  obtain ⟨l, h1, h2⟩ := h.ses
  refine ⟨h.ro, hs.sub h.ro h.sub ?_, hs _ _ h.cell ?_, ⟨l, hs _ _ h1 ?_, h2⟩, by rw [← run_commit _ _ _ hg.once]; exact hS, h.log.ks hs ?_ ?_ ?_⟩
  · rintro x (q | q) <;> exact q
  · rintro (q | q)
    · exact absurd (show (135 : Nat) = 100 from q) (by decide)
    · exact q
  · rintro (q | q) <;> exact q
  · rintro cs (q | q)
    · exact absurd (show (102 : Nat) = 100 from q) (by decide)
    · exact q
  · rintro cs r (q | q) <;> exact q
  · rintro cs r (q | q) <;> exact q
theorem OR.append {σ0 σ σ' : Hp} {go ms g m gl : Nat} {c : Cfg} {mo : Nat} {v v' : Value} {HS HL : List (List Wr)} {ws : List Wr} {q : Int} (h : OR σ0 σ go ms g m gl c mo v HS HL q) (hs : KSame pLog σ σ') (hL : LogAt σ' gl v' (HL.map keysOf ++ [keysOf ws])) : OR σ0 σ' go ms g m gl c mo v' HS (HL ++ [ws]) q := by
  obtain ⟨l, h1, h2⟩ := h.ses
  refine ⟨h.ro, hs.sub h.ro h.sub ?_, hs _ _ h.cell ?_, ⟨l, hs _ _ h1 ?_, h2⟩, h.store.ks hs ?_ ?_ ?_, by rw [List.map_append]; exact hL⟩
  · rintro x (q | q) <;> exact q
  · rintro (q | q)
    · exact absurd (show (135 : Nat) = 102 from q) (by decide)
    · exact q
  · rintro (q | q) <;> exact q
  · rintro cs (q | q)
    · exact absurd (show (100 : Nat) = 102 from q) (by decide)
    · exact q
  · rintro l (q | q) <;> exact q
  · rintro cs r (q | q)
    · exact q
    · exact absurd (show (109 : Nat) = 36 from q) (by decide)
theorem OR.sets {σ0 σ σ' : Hp} {go ms g m gl : Nat} {c : Cfg} {mo : Nat} {v : Value} {HS HL : List (List Wr)} {q q' : Int} {l : List (Int × Value)} (h : OR σ0 σ go ms g m gl c mo v HS HL q) (hs : KSame isIm σ σ') (hl : σ' ms = some (.im l)) (hq : SesOk l q') : OR σ0 σ' go ms g m gl c mo v HS HL q' :=
  ⟨h.ro, hs.sub h.ro h.sub (fun _ x => x), hs _ _ h.cell (fun x => x), ⟨l, hl, hq⟩, h.store.ks hs (fun _ x => x) (fun _ x => x) (fun _ _ x => x), h.log.ks hs (fun _ x => x) (fun _ _ x => x) (fun _ _ x => x)⟩
theorem OR.msgs {σ0 σ σ' : Hp} {go ms g m gl : Nat} {c : Cfg} {mo : Nat} {v : Value} {HS HL : List (List Wr)} {q : Int} (h : OR σ0 σ go ms g m gl c mo v HS HL q) (hs : KSame (isRow 139) σ σ') : OR σ0 σ' go ms g m gl c mo v HS HL q := by
  obtain ⟨l, h1, h2⟩ := h.ses
  refine ⟨h.ro, hs.sub h.ro h.sub (fun _ x => x), hs _ _ h.cell (fun x => x), ⟨l, hs _ _ h1 (fun x => x), h2⟩, h.store.ks hs (fun _ x => x) (fun _ x => x) ?_, h.log.ks hs (fun _ x => x) ?_ ?_⟩
  · exact fun cs r q => absurd (show (109 : Nat) = 139 from q) (by decide)
  · exact fun cs r q => absurd (show (36 : Nat) = 139 from q) (by decide)
  · exact fun cs r q => absurd (show (9 : Nat) = 139 from q) (by decide)
theorem sesOk_put (l : List (Int × Value)) (a n e : Int) : SesOk (mput l 0 (.agg #[.int .i64 a, .int .i64 n, .int .i64 e])) a := by
  refine ⟨a, n, e, ?_, Int.le_refl _⟩
  have : ∀ l : List (Int × Value), mget (mput l 0 (.agg #[.int .i64 a, .int .i64 n, .int .i64 e])) 0 = some (.agg #[.int .i64 a, .int .i64 n, .int .i64 e]) := by
    intro l
    induction l with
    | nil => unfold mput mget; simp
    | cons p r ih =>
      unfold mput
      by_cases e : p.1 = 0
      · simp [e, mget]
      · have e' : ¬ (0 : Int) = p.1 := fun h => e h.symm
        simp [e, e', mget]
        exact ih
  rw [this]; rfl
set_option maxHeartbeats 1000000 in
theorem keysLoop {Q : Exit → Sl → Hp → Prop} {σ0 σ : Hp} {s : Sl} {x : Nat} {v a0 a7 a10 : Value} {ws : List Wr} (s3 : s 3 = .pointer (some ⟨x, 0, none⟩)) (hx : rd σ x 14 = some v) (hv : RoRows 3 Wr.cells σ0 v ws) (hsub : Sub σ0 σ) (hn : ws.length ≤ 1048576)
    (s11 : s 11 = .slice none 0 0) (s0 : s 0 = a0) (s7 : s 7 = a7) (s10 : s 10 = a10)
    (hk : ∀ s' σ' v', RowsAt 9 1 sC σ' v' (keysOf ws) → Made σ σ' v' → s' 0 = a0 → s' 7 = a7 → s' 10 = a10 → s' 11 = v' → Q .normal s' σ') :
    codeF Try.prog c80_b0 Q s σ ⟨⟩ := by
  have HV := Hid.mk (hv.sub hsub)
  have HK := Hid.mk hk
  obtain ⟨A, c, rfl⟩ : ∃ A c, v = .slice A ws.length c := by obtain ⟨A, c, rfl, _⟩ := hv; exact ⟨A, c, rfl⟩
  clear hv hk
  unfold c80_b0
  (repeat' (first | (simp +contextual -dsimp only [*, Wr.cells, Msg.cells, ↓reduceIte, ↓evP, evQ, splice, Nat.reduceAdd, Nat.reduceEqDiff, Nat.reduceLeDiff, Nat.reduceMul, reduceCtorEq, Int.reduceLT, Int.reduceLE, Int.reduceGT, Int.reduceGE, Int.reduceEq, Int.reduceNeg]) | (refine condF_split (fun hc => ?_) (fun hc => ?_) <;> (try simp only [Bool.not_eq_true', Bool.not_eq_false', Bool.and_eq_true, Bool.or_eq_false_iff] at hc)) | (intro _; intros) | (refine And.intro ?_ ?_; focus (first | omega | ((repeat (first | exact Sub.refl _ | (refine Sub.drop ?_ ?_; focus (simp only [evN, *]; done)) | refine Sub.both ?_)); done) | (simp_all; done) | (simp_all; omega)))))
  refine loopF_of (fun k s σ' => ∃ (i : Nat) (v3 : Value), i ≤ ws.length ∧ k = ws.length - i ∧ s 69 = .int .i64 i ∧ s 68 = .int .i64 (ws.length : Nat) ∧ s 67 = .slice A ws.length c ∧ s 11 = v3 ∧ s 0 = a0 ∧ s 7 = a7 ∧ s 10 = a10 ∧ RowsAt 9 1 sC σ' v3 (keysOf (ws.take i)) ∧ Made σ σ' v3) ws.length (Sub.refl _)
    ⟨0, .slice none 0 0, by omega, rfl, (by first | rfl | (simp only [↓putO_get, ↓putO_no, init_zero, init_succ, Nat.reduceEqDiff, ↓reduceIte, *]; done) | (simp only [↓putO_get, ↓putO_no, init_zero, init_succ, Nat.reduceEqDiff, ↓reduceIte, *]; rfl)), (by first | rfl | (simp only [↓putO_get, ↓putO_no, init_zero, init_succ, Nat.reduceEqDiff, ↓reduceIte, *]; done) | (simp only [↓putO_get, ↓putO_no, init_zero, init_succ, Nat.reduceEqDiff, ↓reduceIte, *]; rfl)), (by first | rfl | (simp only [↓putO_get, ↓putO_no, init_zero, init_succ, Nat.reduceEqDiff, ↓reduceIte, *]; done) | (simp only [↓putO_get, ↓putO_no, init_zero, init_succ, Nat.reduceEqDiff, ↓reduceIte, *]; rfl)), (by first | rfl | (simp only [↓putO_get, ↓putO_no, init_zero, init_succ, Nat.reduceEqDiff, ↓reduceIte, *]; done) | (simp only [↓putO_get, ↓putO_no, init_zero, init_succ, Nat.reduceEqDiff, ↓reduceIte, *]; rfl)), (by first | rfl | (simp only [↓putO_get, ↓putO_no, init_zero, init_succ, Nat.reduceEqDiff, ↓reduceIte, *]; done) | (simp only [↓putO_get, ↓putO_no, init_zero, init_succ, Nat.reduceEqDiff, ↓reduceIte, *]; rfl)), (by first | rfl | (simp only [↓putO_get, ↓putO_no, init_zero, init_succ, Nat.reduceEqDiff, ↓reduceIte, *]; done) | (simp only [↓putO_get, ↓putO_no, init_zero, init_succ, Nat.reduceEqDiff, ↓reduceIte, *]; rfl)), (by first | rfl | (simp only [↓putO_get, ↓putO_no, init_zero, init_succ, Nat.reduceEqDiff, ↓reduceIte, *]; done) | (simp only [↓putO_get, ↓putO_no, init_zero, init_succ, Nat.reduceEqDiff, ↓reduceIte, *]; rfl)), .inl ⟨rfl, rfl⟩, Made.nil _⟩ ?_
  rintro k s τ ⟨i, v3, hi, hk, h69, h68, h67, h11, h0, h7, h10, hr, hm⟩
  rcases Nat.lt_or_ge i ws.length with hlt | hge
  · obtain ⟨w, hw⟩ : ∃ w, ws[i]? = some w := ⟨_, List.getElem?_eq_getElem hlt⟩
    obtain ⟨b, off, e, hrd⟩ := (HV.out.sub hm.sub).get hlt
    subst e
    rw [show ws[i] = w by rw [List.getElem?_eq_getElem hlt] at hw; exact Option.some.inj hw] at hrd
    have hd : decide ((i : Int) < (ws.length : Int)) = true := by simp; omega
    have e1 : IntKind.i64.wrap ((i : Int) + 1) = ((i + 1 : Nat) : Int) := by rw [wi64 (by omega)]; rfl
    have HR := Hid.mk (And.intro hr (And.intro hm hw))
    clear hr hm hw
    (repeat' (first | (simp +contextual -dsimp only [*, Wr.cells, Msg.cells, ↓reduceIte, ↓evP, evQ, splice, Nat.reduceAdd, Nat.reduceEqDiff, Nat.reduceLeDiff, Nat.reduceMul, reduceCtorEq, Int.reduceLT, Int.reduceLE, Int.reduceGT, Int.reduceGE, Int.reduceEq, Int.reduceNeg]) | (refine condF_split (fun hc => ?_) (fun hc => ?_) <;> (try simp only [Bool.not_eq_true', Bool.not_eq_false', Bool.and_eq_true, Bool.or_eq_false_iff] at hc)) | (intro _; intros) | (refine And.intro ?_ ?_; focus (first | omega | ((repeat (first | exact Sub.refl _ | (refine Sub.drop ?_ ?_; focus (simp only [evN, *]; done)) | refine Sub.both ?_)); done) | (simp_all; done) | (simp_all; omega)))))
    rename_i y y0 n n1 n1' n0
    have hn1 : upd τ y (.cells [.string w.key, .bool w.has, .string w.data] 33) n = none := (by simp only [evN, *]; done)
    have hr := (HR.out.1.fresh y0 (.cells [.string w.key, .bool w.has, .string w.data] 33)).fresh hn1 (.row [.string w.key] 1 9)
    have hkl : (keysOf (ws.take i)).length = i := by simp [keysOf]; omega
    refine app_row (ys := [w.key]) sC_len (fun _ => rfl) hr (by first | (simp only [Nat.reduceMul, Nat.one_mul, Nat.zero_mul, rdn_row, rdn_same, rdn_ne, seg_zero, seg_cons, seg_skip, Option.map_some, not_false_eq_true, *]; done) | (simp only [Nat.reduceMul, Nat.one_mul, Nat.zero_mul, rdn_row, rdn_same, rdn_ne, seg_zero, seg_cons, seg_skip, Option.map_some, not_false_eq_true, *]; exact rfl)) rfl (by omega) (by omega) (by unfold maxLen; omega) ?_
    intro v' σ' hv' hG
    (repeat' (first | (simp +contextual -dsimp only [*, Wr.cells, Msg.cells, ↓reduceIte, ↓evP, evQ, splice, Nat.reduceAdd, Nat.reduceEqDiff, Nat.reduceLeDiff, Nat.reduceMul, reduceCtorEq, Int.reduceLT, Int.reduceLE, Int.reduceGT, Int.reduceGE, Int.reduceEq, Int.reduceNeg]) | (refine condF_split (fun hc => ?_) (fun hc => ?_) <;> (try simp only [Bool.not_eq_true', Bool.not_eq_false', Bool.and_eq_true, Bool.or_eq_false_iff] at hc)) | (intro _; intros) | (refine And.intro ?_ ?_; focus (first | omega | ((repeat (first | exact Sub.refl _ | (refine Sub.drop ?_ ?_; focus (simp only [evN, *]; done)) | refine Sub.both ?_)); done) | (simp_all; done) | (simp_all; omega)))))
    refine nextF_of (ws.length - (i + 1)) (by omega) (Sub.refl _) ⟨i + 1, v', by omega, rfl, (by first | rfl | (simp only [↓putO_get, ↓putO_no, init_zero, init_succ, Nat.reduceEqDiff, ↓reduceIte, *]; done) | (simp only [↓putO_get, ↓putO_no, init_zero, init_succ, Nat.reduceEqDiff, ↓reduceIte, *]; rfl)), (by first | rfl | (simp only [↓putO_get, ↓putO_no, init_zero, init_succ, Nat.reduceEqDiff, ↓reduceIte, *]; done) | (simp only [↓putO_get, ↓putO_no, init_zero, init_succ, Nat.reduceEqDiff, ↓reduceIte, *]; rfl)), (by first | rfl | (simp only [↓putO_get, ↓putO_no, init_zero, init_succ, Nat.reduceEqDiff, ↓reduceIte, *]; done) | (simp only [↓putO_get, ↓putO_no, init_zero, init_succ, Nat.reduceEqDiff, ↓reduceIte, *]; rfl)), (by first | rfl | (simp only [↓putO_get, ↓putO_no, init_zero, init_succ, Nat.reduceEqDiff, ↓reduceIte, *]; done) | (simp only [↓putO_get, ↓putO_no, init_zero, init_succ, Nat.reduceEqDiff, ↓reduceIte, *]; rfl)), (by first | rfl | (simp only [↓putO_get, ↓putO_no, init_zero, init_succ, Nat.reduceEqDiff, ↓reduceIte, *]; done) | (simp only [↓putO_get, ↓putO_no, init_zero, init_succ, Nat.reduceEqDiff, ↓reduceIte, *]; rfl)), (by first | rfl | (simp only [↓putO_get, ↓putO_no, init_zero, init_succ, Nat.reduceEqDiff, ↓reduceIte, *]; done) | (simp only [↓putO_get, ↓putO_no, init_zero, init_succ, Nat.reduceEqDiff, ↓reduceIte, *]; rfl)), (by first | rfl | (simp only [↓putO_get, ↓putO_no, init_zero, init_succ, Nat.reduceEqDiff, ↓reduceIte, *]; done) | (simp only [↓putO_get, ↓putO_no, init_zero, init_succ, Nat.reduceEqDiff, ↓reduceIte, *]; rfl)), ?_, ?_⟩
    · have e2 : ws.take (i + 1) = ws.take i ++ [w] := by rw [List.take_add_one, HR.out.2.2]; rfl
      rw [e2]; unfold keysOf at *; rw [List.map_append]; exact hv'
    · exact ((HR.out.2.1.beside y0 _).beside hn1 _).grew hG
  · have hd : decide ((i : Int) < (ws.length : Int)) = false := by simp; omega
    have HR := Hid.mk (And.intro hr hm)
    clear hr hm
    (repeat' (first | (simp +contextual -dsimp only [*, Wr.cells, Msg.cells, ↓reduceIte, ↓evP, evQ, splice, Nat.reduceAdd, Nat.reduceEqDiff, Nat.reduceLeDiff, Nat.reduceMul, reduceCtorEq, Int.reduceLT, Int.reduceLE, Int.reduceGT, Int.reduceGE, Int.reduceEq, Int.reduceNeg]) | (refine condF_split (fun hc => ?_) (fun hc => ?_) <;> (try simp only [Bool.not_eq_true', Bool.not_eq_false', Bool.and_eq_true, Bool.or_eq_false_iff] at hc)) | (intro _; intros) | (refine And.intro ?_ ?_; focus (first | omega | ((repeat (first | exact Sub.refl _ | (refine Sub.drop ?_ ?_; focus (simp only [evN, *]; done)) | refine Sub.both ?_)); done) | (simp_all; done) | (simp_all; omega)))))
    have e2 : ws.take i = ws := List.take_of_length_le hge
    have := HR.out
    rw [e2] at this
    exact HK.out _ _ _ this.1 this.2 (by first | rfl | (simp only [↓putO_get, ↓putO_no, init_zero, init_succ, Nat.reduceEqDiff, ↓reduceIte, *]; done) | (simp only [↓putO_get, ↓putO_no, init_zero, init_succ, Nat.reduceEqDiff, ↓reduceIte, *]; rfl)) (by first | rfl | (simp only [↓putO_get, ↓putO_no, init_zero, init_succ, Nat.reduceEqDiff, ↓reduceIte, *]; done) | (simp only [↓putO_get, ↓putO_no, init_zero, init_succ, Nat.reduceEqDiff, ↓reduceIte, *]; rfl)) (by first | rfl | (simp only [↓putO_get, ↓putO_no, init_zero, init_succ, Nat.reduceEqDiff, ↓reduceIte, *]; done) | (simp only [↓putO_get, ↓putO_no, init_zero, init_succ, Nat.reduceEqDiff, ↓reduceIte, *]; rfl)) (by first | rfl | (simp only [↓putO_get, ↓putO_no, init_zero, init_succ, Nat.reduceEqDiff, ↓reduceIte, *]; done) | (simp only [↓putO_get, ↓putO_no, init_zero, init_succ, Nat.reduceEqDiff, ↓reduceIte, *]; rfl))
set_option maxHeartbeats 1000000 in
theorem recLoop {Q : Exit → Sl → Hp → Prop} {σ : Hp} {s : Sl} {go g gl ms : Nat} {c : Cfg} {v w : Value} {H : List (List ByteArray)} {m0 : Msg} (hc : σ go = some (.cells (orC c g gl ms) 135)) (hn : c.nodes = 1) (h : LogAt σ gl v H) (h0 : 1 ≤ H.length) (hH : H.length < 1000000) (hR : RowsAt 139 16 Msg.cells σ w [m0])
    (s0 : s 0 = .pointer (some ⟨go, 0, none⟩)) (s7 : s 7 = .int .i64 (H.length : Nat)) (s10 : s 10 = w)
    (hk : ∀ s' σ' w' m1, RowsAt 139 16 Msg.cells σ' w' [m0, m1] → KSame (isRow 139) σ σ' → s' 10 = w' → Q .normal s' σ') :
    codeF Try.prog c80_b2 Q s σ ⟨⟩ := by
  have hr0 : rd σ go 0 = some (.int .i64 1) := by unfold rd; rw [hc]; unfold orC; rw [hn]; rfl
  have HK := Hid.mk hk
  have q := record104 hc h h0 hH 0 (by omega)
  have HR := Hid.mk hR
  clear hk hc h hR
  unfold c80_b2
  (repeat' (first | (simp +contextual -dsimp only [*, Wr.cells, Msg.cells, ↓reduceIte, ↓evP, evQ, splice, Nat.reduceAdd, Nat.reduceEqDiff, Nat.reduceLeDiff, Nat.reduceMul, reduceCtorEq, Int.reduceLT, Int.reduceLE, Int.reduceGT, Int.reduceGE, Int.reduceEq, Int.reduceNeg]) | (refine condF_split (fun hc => ?_) (fun hc => ?_) <;> (try simp only [Bool.not_eq_true', Bool.not_eq_false', Bool.and_eq_true, Bool.or_eq_false_iff] at hc)) | (intro _; intros) | (refine And.intro ?_ ?_; focus (first | omega | ((repeat (first | exact Sub.refl _ | (refine Sub.drop ?_ ?_; focus (simp only [evN, *]; done)) | refine Sub.both ?_)); done) | (simp_all; done) | (simp_all; omega)))))
  refine loopF_of (fun k s σ' => (k = 1 ∧ σ' = σ ∧ s 90 = .int .i64 0 ∧ s 89 = .int .i64 1 ∧ s 0 = .pointer (some ⟨go, 0, none⟩) ∧ s 7 = .int .i64 (H.length : Nat) ∧ s 10 = w) ∨ (k = 0 ∧ ∃ w' m1, s 90 = .int .i64 1 ∧ s 89 = .int .i64 1 ∧ s 10 = w' ∧ RowsAt 139 16 Msg.cells σ' w' [m0, m1] ∧ KSame (isRow 139) σ σ')) 1 (Sub.refl _)
    (.inl ⟨rfl, rfl, (by first | rfl | (simp only [↓putO_get, ↓putO_no, init_zero, init_succ, Nat.reduceEqDiff, ↓reduceIte, *]; done) | (simp only [↓putO_get, ↓putO_no, init_zero, init_succ, Nat.reduceEqDiff, ↓reduceIte, *]; rfl)), (by first | rfl | (simp only [↓putO_get, ↓putO_no, init_zero, init_succ, Nat.reduceEqDiff, ↓reduceIte, *]; done) | (simp only [↓putO_get, ↓putO_no, init_zero, init_succ, Nat.reduceEqDiff, ↓reduceIte, *]; rfl)), (by first | rfl | (simp only [↓putO_get, ↓putO_no, init_zero, init_succ, Nat.reduceEqDiff, ↓reduceIte, *]; done) | (simp only [↓putO_get, ↓putO_no, init_zero, init_succ, Nat.reduceEqDiff, ↓reduceIte, *]; rfl)), (by first | rfl | (simp only [↓putO_get, ↓putO_no, init_zero, init_succ, Nat.reduceEqDiff, ↓reduceIte, *]; done) | (simp only [↓putO_get, ↓putO_no, init_zero, init_succ, Nat.reduceEqDiff, ↓reduceIte, *]; rfl)), (by first | rfl | (simp only [↓putO_get, ↓putO_no, init_zero, init_succ, Nat.reduceEqDiff, ↓reduceIte, *]; done) | (simp only [↓putO_get, ↓putO_no, init_zero, init_succ, Nat.reduceEqDiff, ↓reduceIte, *]; rfl))⟩) ?_
  rintro k s τ1 (⟨rfl, rfl, s90, s89, s0, s7, s10⟩ | ⟨rfl, w', m1, s90, s89, s10, hR, hM⟩)
  · (repeat' (first | (simp +contextual -dsimp only [*, Wr.cells, Msg.cells, ↓reduceIte, ↓evP, evQ, splice, Nat.reduceAdd, Nat.reduceEqDiff, Nat.reduceLeDiff, Nat.reduceMul, reduceCtorEq, Int.reduceLT, Int.reduceLE, Int.reduceGT, Int.reduceGE, Int.reduceEq, Int.reduceNeg]) | (refine condF_split (fun hc => ?_) (fun hc => ?_) <;> (try simp only [Bool.not_eq_true', Bool.not_eq_false', Bool.and_eq_true, Bool.or_eq_false_iff] at hc)) | (intro _; intros) | (refine And.intro ?_ ?_; focus (first | omega | ((repeat (first | exact Sub.refl _ | (refine Sub.drop ?_ ?_; focus (simp only [evN, *]; done)) | refine Sub.both ?_)); done) | (simp_all; done) | (simp_all; omega)))))
    refine callF_of q ?_
    rintro u σ' ⟨m1, hone, hm1, hm2⟩
    clear q
    have hs : KSame pNo τ1 σ' := KSame.made hm2.1
    have hRw := HR.out.ks hs (fun _ _ x => x)
    obtain ⟨A, ac, rfl⟩ := hm1.slice
    obtain ⟨b, off, e, hrd⟩ := (hm1.ro Msg.cells_len).get (Nat.zero_lt_one : 0 < [m1].length)
    subst e
    have hrd : rdn σ' b (off + 0 * 16) 16 = some (Msg.cells m1) := hrd
    rw [show [m1].length = 1 from rfl]
    have HQ := Hid.mk (And.intro hone (And.intro hRw (And.intro hrd hs)))
    clear hone hRw hrd hs hm1 hm2
    (repeat' (first | (simp +contextual -dsimp only [*, Wr.cells, Msg.cells, ↓reduceIte, ↓evP, evQ, splice, Nat.reduceAdd, Nat.reduceEqDiff, Nat.reduceLeDiff, Nat.reduceMul, reduceCtorEq, Int.reduceLT, Int.reduceLE, Int.reduceGT, Int.reduceGE, Int.reduceEq, Int.reduceNeg]) | (refine condF_split (fun hc => ?_) (fun hc => ?_) <;> (try simp only [Bool.not_eq_true', Bool.not_eq_false', Bool.and_eq_true, Bool.or_eq_false_iff] at hc)) | (intro _; intros) | (refine And.intro ?_ ?_; focus (first | omega | ((repeat (first | exact Sub.refl _ | (refine Sub.drop ?_ ?_; focus (simp only [evN, *]; done)) | refine Sub.both ?_)); done) | (simp_all; done) | (simp_all; omega)))))
    refine app_rowv (ys := [m1]) Msg.cells_len HQ.out.2.1 (by rw [List.flatMap_cons, List.flatMap_nil, List.append_nil]; exact HQ.out.1) (by rw [List.flatMap_cons, List.flatMap_nil, List.append_nil, ← HQ.out.2.2.1]; rfl) rfl (by decide) (by simp only [List.length_cons, List.length_nil]; omega) (by simp only [List.length_cons, List.length_nil]; unfold maxLen; omega) ?_
    intro w' σ'' hw' hG
    have HM := Hid.mk (And.intro hw' (((HQ.out.2.2.2.mono fun _ x => x.elim)).trans (hG.ks HQ.out.2.1)))
    clear hw' hG
    (repeat' (first | (simp +contextual -dsimp only [*, Wr.cells, Msg.cells, ↓reduceIte, ↓evP, evQ, splice, Nat.reduceAdd, Nat.reduceEqDiff, Nat.reduceLeDiff, Nat.reduceMul, reduceCtorEq, Int.reduceLT, Int.reduceLE, Int.reduceGT, Int.reduceGE, Int.reduceEq, Int.reduceNeg]) | (refine condF_split (fun hc => ?_) (fun hc => ?_) <;> (try simp only [Bool.not_eq_true', Bool.not_eq_false', Bool.and_eq_true, Bool.or_eq_false_iff] at hc)) | (intro _; intros) | (refine And.intro ?_ ?_; focus (first | omega | ((repeat (first | exact Sub.refl _ | (refine Sub.drop ?_ ?_; focus (simp only [evN, *]; done)) | refine Sub.both ?_)); done) | (simp_all; done) | (simp_all; omega)))))
    exact nextF_of 0 (by omega) (Sub.refl _) (.inr ⟨rfl, w', m1, (by first | rfl | (simp only [↓putO_get, ↓putO_no, init_zero, init_succ, Nat.reduceEqDiff, ↓reduceIte, *]; done) | (simp only [↓putO_get, ↓putO_no, init_zero, init_succ, Nat.reduceEqDiff, ↓reduceIte, *]; rfl)), (by first | rfl | (simp only [↓putO_get, ↓putO_no, init_zero, init_succ, Nat.reduceEqDiff, ↓reduceIte, *]; done) | (simp only [↓putO_get, ↓putO_no, init_zero, init_succ, Nat.reduceEqDiff, ↓reduceIte, *]; rfl)), (by first | rfl | (simp only [↓putO_get, ↓putO_no, init_zero, init_succ, Nat.reduceEqDiff, ↓reduceIte, *]; done) | (simp only [↓putO_get, ↓putO_no, init_zero, init_succ, Nat.reduceEqDiff, ↓reduceIte, *]; rfl)), HM.out⟩)
  · have HM := Hid.mk (And.intro hR hM)
    obtain ⟨A, ac, rfl⟩ := hR.slice
    clear hR hM
    (repeat' (first | (simp +contextual -dsimp only [*, Wr.cells, Msg.cells, ↓reduceIte, ↓evP, evQ, splice, Nat.reduceAdd, Nat.reduceEqDiff, Nat.reduceLeDiff, Nat.reduceMul, reduceCtorEq, Int.reduceLT, Int.reduceLE, Int.reduceGT, Int.reduceGE, Int.reduceEq, Int.reduceNeg]) | (refine condF_split (fun hc => ?_) (fun hc => ?_) <;> (try simp only [Bool.not_eq_true', Bool.not_eq_false', Bool.and_eq_true, Bool.or_eq_false_iff] at hc)) | (intro _; intros) | (refine And.intro ?_ ?_; focus (first | omega | ((repeat (first | exact Sub.refl _ | (refine Sub.drop ?_ ?_; focus (simp only [evN, *]; done)) | refine Sub.both ?_)); done) | (simp_all; done) | (simp_all; omega)))))
    exact HK.out _ _ _ _ HM.out.1 HM.out.2 (by first | rfl | (simp only [↓putO_get, ↓putO_no, init_zero, init_succ, Nat.reduceEqDiff, ↓reduceIte, *]; done) | (simp only [↓putO_get, ↓putO_no, init_zero, init_succ, Nat.reduceEqDiff, ↓reduceIte, *]; rfl))
theorem ack103 {σ : Hp} {y : Nat} {ss sq : Int} (h3 : rd σ y 3 = some (.int .i64 ss)) (h5 : rd σ y 5 = some (.int .i64 sq)) (a n e : Int) : ACalls Try.prog 103 #[.agg #[.int .i64 a, .int .i64 n, .int .i64 e], .pointer (some ⟨y, 0, none⟩)] σ fun u σ' => u = .agg ({ kind := 2, session := ss, seq := sq, n := n, err := e } : Msg).cells.toArray ∧ σ' = σ := by
  have hn : ∀ z, σ z = none → ¬ y = z := fun z hz e => by unfold rd at h3; rw [e, hz] at h3; cases h3
  (refine acalls_F ok103 (by simp) ?_; unfold c103 r103)
  (repeat' (first | (simp +contextual -dsimp only [*, Wr.cells, Msg.cells, Option.getD_some, Option.isSome_some, ↓reduceIte, ↓evP, evQ, splice, Nat.reduceAdd, Nat.reduceEqDiff, Nat.reduceLeDiff, Nat.reduceMul, reduceCtorEq, Int.reduceLT, Int.reduceLE, Int.reduceGT, Int.reduceGE, Int.reduceEq, Int.reduceNeg]) | (refine condF_split (fun hc => ?_) (fun hc => ?_) <;> (try simp only [Bool.not_eq_true', Bool.not_eq_false', Bool.and_eq_true, Bool.or_eq_false_iff] at hc)) | (intro _; intros) | (refine And.intro ?_ ?_; focus (first | omega | ((repeat (first | exact Sub.refl _ | (refine Sub.drop ?_ ?_; focus (simp only [evN, *]; done)) | refine Sub.both ?_)); done) | (simp_all; done) | (simp_all; omega)))))
  all_goals (refine endF_det ?_ ?_; (focus ((try simp only [cond_true, cond_false, *]) <;> ((try simp only [decide_eq_true_eq, decide_eq_false_iff_not] at *) <;> first | rfl | (simp []; done) | (simp_all []; done) | (simp []; omega) | (simp []; (rw [Bool.eq_iff_iff]); simp; omega) | (simp_all [] <;> omega) | ((try unfold id); (rw [Value.bool.injEq, Bool.eq_iff_iff]); simp <;> omega) | ((try unfold id); (repeat' split) <;> simp_all <;> omega) | (simp_all [] <;> (repeat' split) <;> simp_all <;> omega)))); (focus ((try simp only [cond_true, cond_false, set_same, *]); exact (by (repeat (first | exact Sub.refl _ | (refine Sub.drop ?_ ?_; focus (simp only [evN, *]; done)) | refine Sub.both ?_)); done))))
theorem keep_ks {p : Blk → Prop} {σ σ' : Hp} (h : KSame p σ σ') (b : Nat) (X : Blk) : KSame p (upd σ b X) (upd σ' b X) := fun k o ho hp => by
  by_cases e : k = b
  · subst e; rw [upd_same] at ho ⊢; exact ho
  · rw [upd_ne _ _ e] at ho ⊢; exact h k o ho hp
/-- What the origin answers a commit. -/
def Comm (σ0 σ : Hp) (go ms g m gl : Nat) (c : Cfg) (mo : Nat) (v : Value) (H : List (List Wr)) (seq : Int) (ws : List Wr) (u : Value) (σ' : Hp) : Prop :=
  ∃ A n cap, u = .slice A n cap ∧ KSame pOr σ σ' ∧ ((n = 1 ∧ OR σ0 σ' go ms g m gl c mo v H H seq) ∨ (n = 2 ∧ GoodWs ws ∧ ∃ v', OR σ0 σ' go ms g m gl c mo v' (H ++ [ws]) (H ++ [ws]) seq))
theorem pOr_im (o : Blk) (h : isIm o) : pOr o := .inl h
theorem pOr_log (o : Blk) (h : pLog o) : pOr o := h.elim (fun h => .inr (.inr (.inr (.inl h)))) fun h => .inr (.inr (.inr (.inr (.inl h))))
theorem pOr_sto (o : Blk) (h : pSto o) : pOr o := h.elim (fun h => .inr (.inl h)) fun h => .inr (.inr (.inl h))
theorem pOr_msg (o : Blk) (h : isRow 139 o) : pOr o := .inr (.inr (.inr (.inr (.inr h))))
set_option maxHeartbeats 8000000 in
set_option maxRecDepth 20000 in
theorem tail80 {σ0 σ : Hp} {go ms g m gl : Nat} {c : Cfg} {mo : Nat} {v : Value} {HS HL : List (List Wr)} {ws : List Wr} {q : Int} {s : Sl} {y : Nat} (h : OR σ0 σ go ms g m gl c mo v HS HL q) (hcn : c.nodes = 1) (hH : HL.length ≤ 1000) (seq : Int) (n : Nat) (e : Int) {w : Value} (hw : RoRows 3 Wr.cells σ0 w ws) (hn : ws.length ≤ 140737488355328)
    (hgood : e = 0 → GoodWs ws ∧ n = HL.length + 1) (hy : σ y = some (.cells ({ kind := 1, seq := seq, writes := w } : Msg).cells 139)) {R : Value → Hp → Prop}
    (s0 : s 0 = .pointer (some ⟨go, 0, none⟩)) (s3 : s 3 = .pointer (some ⟨y, 0, none⟩)) (s6 : s 6 = .func (.func 103) #[] #[.pointer (some ⟨y, 0, none⟩)]) (s7 : s 7 = .int .i64 n) (s8 : s 8 = .int .i64 e)
    (hk : ¬ e = 0 → ∀ A cap σ', KSame pOr σ σ' → OR σ0 σ' go ms g m gl c mo v HS HL seq → R (.slice A 1 cap) σ')
    (hk2 : e = 0 → ∀ A cap σ' v', KSame pOr σ σ' → OR σ0 σ' go ms g m gl c mo v' HS (HL ++ [ws]) seq → R (.slice A 2 cap) σ') :
    codeF Try.prog c80_sr47 (fin r80 R) s σ ⟨⟩ := by
  have HK := Hid.mk (And.intro hk hk2)
  have HOR := Hid.mk h
  have HG := Hid.mk (And.intro hgood (And.intro hw (And.intro hn hcn)))
  obtain ⟨A, cap, rfl⟩ : ∃ A c, w = .slice A ws.length c := by obtain ⟨A, c, rfl, _⟩ := hw; exact ⟨A, c, rfl⟩
  obtain ⟨l, hl, _⟩ := h.ses
  have hcell := h.cell
  have n1 : ¬ y = ms := fun e => by rw [e, hl] at hy; cases hy
  have n1' : ¬ ms = y := fun e => n1 e.symm
  have n2 : ¬ go = ms := fun e => by rw [e, hl] at hcell; cases hcell
  have n3 : ¬ go = y := fun e => by rw [e, hy] at hcell; exact absurd (Blk.cells.inj (Option.some.inj hcell)).2 (by decide)
  have r10 : rd σ go 10 = some (.map (some ms)) := by unfold rd; rw [hcell]; rfl
  have ngo : ∀ z, σ z = none → ¬ go = z := fun z hz e => by rw [← e, hcell] at hz; cases hz
  obtain ⟨τ, hτ⟩ := open_2 hy hl n1
  clear h hk hk2 hcell hl hy hgood hw hn hcn
  unfold c80_sr47 c80_br47 c80_tr47 r80
  rw [hτ]
  rw [hτ, rd_ne _ _ _ n3, rd_ne _ _ _ n2] at r10
  (repeat' (first | (simp +contextual -dsimp only [*, Wr.cells, Msg.cells, Option.getD_some, Option.isSome_some, ↓reduceIte, ↓evP, evQ, splice, Nat.reduceAdd, Nat.reduceEqDiff, Nat.reduceLeDiff, Nat.reduceMul, reduceCtorEq, Int.reduceLT, Int.reduceLE, Int.reduceGT, Int.reduceGE, Int.reduceEq, Int.reduceNeg]) | (refine condF_split (fun hc => ?_) (fun hc => ?_) <;> (try simp only [Bool.not_eq_true', Bool.not_eq_false', Bool.and_eq_true, Bool.or_eq_false_iff] at hc)) | (intro _; intros) | (refine And.intro ?_ ?_; focus (first | omega | ((repeat (first | exact Sub.refl _ | (refine Sub.drop ?_ ?_; focus (simp only [evN, *]; done)) | refine Sub.both ?_)); done) | (simp_all; done) | (simp_all; omega)))))
  rename_i z z1 z1' z2 z2' z0
  have gz : ¬ go = z := ngo z (by rw [hτ]; exact (by simp only [evN, *]; done))
  (repeat' (first | (simp +contextual -dsimp only [*, Wr.cells, Msg.cells, Option.getD_some, Option.isSome_some, ↓reduceIte, ↓evP, evQ, splice, Nat.reduceAdd, Nat.reduceEqDiff, Nat.reduceLeDiff, Nat.reduceMul, reduceCtorEq, Int.reduceLT, Int.reduceLE, Int.reduceGT, Int.reduceGE, Int.reduceEq, Int.reduceNeg]) | (refine condF_split (fun hc => ?_) (fun hc => ?_) <;> (try simp only [Bool.not_eq_true', Bool.not_eq_false', Bool.and_eq_true, Bool.or_eq_false_iff] at hc)) | (intro _; intros) | (refine And.intro ?_ ?_; focus (first | omega | ((repeat (first | exact Sub.refl _ | (refine Sub.drop ?_ ?_; focus (simp only [evN, *]; done)) | refine Sub.both ?_)); done) | (simp_all; done) | (simp_all; omega)))))
  refine vcallF_cs (cs := [.pointer (some ⟨y, 0, none⟩)]) (by kernel_rfl) ?_
  refine callF_v (ack103 (y := y) (ss := 0) (sq := seq) (by first | (simp only [rd_ne, rd_same, rd_row, not_false_eq_true, List.getElem?_cons_zero, List.getElem?_cons_succ, *]; done) | (simp only [rd_ne, rd_same, rd_row, not_false_eq_true, List.getElem?_cons_zero, List.getElem?_cons_succ, *]; rfl)) (by first | (simp only [rd_ne, rd_same, rd_row, not_false_eq_true, List.getElem?_cons_zero, List.getElem?_cons_succ, *]; done) | (simp only [rd_ne, rd_same, rd_row, not_false_eq_true, List.getElem?_cons_zero, List.getElem?_cons_succ, *]; rfl)) seq n e) ?_
  cases hd : decide (e = 0) with
  | false =>
    (repeat' (first | (simp +contextual -dsimp only [*, Wr.cells, Msg.cells, Option.getD_some, Option.isSome_some, ↓reduceIte, ↓evP, evQ, splice, Nat.reduceAdd, Nat.reduceEqDiff, Nat.reduceLeDiff, Nat.reduceMul, reduceCtorEq, Int.reduceLT, Int.reduceLE, Int.reduceGT, Int.reduceGE, Int.reduceEq, Int.reduceNeg]) | (refine condF_split (fun hc => ?_) (fun hc => ?_) <;> (try simp only [Bool.not_eq_true', Bool.not_eq_false', Bool.and_eq_true, Bool.or_eq_false_iff] at hc)) | (intro _; intros) | (refine And.intro ?_ ?_; focus (first | omega | ((repeat (first | exact Sub.refl _ | (refine Sub.drop ?_ ?_; focus (simp only [evN, *]; done)) | refine Sub.both ?_)); done) | (simp_all; done) | (simp_all; omega)))))
    rename_i b b1 b1' b2 b2' b3 b3' b0
    have hks : KSame isIm σ (upd (upd (upd (upd τ ms (.im (mput l 0 (.agg #[.int .i64 seq, .int .i64 n, .int .i64 e])))) y (.cells (Msg.cells { kind := 1, seq := seq, writes := .slice A ws.length cap }) 139)) z (.cells [.int .i64 seq, .int .i64 n, .int .i64 e] 188)) b (.row (Msg.cells { kind := 2, seq := seq, n := n, err := e }) 16 139)) := by
      rw [hτ]; exact ((keep_ks ((KSame.refl isIm τ).both (X := .im l) trivial _) y _).new (by simp only [evN, *]; done) _).new (by simp only [evN, *]; done) _
    exact endF_at (HK.out.1 (of_decide_eq_false hd) _ _ _ (hks.mono pOr_im) (HOR.out.sets hks (by first | (simp only [upd_at, *, ↓reduceIte]; done) | (simp only [upd_at, *, ↓reduceIte]; rfl)) (sesOk_put _ _ _ _)))
  | true =>
    have he : e = 0 := of_decide_eq_true hd
    subst he
    (repeat' (first | (simp +contextual -dsimp only [*, Wr.cells, Msg.cells, Option.getD_some, Option.isSome_some, ↓reduceIte, ↓evP, evQ, splice, Nat.reduceAdd, Nat.reduceEqDiff, Nat.reduceLeDiff, Nat.reduceMul, reduceCtorEq, Int.reduceLT, Int.reduceLE, Int.reduceGT, Int.reduceGE, Int.reduceEq, Int.reduceNeg]) | (refine condF_split (fun hc => ?_) (fun hc => ?_) <;> (try simp only [Bool.not_eq_true', Bool.not_eq_false', Bool.and_eq_true, Bool.or_eq_false_iff] at hc)) | (intro _; intros) | (refine And.intro ?_ ?_; focus (first | omega | ((repeat (first | exact Sub.refl _ | (refine Sub.drop ?_ ?_; focus (simp only [evN, *]; done)) | refine Sub.both ?_)); done) | (simp_all; done) | (simp_all; omega)))))
    rename_i b b1 b1' b2 b2' b3 b3' b0
    have hks : KSame isIm σ (upd (upd (upd (upd τ ms (.im (mput l 0 (.agg #[.int .i64 seq, .int .i64 n, .int .i64 0])))) y (.cells (Msg.cells { kind := 1, seq := seq, writes := .slice A ws.length cap }) 139)) z (.cells [.int .i64 seq, .int .i64 n, .int .i64 0] 188)) b (.row (Msg.cells { kind := 2, seq := seq, n := n }) 16 139)) := by
      rw [hτ]; exact ((keep_ks ((KSame.refl isIm τ).both (X := .im l) trivial _) y _).new (by simp only [evN, *]; done) _).new (by simp only [evN, *]; done) _
    have hOR2 := HOR.out.sets hks (by first | (simp only [upd_at, *, ↓reduceIte]; done) | (simp only [upd_at, *, ↓reduceIte]; rfl)) (sesOk_put _ _ _ _)
    have hx : rd (upd (upd (upd (upd τ ms (.im (mput l 0 (.agg #[.int .i64 seq, .int .i64 n, .int .i64 0])))) y (.cells (Msg.cells { kind := 1, seq := seq, writes := .slice A ws.length cap }) 139)) z (.cells [.int .i64 seq, .int .i64 n, .int .i64 0] 188)) b (.row (Msg.cells { kind := 2, seq := seq, n := n }) 16 139)) y 14 = some (.slice A ws.length cap) := (by first | (simp only [rd_ne, rd_same, rd_row, not_false_eq_true, List.getElem?_cons_zero, List.getElem?_cons_succ, *]; done) | (simp only [rd_ne, rd_same, rd_row, not_false_eq_true, List.getElem?_cons_zero, List.getElem?_cons_succ, *]; rfl))
    unfold Msg.cells at hks hOR2 hx
    generalize hσ3 : upd (upd (upd (upd τ ms _) y _) z _) b _ = σ3 at hks hOR2 hx ⊢
    have hb3 : σ3 b = some (.row (Msg.cells { kind := 2, seq := seq, n := n }) 16 139) := by rw [← hσ3, upd_same]; rfl
    clear hσ3
    have hR2 : RowsAt 139 16 Msg.cells σ3 (.slice (some ⟨b, 0, none⟩) 1 1) [{ kind := 2, seq := seq, n := n }] := .inr ⟨b, 1, rfl, Nat.le_refl _, by rw [hb3]; rfl⟩
    obtain ⟨hG, hnn⟩ := HG.out.1 rfl
    have HG2 := Hid.mk hG
    have hfew := hG.few
    have HX := Hid.mk (And.intro hks (And.intro hOR2 hR2))
    clear hks hR2 hb3 hG
    unfold c80_s0
    simp +contextual -dsimp only [*, Wr.cells, Msg.cells, Option.getD_some, Option.isSome_some, ↓reduceIte, ↓evP, evQ, splice, Nat.reduceAdd, Nat.reduceEqDiff, Nat.reduceLeDiff, Nat.reduceMul, reduceCtorEq, Int.reduceLT, Int.reduceLE, Int.reduceGT, Int.reduceGE, Int.reduceEq, Int.reduceNeg]
    refine keysLoop (σ0 := σ0) (v := .slice A ws.length cap) (ws := ws) (a0 := .pointer (some ⟨go, 0, none⟩)) (a7 := .int .i64 n) (a10 := .slice (some ⟨b, 0, none⟩) 1 1) (by first | rfl | (simp only [↓putO_get, ↓putO_no, init_zero, init_succ, Nat.reduceEqDiff, ↓reduceIte, *]; done) | (simp only [↓putO_get, ↓putO_no, init_zero, init_succ, Nat.reduceEqDiff, ↓reduceIte, *]; rfl)) hx HG.out.2.1 hOR2.sub (by omega) (by first | rfl | (simp only [↓putO_get, ↓putO_no, init_zero, init_succ, Nat.reduceEqDiff, ↓reduceIte, *]; done) | (simp only [↓putO_get, ↓putO_no, init_zero, init_succ, Nat.reduceEqDiff, ↓reduceIte, *]; rfl)) (by first | rfl | (simp only [↓putO_get, ↓putO_no, init_zero, init_succ, Nat.reduceEqDiff, ↓reduceIte, *]; done) | (simp only [↓putO_get, ↓putO_no, init_zero, init_succ, Nat.reduceEqDiff, ↓reduceIte, *]; rfl)) (by first | rfl | (simp only [↓putO_get, ↓putO_no, init_zero, init_succ, Nat.reduceEqDiff, ↓reduceIte, *]; done) | (simp only [↓putO_get, ↓putO_no, init_zero, init_succ, Nat.reduceEqDiff, ↓reduceIte, *]; rfl)) (by first | rfl | (simp only [↓putO_get, ↓putO_no, init_zero, init_succ, Nat.reduceEqDiff, ↓reduceIte, *]; done) | (simp only [↓putO_get, ↓putO_no, init_zero, init_succ, Nat.reduceEqDiff, ↓reduceIte, *]; rfl)) fun s' σ4 v4 hr4 hm4 t0 t7 t10 t11 => ?_
    clear hOR2 hx
    have hOR4 := HX.out.2.1.fresh (KSame.made hm4.1)
    have hR4 := HX.out.2.2.ks (KSame.made (p := pNo) hm4.1) (fun _ _ x => x)
    have r9 : rd σ4 go 9 = some (.pointer (some ⟨gl, 0, none⟩)) := by unfold rd; rw [hOR4.cell]; rfl
    have q4 := append10 hOR4.log (hr4.ro sC_len) (by unfold keysOf; rw [List.length_map]; omega) (by rw [List.length_map]; omega)
    have HY := Hid.mk (And.intro hOR4 (And.intro hR4 (And.intro hr4 hm4)))
    clear hOR4 hR4 hr4 hm4
    simp +contextual -dsimp only [*, Wr.cells, Msg.cells, Option.getD_some, Option.isSome_some, ↓reduceIte, ↓evP, evQ, splice, Nat.reduceAdd, Nat.reduceEqDiff, Nat.reduceLeDiff, Nat.reduceMul, reduceCtorEq, Int.reduceLT, Int.reduceLE, Int.reduceGT, Int.reduceGE, Int.reduceEq, Int.reduceNeg]
    unfold c80_t0
    (repeat' (first | (simp +contextual -dsimp only [*, Wr.cells, Msg.cells, Option.getD_some, Option.isSome_some, ↓reduceIte, ↓evP, evQ, splice, Nat.reduceAdd, Nat.reduceEqDiff, Nat.reduceLeDiff, Nat.reduceMul, reduceCtorEq, Int.reduceLT, Int.reduceLE, Int.reduceGT, Int.reduceGE, Int.reduceEq, Int.reduceNeg]) | (refine condF_split (fun hc => ?_) (fun hc => ?_) <;> (try simp only [Bool.not_eq_true', Bool.not_eq_false', Bool.and_eq_true, Bool.or_eq_false_iff] at hc)) | (intro _; intros) | (refine And.intro ?_ ?_; focus (first | omega | ((repeat (first | exact Sub.refl _ | (refine Sub.drop ?_ ?_; focus (simp only [evN, *]; done)) | refine Sub.both ?_)); done) | (simp_all; done) | (simp_all; omega)))))
    refine callF_of q4 ?_
    rintro u σ5 (⟨e, _, _, _, hbad⟩ | ⟨v5, rfl, hLg, hst, _⟩)
    · exact absurd HG2.out.keys hbad
    have hs5 := hst.ks HY.out.1.log
    have hOR5 := HY.out.1.append (ws := ws) hs5 hLg
    have hR5 := HY.out.2.1.ks hs5 (fun cs r x => x.elim (fun x => x) fun x => absurd (show (139 : Nat) = 36 from x) (by decide))
    have HZ := Hid.mk (And.intro hs5 (And.intro hOR5 hR5))
    clear q4 hLg hst hs5
    have hnl : ((HL ++ [ws]).map keysOf).length = n := by rw [List.length_map, List.length_append, hnn]; rfl
    (repeat' (first | (simp +contextual -dsimp only [*, Wr.cells, Msg.cells, Option.getD_some, Option.isSome_some, ↓reduceIte, ↓evP, evQ, splice, Nat.reduceAdd, Nat.reduceEqDiff, Nat.reduceLeDiff, Nat.reduceMul, reduceCtorEq, Int.reduceLT, Int.reduceLE, Int.reduceGT, Int.reduceGE, Int.reduceEq, Int.reduceNeg]) | (refine condF_split (fun hc => ?_) (fun hc => ?_) <;> (try simp only [Bool.not_eq_true', Bool.not_eq_false', Bool.and_eq_true, Bool.or_eq_false_iff] at hc)) | (intro _; intros) | (refine And.intro ?_ ?_; focus (first | omega | ((repeat (first | exact Sub.refl _ | (refine Sub.drop ?_ ?_; focus (simp only [evN, *]; done)) | refine Sub.both ?_)); done) | (simp_all; done) | (simp_all; omega)))))
    unfold c80_s2
    simp +contextual -dsimp only [*, Wr.cells, Msg.cells, Option.getD_some, Option.isSome_some, ↓reduceIte, ↓evP, evQ, splice, Nat.reduceAdd, Nat.reduceEqDiff, Nat.reduceLeDiff, Nat.reduceMul, reduceCtorEq, Int.reduceLT, Int.reduceLE, Int.reduceGT, Int.reduceGE, Int.reduceEq, Int.reduceNeg]
    refine recLoop hOR5.cell HG.out.2.2.2 hOR5.log (by rw [hnl]; omega) (by rw [hnl]; omega) hR5 (by first | rfl | (simp only [↓putO_get, ↓putO_no, init_zero, init_succ, Nat.reduceEqDiff, ↓reduceIte, *]; done) | (simp only [↓putO_get, ↓putO_no, init_zero, init_succ, Nat.reduceEqDiff, ↓reduceIte, *]; rfl)) (by rw [hnl]; exact (by first | rfl | (simp only [↓putO_get, ↓putO_no, init_zero, init_succ, Nat.reduceEqDiff, ↓reduceIte, *]; done) | (simp only [↓putO_get, ↓putO_no, init_zero, init_succ, Nat.reduceEqDiff, ↓reduceIte, *]; rfl))) (by first | rfl | (simp only [↓putO_get, ↓putO_no, init_zero, init_succ, Nat.reduceEqDiff, ↓reduceIte, *]; done) | (simp only [↓putO_get, ↓putO_no, init_zero, init_succ, Nat.reduceEqDiff, ↓reduceIte, *]; rfl)) fun s'' σ6 w6 m1 hw6 hs6 u10 => ?_
    clear hOR5 hR5
    obtain ⟨A6, c6, rfl⟩ := hw6.slice
    have HW := Hid.mk (And.intro hw6 hs6)
    clear hw6 hs6
    simp +contextual -dsimp only [*, Wr.cells, Msg.cells, Option.getD_some, Option.isSome_some, ↓reduceIte, ↓evP, evQ, splice, Nat.reduceAdd, Nat.reduceEqDiff, Nat.reduceLeDiff, Nat.reduceMul, reduceCtorEq, Int.reduceLT, Int.reduceLE, Int.reduceGT, Int.reduceGE, Int.reduceEq, Int.reduceNeg]
    unfold c80_t2
    (repeat' (first | (simp +contextual -dsimp only [*, Wr.cells, Msg.cells, Option.getD_some, Option.isSome_some, ↓reduceIte, ↓evP, evQ, splice, Nat.reduceAdd, Nat.reduceEqDiff, Nat.reduceLeDiff, Nat.reduceMul, reduceCtorEq, Int.reduceLT, Int.reduceLE, Int.reduceGT, Int.reduceGE, Int.reduceEq, Int.reduceNeg]) | (refine condF_split (fun hc => ?_) (fun hc => ?_) <;> (try simp only [Bool.not_eq_true', Bool.not_eq_false', Bool.and_eq_true, Bool.or_eq_false_iff] at hc)) | (intro _; intros) | (refine And.intro ?_ ?_; focus (first | omega | ((repeat (first | exact Sub.refl _ | (refine Sub.drop ?_ ?_; focus (simp only [evN, *]; done)) | refine Sub.both ?_)); done) | (simp_all; done) | (simp_all; omega)))))
    exact endF_at (HK.out.2 rfl _ _ _ v5 ((((HX.out.1.mono pOr_im).trans (KSame.made HY.out.2.2.2.1)).trans (HZ.out.1.mono pOr_log)).trans (HW.out.2.mono pOr_msg)) (HZ.out.2.1.msgs HW.out.2))
theorem run_okM {mo : Nat} (hm : 1 ≤ mo ∧ mo ≤ 64) {H : List (List Wr)} (h : H.length < 1000000) : StOk (St.run mo H) := ⟨hm, fun k => cut_len _ _, by show H.length < _; omega⟩
set_option maxHeartbeats 8000000 in
set_option maxRecDepth 20000 in
theorem commit80 {σ0 σ : Hp} {go ms g m gl : Nat} {c : Cfg} {mo : Nat} {v : Value} {H : List (List Wr)} {q : Int} (h : OR σ0 σ go ms g m gl c mo v H H q) (hcn : c.nodes = 1) (hmo : 1 ≤ mo ∧ mo ≤ 64) (hH : H.length ≤ 1000) (seq : Int) (hseq : q < seq) {w : Value} {ws : List Wr} (hw : RoRows 3 Wr.cells σ0 w ws) (hn : ws.length ≤ 140737488355328) :
    ACalls Try.prog 80 #[.pointer (some ⟨go, 0, none⟩), .agg ({ kind := 1, seq := seq, writes := w } : Msg).cells.toArray] σ (Comm σ0 σ go ms g m gl c mo v H seq ws) := by
  have HOR := Hid.mk h
  obtain ⟨l, hl, a, n, e, hg, hle⟩ := h.ses
  have hcell := h.cell
  have hgm : ¬ go = ms := fun e => by rw [← e, hcell] at hl; cases hl
  have hmg : ¬ ms = go := fun e => hgm e.symm
  have d1 : decide (seq < a) = false := by simp; omega
  have d2 : decide (seq = a) = false := by simp; omega
  obtain ⟨A, cap, rfl⟩ : ∃ A c, w = .slice A ws.length c := by obtain ⟨A, c, rfl, _⟩ := hw; exact ⟨A, c, rfl⟩
  have HW := Hid.mk (And.intro hw (And.intro hn hcn))
  clear h hw hn hle hcn
  obtain ⟨τ, hτ⟩ := open_2 hcell hl hgm
  clear hcell hl
  unfold zReq at hg
  unfold orC at hτ
  rw [hτ]
  (refine acalls_F ok80 (by simp) ?_; unfold c80 r80)
  (repeat' (first | (simp +contextual -dsimp only [*, Wr.cells, Msg.cells, orC, Option.getD_some, Option.isSome_some, ↓reduceIte, ↓evP, evQ, splice, Nat.reduceAdd, Nat.reduceEqDiff, Nat.reduceLeDiff, Nat.reduceMul, reduceCtorEq, Int.reduceLT, Int.reduceLE, Int.reduceGT, Int.reduceGE, Int.reduceEq, Int.reduceNeg]) | (refine condF_split (fun hc => ?_) (fun hc => ?_) <;> (try simp only [Bool.not_eq_true', Bool.not_eq_false', Bool.and_eq_true, Bool.or_eq_false_iff] at hc)) | (intro _; intros) | (refine And.intro ?_ ?_; focus (first | omega | ((repeat (first | exact Sub.refl _ | (refine Sub.drop ?_ ?_; focus (simp only [evN, *]; done)) | refine Sub.both ?_)); done) | (simp_all; done) | (simp_all; omega)))))
  rename_i y y1 y1' y2 y2' y0 z z1 z1' z2 z2' z3 z3' z0
  rw [← hτ]
  have hy : σ y = none := by rw [hτ]; exact (by simp only [evN, *]; done)
  have hz : upd σ y (.cells (Msg.cells { kind := 1, seq := seq, writes := .slice A ws.length cap }) 139) z = none := by rw [hτ]; exact (by simp only [evN, *]; done)
  have hs := ((KSame.refl pNo σ).new hy (.cells (Msg.cells { kind := 1, seq := seq, writes := .slice A ws.length cap }) 139)).trans ((KSame.refl pNo _).new hz (.cells [.int .i64 a, .int .i64 n, .int .i64 e] 188))
  have hOR := HOR.out.fresh hs
  have hyc : upd (upd σ y (.cells (Msg.cells { kind := 1, seq := seq, writes := .slice A ws.length cap }) 139)) z (.cells [.int .i64 a, .int .i64 n, .int .i64 e] 188) y = some (.cells (Msg.cells { kind := 1, seq := seq, writes := .slice A ws.length cap }) 139) := by rw [upd_ne _ _ z1', upd_same]
  unfold Msg.cells at hs hOR hyc
  generalize hσ1 : upd (upd σ y _) z _ = σ1 at hs hOR hyc ⊢
  have HS := Hid.mk hs
  clear hσ1 hτ hy hz hs y1 y1' y2 y2' z1 z1' z2 z2' z3 z3' y0 z0
  refine callF_of (commit9 hOR.store (run_okM hmo (by omega)) HW.out.1 hOR.sub (ro_not hOR.ro hOR.sub hOR.store.cell (fun x e => by cases e)) (by obtain ⟨l, hm, _⟩ := hOR.store.map; exact ro_not hOR.ro hOR.sub hm (fun x e => by cases e)) HW.out.2.1) ?_
  rintro u τ2 (⟨hne, rfl, rfl⟩ | ⟨h0, rfl, hS, hs⟩)
  · have HY := Hid.mk (And.intro hOR (And.intro hyc hne))
    clear hOR hyc hne
    (repeat' (first | (simp +contextual -dsimp only [*, Wr.cells, Msg.cells, orC, Option.getD_some, Option.isSome_some, ↓reduceIte, ↓evP, evQ, splice, Nat.reduceAdd, Nat.reduceEqDiff, Nat.reduceLeDiff, Nat.reduceMul, reduceCtorEq, Int.reduceLT, Int.reduceLE, Int.reduceGT, Int.reduceGE, Int.reduceEq, Int.reduceNeg]) | (refine condF_split (fun hc => ?_) (fun hc => ?_) <;> (try simp only [Bool.not_eq_true', Bool.not_eq_false', Bool.and_eq_true, Bool.or_eq_false_iff] at hc)) | (intro _; intros) | (refine And.intro ?_ ?_; focus (first | omega | ((repeat (first | exact Sub.refl _ | (refine Sub.drop ?_ ?_; focus (simp only [evN, *]; done)) | refine Sub.both ?_)); done) | (simp_all; done) | (simp_all; omega)))))
    refine tail80 (n := 0) (e := checkV ws) HY.out.1 HW.out.2.2 hH seq HW.out.1 HW.out.2.1 (fun e => absurd e HY.out.2.2) HY.out.2.1 (by first | rfl | (simp only [↓putO_get, ↓putO_no, init_zero, init_succ, Nat.reduceEqDiff, ↓reduceIte, *]; done) | (simp only [↓putO_get, ↓putO_no, init_zero, init_succ, Nat.reduceEqDiff, ↓reduceIte, *]; rfl)) (by first | rfl | (simp only [↓putO_get, ↓putO_no, init_zero, init_succ, Nat.reduceEqDiff, ↓reduceIte, *]; done) | (simp only [↓putO_get, ↓putO_no, init_zero, init_succ, Nat.reduceEqDiff, ↓reduceIte, *]; rfl)) (by first | rfl | (simp only [↓putO_get, ↓putO_no, init_zero, init_succ, Nat.reduceEqDiff, ↓reduceIte, *]; done) | (simp only [↓putO_get, ↓putO_no, init_zero, init_succ, Nat.reduceEqDiff, ↓reduceIte, *]; rfl)) (by first | rfl | (simp only [↓putO_get, ↓putO_no, init_zero, init_succ, Nat.reduceEqDiff, ↓reduceIte, *]; done) | (simp only [↓putO_get, ↓putO_no, init_zero, init_succ, Nat.reduceEqDiff, ↓reduceIte, *]; rfl)) (by first | rfl | (simp only [↓putO_get, ↓putO_no, init_zero, init_succ, Nat.reduceEqDiff, ↓reduceIte, *]; done) | (simp only [↓putO_get, ↓putO_no, init_zero, init_succ, Nat.reduceEqDiff, ↓reduceIte, *]; rfl)) (fun _ A cap σ' hs' ho' => ⟨A, 1, cap, rfl, (HS.out.mono (fun _ x => x.elim)).trans hs', .inl ⟨rfl, ho'⟩⟩) (fun e => absurd e HY.out.2.2)
  · have hg := check_good h0
    have hks := sto_ks hOR.store hs
    have hOR2 := hOR.commit hks hS hg
    have hyc2 := hks _ _ hyc (fun x => x.elim (fun x => absurd (show (139 : Nat) = 100 from x) (by decide)) fun x => x)
    have HY := Hid.mk (And.intro hOR2 (And.intro hyc2 (And.intro hg hks)))
    clear hOR hyc hS hs hks hOR2 hyc2 hg h0
    rw [show (St.run mo H).last + 1 = H.length + 1 from rfl]
    (repeat' (first | (simp +contextual -dsimp only [*, Wr.cells, Msg.cells, orC, Option.getD_some, Option.isSome_some, ↓reduceIte, ↓evP, evQ, splice, Nat.reduceAdd, Nat.reduceEqDiff, Nat.reduceLeDiff, Nat.reduceMul, reduceCtorEq, Int.reduceLT, Int.reduceLE, Int.reduceGT, Int.reduceGE, Int.reduceEq, Int.reduceNeg]) | (refine condF_split (fun hc => ?_) (fun hc => ?_) <;> (try simp only [Bool.not_eq_true', Bool.not_eq_false', Bool.and_eq_true, Bool.or_eq_false_iff] at hc)) | (intro _; intros) | (refine And.intro ?_ ?_; focus (first | omega | ((repeat (first | exact Sub.refl _ | (refine Sub.drop ?_ ?_; focus (simp only [evN, *]; done)) | refine Sub.both ?_)); done) | (simp_all; done) | (simp_all; omega)))))
    refine tail80 (n := H.length + 1) (e := 0) HY.out.1 HW.out.2.2 hH seq HW.out.1 HW.out.2.1 (fun e => ⟨HY.out.2.2.1, rfl⟩) HY.out.2.1 (by first | rfl | (simp only [↓putO_get, ↓putO_no, init_zero, init_succ, Nat.reduceEqDiff, ↓reduceIte, *]; done) | (simp only [↓putO_get, ↓putO_no, init_zero, init_succ, Nat.reduceEqDiff, ↓reduceIte, *]; rfl)) (by first | rfl | (simp only [↓putO_get, ↓putO_no, init_zero, init_succ, Nat.reduceEqDiff, ↓reduceIte, *]; done) | (simp only [↓putO_get, ↓putO_no, init_zero, init_succ, Nat.reduceEqDiff, ↓reduceIte, *]; rfl)) (by first | rfl | (simp only [↓putO_get, ↓putO_no, init_zero, init_succ, Nat.reduceEqDiff, ↓reduceIte, *]; done) | (simp only [↓putO_get, ↓putO_no, init_zero, init_succ, Nat.reduceEqDiff, ↓reduceIte, *]; rfl)) (by first | rfl | (simp only [↓putO_get, ↓putO_no, init_zero, init_succ, Nat.reduceEqDiff, ↓reduceIte, *]; done) | (simp only [↓putO_get, ↓putO_no, init_zero, init_succ, Nat.reduceEqDiff, ↓reduceIte, *]; rfl)) (by first | rfl | (simp only [↓putO_get, ↓putO_no, init_zero, init_succ, Nat.reduceEqDiff, ↓reduceIte, *]; done) | (simp only [↓putO_get, ↓putO_no, init_zero, init_succ, Nat.reduceEqDiff, ↓reduceIte, *]; rfl)) (fun e => absurd rfl e) (fun _ A cap σ' v' hs' ho' => ⟨A, 2, cap, rfl, ((HS.out.mono (fun _ x => x.elim)).trans (HY.out.2.2.2.mono pOr_sto)).trans hs', .inr ⟨rfl, HY.out.2.2.1, v', ho'⟩⟩)
theorem rowOk_runM {mo : Nat} (hm : 1 ≤ mo ∧ mo ≤ 64) (H : List (List Wr)) (k : ByteArray) : RowOk ((St.run mo H).row k) := by
  show RowOk (cut mo (vers H k))
  have hs : (vers H k).Pairwise (fun a b => a.n < b.n) := versF_sorted k H 1
  have hl := cut_len mo (vers H k)
  unfold cut at hl ⊢
  by_cases e : mo < (vers H k).length
  · rw [if_pos e] at hl ⊢
    refine ⟨hs.sublist (List.drop_sublist _ _), fun _ h => ?_, by omega⟩
    have : ((vers H k).drop ((vers H k).length - mo)).length = 0 := by
      have h : (vers H k).drop ((vers H k).length - mo) = [] := h
      rw [h]; rfl
    rw [List.length_drop] at this; omega
  · rw [if_neg e] at hl ⊢
    exact ⟨hs, (fun h => by cases h), by omega⟩
theorem OR.mono {σ0 σ : Hp} {go ms g m gl : Nat} {c : Cfg} {mo : Nat} {v : Value} {HS HL : List (List Wr)} {q q' : Int} (h : OR σ0 σ go ms g m gl c mo v HS HL q) (hq : q ≤ q') : OR σ0 σ go ms g m gl c mo v HS HL q' := by
  obtain ⟨l, h1, a, n, e, h2, h3⟩ := h.ses
  exact ⟨h.ro, h.sub, h.cell, ⟨l, h1, a, n, e, h2, by omega⟩, h.store, h.log⟩
/-- What the origin answers the message of a commit. -/
def HCom (σ0 σ : Hp) (go ms g m gl : Nat) (c : Cfg) (mo : Nat) (v : Value) (H : List (List Wr)) (seq : Int) (ws : List Wr) (u : Value) (σ' : Hp) : Prop :=
  ∃ A n cap, u = .slice A n cap ∧ KSame pOr σ σ' ∧ ((n ≤ 1 ∧ OR σ0 σ' go ms g m gl c mo v H H seq) ∨ (n = 2 ∧ GoodWs ws ∧ ∃ v', OR σ0 σ' go ms g m gl c mo v' (H ++ [ws]) (H ++ [ws]) seq))
set_option maxRecDepth 20000 in
set_option maxHeartbeats 1000000 in
theorem handleC {σ0 σ : Hp} {go ms g m gl : Nat} {c : Cfg} {mo : Nat} {v : Value} {H : List (List Wr)} {q : Int} (h : OR σ0 σ go ms g m gl c mo v H H q) (hcn : c.nodes = 1) (hmo : 1 ≤ mo ∧ mo ≤ 64) (hH : H.length ≤ 1000) (seq : Int) (hseq : q < seq) (h1 : 1 ≤ seq) (h2 : seq ≤ 2147483647) {w : Value} {ws : List Wr} (hw : RoRows 3 Wr.cells σ0 w ws) (hn : ws.length ≤ 140737488355328) :
    ACalls Try.prog 57 #[.pointer (some ⟨go, 0, none⟩), .agg ({ kind := 1, seq := seq, writes := w } : Msg).cells.toArray] σ (HCom σ0 σ go ms g m gl c mo v H seq ws) := by
  have HOR := Hid.mk h
  have q1 : ∀ b o, σ b = none → ACalls Try.prog 79 #[.agg ({ kind := 1, seq := seq, writes := w } : Msg).cells.toArray] (upd σ b o) fun u σ' => u = .int .i64 (cond (thgC ws) 0 1) ∧ σ' = upd σ b o := fun b o hb => checkC seq h1 h2 hw hn (h.fresh ((KSame.refl _ _).new hb o)).sub
  have q2 : ∀ b o, σ b = none → ACalls Try.prog 80 #[.pointer (some ⟨go, 0, none⟩), .agg ({ kind := 1, seq := seq, writes := w } : Msg).cells.toArray] (upd σ b o) (Comm σ0 (upd σ b o) go ms g m gl c mo v H seq ws) := fun b o hb => commit80 (h.fresh ((KSame.refl _ _).new hb o)) hcn hmo hH seq hseq hw hn
  obtain ⟨A, cap, rfl⟩ : ∃ A c, w = .slice A ws.length c := by obtain ⟨A, c, rfl, _⟩ := hw; exact ⟨A, c, rfl⟩
  clear h hw hn
  cases ht : thgC ws with
  | false =>
    simp only [ht, cond_false] at q1
    (refine acalls_F ok57 (by simp) ?_; unfold c57 r57)
    (repeat' (first | (simp +contextual -dsimp only [*, Wr.cells, Msg.cells, ↓reduceIte, ↓evP, evQ, splice, Nat.reduceAdd, Nat.reduceEqDiff, Nat.reduceLeDiff, Nat.reduceMul, reduceCtorEq, Int.reduceLT, Int.reduceLE, Int.reduceGT, Int.reduceGE, Int.reduceEq, Int.reduceNeg]) | (refine condF_split (fun hc => ?_) (fun hc => ?_) <;> (try simp only [Bool.not_eq_true', Bool.not_eq_false', Bool.and_eq_true, Bool.or_eq_false_iff] at hc)) | refine callF_v (q1 _ _ (by assumption)) ?_ | refine ccallF_of (q1 _ _ (by assumption)) ?_ | refine gcallF_of (q1 _ _ (by assumption)) ?_ | (intro _; intros) | (refine And.intro ?_ ?_; focus (first | omega | ((repeat (first | exact Sub.refl _ | (refine Sub.drop ?_ ?_; focus (simp only [evN, *]; done)) | refine Sub.both ?_)); done) | (simp_all; done) | (simp_all; omega)))))
    exact endF_sub (by (repeat (first | exact Sub.refl _ | (refine Sub.drop ?_ ?_; focus (simp only [evN, *]; done)) | refine Sub.both ?_)); done) ⟨_, 0, _, rfl, KSame.refl _ _, .inl ⟨by omega, HOR.out.mono (by omega)⟩⟩
  | true =>
    simp only [ht, cond_true] at q1
    (refine acalls_F ok57 (by simp) ?_; unfold c57 r57)
    (repeat' (first | (simp +contextual -dsimp only [*, Wr.cells, Msg.cells, ↓reduceIte, ↓evP, evQ, splice, Nat.reduceAdd, Nat.reduceEqDiff, Nat.reduceLeDiff, Nat.reduceMul, reduceCtorEq, Int.reduceLT, Int.reduceLE, Int.reduceGT, Int.reduceGE, Int.reduceEq, Int.reduceNeg]) | (refine condF_split (fun hc => ?_) (fun hc => ?_) <;> (try simp only [Bool.not_eq_true', Bool.not_eq_false', Bool.and_eq_true, Bool.or_eq_false_iff] at hc)) | refine callF_v (q1 _ _ (by assumption)) ?_ | refine ccallF_of (q1 _ _ (by assumption)) ?_ | refine gcallF_of (q1 _ _ (by assumption)) ?_ | (intro _; intros) | (refine And.intro ?_ ?_; focus (first | omega | ((repeat (first | exact Sub.refl _ | (refine Sub.drop ?_ ?_; focus (simp only [evN, *]; done)) | refine Sub.both ?_)); done) | (simp_all; done) | (simp_all; omega)))))
    rename_i b hb
    refine callF_of (q2 _ _ hb) ?_
    rintro u σ' ⟨A', n', cap', rfl, hs, hh⟩
    have HR := Hid.mk (And.intro hs hh)
    clear hs hh q1 q2
    (repeat' (first | (simp +contextual -dsimp only [*, Wr.cells, Msg.cells, ↓reduceIte, ↓evP, evQ, splice, Nat.reduceAdd, Nat.reduceEqDiff, Nat.reduceLeDiff, Nat.reduceMul, reduceCtorEq, Int.reduceLT, Int.reduceLE, Int.reduceGT, Int.reduceGE, Int.reduceEq, Int.reduceNeg]) | (refine condF_split (fun hc => ?_) (fun hc => ?_) <;> (try simp only [Bool.not_eq_true', Bool.not_eq_false', Bool.and_eq_true, Bool.or_eq_false_iff] at hc)) | (intro _; intros) | (refine And.intro ?_ ?_; focus (first | omega | ((repeat (first | exact Sub.refl _ | (refine Sub.drop ?_ ?_; focus (simp only [evN, *]; done)) | refine Sub.both ?_)); done) | (simp_all; done) | (simp_all; omega)))))
    refine endF_at ⟨_, n', _, rfl, ((KSame.refl _ _).new hb _).trans HR.out.1, ?_⟩
    rcases HR.out.2 with ⟨rfl, ho⟩ | ho
    · exact .inl ⟨by omega, ho⟩
    · exact .inr ho
set_option maxRecDepth 20000 in
theorem handleR {σ0 σ : Hp} {go ms g m gl : Nat} {c : Cfg} {mo : Nat} {v : Value} {H : List (List Wr)} {q : Int} (h : OR σ0 σ go ms g m gl c mo v H H q) (hmo : 1 ≤ mo ∧ mo ≤ 64) (tx seq : Int) (h1 : 1 ≤ seq) (h2 : seq ≤ 2147483647) (h3 : 0 ≤ tx) (h4 : tx ≤ 255) (k : ByteArray) (lo hi : Int) (hsz : k.size ≤ 140737488351232) (hk : goodF k false ⟨#[]⟩ 0 1 = true) (hp : goodF ⟨#[107]⟩ false ⟨#[]⟩ lo hi = true) (hlo : lo ≤ (H.length : Int)) :
    ACalls Try.prog 57 #[.pointer (some ⟨go, 0, none⟩), .agg ({ kind := 5, tx := tx, seq := seq, key := k, lo := lo, hi := hi } : Msg).cells.toArray] σ fun u σ' => ∃ l, RowsAt 139 16 Msg.cells σ' u (toldM (St.run mo H) tx seq k hi :: l) ∧ Made σ σ' u := by
  have q1 := checkR tx seq h1 h2 h3 h4 k lo hi hk hp
  have q2 : ∀ b o, σ b = none → ACalls Try.prog 81 #[.pointer (some ⟨go, 0, none⟩), .agg ({ kind := 5, tx := tx, seq := seq, key := k, lo := lo, hi := hi } : Msg).cells.toArray] (upd σ b o) fun u σ' => ∃ l, RowsAt 139 16 Msg.cells σ' u (toldM (St.run mo H) tx seq k hi :: l) ∧ Made (upd σ b o) σ' u := fun b o hb => by
    have ho := h.fresh ((KSame.refl pNo σ).new hb o)
    exact read81 ho.cell ho.store tx seq k lo hi hsz hlo (rowOk_runM hmo H k)
  clear h hk hp
  (refine acalls_F ok57 (by simp) ?_; unfold c57 r57)
  (repeat' (first | (simp +contextual -dsimp only [*, Wr.cells, Msg.cells, ↓reduceIte, ↓evP, evQ, splice, Nat.reduceAdd, Nat.reduceEqDiff, Nat.reduceLeDiff, Nat.reduceMul, reduceCtorEq, Int.reduceLT, Int.reduceLE, Int.reduceGT, Int.reduceGE, Int.reduceEq, Int.reduceNeg]) | (refine condF_split (fun hc => ?_) (fun hc => ?_) <;> (try simp only [Bool.not_eq_true', Bool.not_eq_false', Bool.and_eq_true, Bool.or_eq_false_iff] at hc)) | refine callF_v (q1 _) ?_ | refine ccallF_of (q1 _) ?_ | refine gcallF_of (q1 _) ?_ | (intro _; intros) | (refine And.intro ?_ ?_; focus (first | omega | ((repeat (first | exact Sub.refl _ | (refine Sub.drop ?_ ?_; focus (simp only [evN, *]; done)) | refine Sub.both ?_)); done) | (simp_all; done) | (simp_all; omega)))))
  rename_i b hb
  refine callF_of (q2 _ _ hb) ?_
  rintro u σ' ⟨l, hR, hM⟩
  obtain ⟨A', n', rfl⟩ := hR.slice
  have HR := Hid.mk (And.intro hR hM)
  clear hR hM q1 q2
  (repeat' (first | (simp +contextual -dsimp only [*, Wr.cells, Msg.cells, ↓reduceIte, ↓evP, evQ, splice, Nat.reduceAdd, Nat.reduceEqDiff, Nat.reduceLeDiff, Nat.reduceMul, reduceCtorEq, Int.reduceLT, Int.reduceLE, Int.reduceGT, Int.reduceGE, Int.reduceEq, Int.reduceNeg]) | (refine condF_split (fun hc => ?_) (fun hc => ?_) <;> (try simp only [Bool.not_eq_true', Bool.not_eq_false', Bool.and_eq_true, Bool.or_eq_false_iff] at hc)) | (intro _; intros) | (refine And.intro ?_ ?_; focus (first | omega | ((repeat (first | exact Sub.refl _ | (refine Sub.drop ?_ ?_; focus (simp only [evN, *]; done)) | refine Sub.both ?_)); done) | (simp_all; done) | (simp_all; omega)))))
  exact endF_at ⟨l, HR.out.1, made_trans ((Made.nil σ).beside hb _) HR.out.2⟩
/-- A list of commits over a heap. -/
def PastAt (σ0 σ : Hp) (pv : Value) (H : List (List Wr)) : Prop := ∃ vs, RowsAt 35 1 vC σ pv vs ∧ vs.length = H.length ∧ ∀ (i : Nat) x ws, vs[i]? = some x → H[i]? = some ws → RoRows 3 Wr.cells σ0 x ws ∧ ws.length ≤ 140737488355328
theorem PastAt.slice {σ0 σ : Hp} {pv : Value} {H : List (List Wr)} (h : PastAt σ0 σ pv H) : ∃ A c, pv = .slice A H.length c := by
  obtain ⟨vs, h1, h2, _⟩ := h
  rw [← h2]; exact h1.slice
theorem PastAt.get {σ0 σ : Hp} {pv : Value} {H : List (List Wr)} (h : PastAt σ0 σ pv H) {i : Nat} {ws : List Wr} (hi : H[i]? = some ws) : ∃ b c x, pv = .slice (some ⟨b, 0, none⟩) H.length c ∧ rd σ b (i * 1) = some x ∧ RoRows 3 Wr.cells σ0 x ws ∧ ws.length ≤ 140737488355328 := by
  obtain ⟨vs, hr, hl, hk⟩ := h
  have hlt := (List.getElem?_eq_some_iff.1 hi).1
  obtain ⟨h1, h2⟩ := hk i _ ws (List.getElem?_eq_getElem (by omega)) hi
  rcases hr with ⟨_, e⟩ | ⟨b, c, rfl, hc, hb⟩
  · rw [e] at hl; simp at hl; omega
  · refine ⟨b, c, vs[i], by rw [hl], ?_, h1, h2⟩
    unfold rd; rw [hb]
    have := get_flat vC_len (List.getElem?_eq_getElem (show i < vs.length by omega)) 0 (by omega)
    show (vs.flatMap vC)[i * 1]? = _
    rw [Nat.add_zero] at this; rw [this]; rfl
theorem PastAt.ks {σ0 σ σ' : Hp} {pv : Value} {H : List (List Wr)} {p : Blk → Prop} (h : PastAt σ0 σ pv H) (hs : KSame p σ σ') (hp : ∀ cs r, ¬ p (.row cs r 35)) : PastAt σ0 σ' pv H := by
  obtain ⟨vs, h1, h2, h3⟩ := h
  exact ⟨vs, h1.ks hs hp, h2, h3⟩
def wr1 (key : ByteArray) (x : Bool × ByteArray) (ws : List Wr) : Bool × ByteArray := ws.foldl (fun v w => if w.key = key then (w.has, w.data) else v) x
def atV (H : List (List Wr)) (key : ByteArray) (c : Nat) : Bool × ByteArray := (H.take c).foldl (wr1 key) (false, ⟨#[]⟩)
theorem wr1_next {key : ByteArray} {x : Bool × ByteArray} {ws : List Wr} {i : Nat} {w : Wr} (h : ws[i]? = some w) : wr1 key x (ws.take (i + 1)) = if w.key = key then (w.has, w.data) else wr1 key x (ws.take i) := by
  unfold wr1
  rw [List.take_add_one, h, List.foldl_append]; rfl
set_option maxHeartbeats 1000000 in
theorem inner31 {Q : Exit → Sl → Hp → Prop} {σ0 τ : Hp} {s : Sl} {x7 b i n c : Nat} {x a1 a2 a6 : Value} {key : ByteArray} {ws : List Wr} {u0 : Bool × ByteArray} (hb : ¬ b = x7) (hbn : ∀ z, τ z = none → ¬ b = z) (hi : i < n) (hn : n ≤ 140737488355328) (hrd : rd τ b (i * 1) = some x) (hro : RoRows 3 Wr.cells σ0 x ws) (hs0 : Sub σ0 τ) (h7 : τ x7 = none) (hw : ws.length ≤ 140737488355328)
    (s0 : s 0 = .slice (some ⟨b, 0, none⟩) n c) (s1 : s 1 = .string key) (s2 : s 2 = a2) (s6 : s 6 = a6) (s7 : s 7 = .pointer (some ⟨x7, 0, none⟩)) (s8 : s 8 = .int .i64 (i : Nat))
    (hk : ∀ s', s' 0 = .slice (some ⟨b, 0, none⟩) n c → s' 1 = .string key → s' 2 = a2 → s' 6 = a6 → s' 7 = .pointer (some ⟨x7, 0, none⟩) → s' 8 = .int .i64 (i : Nat) → Q .normal s' (upd τ x7 (.cells [.bool (wr1 key u0 ws).1, .string (wr1 key u0 ws).2] 31))) :
    codeF Try.prog c31_b1 Q s (upd τ x7 (.cells [.bool u0.1, .string u0.2] 31)) ⟨⟩ := by
  have HK := Hid.mk hk
  have HRO := Hid.mk (hro.sub hs0)
  obtain ⟨A, wc, rfl⟩ : ∃ A c, x = .slice A ws.length c := by obtain ⟨A, c, rfl, _⟩ := hro; exact ⟨A, c, rfl⟩
  have hin : (i : Int) < (n : Int) := by omega
  clear hk hro hs0
  unfold c31_b1
  (repeat' (first | (simp +contextual -dsimp only [*, Wr.cells, bne_self_eq_false, Bool.not_true, Bool.not_false, ↓reduceIte, ↓evP, evQ, splice, Nat.reduceAdd, Nat.reduceEqDiff, Nat.reduceLeDiff, Nat.reduceMul, reduceCtorEq, Int.reduceLT, Int.reduceLE, Int.reduceGT, Int.reduceGE, Int.reduceEq, Int.reduceNeg]) | (refine condF_split (fun hc => ?_) (fun hc => ?_) <;> (try simp only [Bool.not_eq_true', Bool.not_eq_false', Bool.and_eq_true, Bool.or_eq_false_iff] at hc)) | (intro _; intros) | (refine And.intro ?_ ?_; focus (first | omega | ((repeat (first | exact Sub.refl _ | (refine Sub.drop ?_ ?_; focus (simp only [evN, *]; done)) | refine Sub.both ?_)); done) | (simp_all; done) | (simp_all; omega)))))
  refine loopF_of (fun k s σ' => ∃ (j : Nat), j ≤ ws.length ∧ k = ws.length - j ∧ σ' = upd τ x7 (.cells [.bool (wr1 key u0 (ws.take j)).1, .string (wr1 key u0 (ws.take j)).2] 31) ∧ s 9 = .int .i64 (j : Nat) ∧ s 0 = .slice (some ⟨b, 0, none⟩) n c ∧ s 1 = .string key ∧ s 2 = a2 ∧ s 6 = a6 ∧ s 7 = .pointer (some ⟨x7, 0, none⟩) ∧ s 8 = .int .i64 (i : Nat)) ws.length (Sub.refl _)
    ⟨0, by omega, rfl, rfl, (by first | rfl | (simp only [↓putO_get, ↓putO_no, init_zero, init_succ, Nat.reduceEqDiff, ↓reduceIte, *]; done) | (simp only [↓putO_get, ↓putO_no, init_zero, init_succ, Nat.reduceEqDiff, ↓reduceIte, *]; rfl)), (by first | rfl | (simp only [↓putO_get, ↓putO_no, init_zero, init_succ, Nat.reduceEqDiff, ↓reduceIte, *]; done) | (simp only [↓putO_get, ↓putO_no, init_zero, init_succ, Nat.reduceEqDiff, ↓reduceIte, *]; rfl)), (by first | rfl | (simp only [↓putO_get, ↓putO_no, init_zero, init_succ, Nat.reduceEqDiff, ↓reduceIte, *]; done) | (simp only [↓putO_get, ↓putO_no, init_zero, init_succ, Nat.reduceEqDiff, ↓reduceIte, *]; rfl)), (by first | rfl | (simp only [↓putO_get, ↓putO_no, init_zero, init_succ, Nat.reduceEqDiff, ↓reduceIte, *]; done) | (simp only [↓putO_get, ↓putO_no, init_zero, init_succ, Nat.reduceEqDiff, ↓reduceIte, *]; rfl)), (by first | rfl | (simp only [↓putO_get, ↓putO_no, init_zero, init_succ, Nat.reduceEqDiff, ↓reduceIte, *]; done) | (simp only [↓putO_get, ↓putO_no, init_zero, init_succ, Nat.reduceEqDiff, ↓reduceIte, *]; rfl)), (by first | rfl | (simp only [↓putO_get, ↓putO_no, init_zero, init_succ, Nat.reduceEqDiff, ↓reduceIte, *]; done) | (simp only [↓putO_get, ↓putO_no, init_zero, init_succ, Nat.reduceEqDiff, ↓reduceIte, *]; rfl)), (by first | rfl | (simp only [↓putO_get, ↓putO_no, init_zero, init_succ, Nat.reduceEqDiff, ↓reduceIte, *]; done) | (simp only [↓putO_get, ↓putO_no, init_zero, init_succ, Nat.reduceEqDiff, ↓reduceIte, *]; rfl))⟩ ?_
  rintro k s τ1 ⟨j, hj, hk, rfl, s9, s0, s1, s2, s6, s7, s8⟩
  rcases Nat.lt_or_ge j ws.length with hlt | hge
  · obtain ⟨w, hw'⟩ : ∃ w, ws[j]? = some w := ⟨_, List.getElem?_eq_getElem hlt⟩
    obtain ⟨bw, off, e, hrdw⟩ := HRO.out.get hlt
    subst e
    rw [show ws[j] = w by rw [List.getElem?_eq_getElem hlt] at hw'; exact Option.some.inj hw'] at hrdw
    have hbw : ¬ bw = x7 := fun e => by unfold rdn at hrdw; rw [e, h7] at hrdw; cases hrdw
    have hk0 := rd_part hrdw 0 (v := .string w.key) rfl
    have hk1 := rdn_part hrdw 1 2 (by omega)
    rw [Nat.add_zero] at hk0
    have hd : decide ((j : Int) < (ws.length : Int)) = true := by simp; omega
    have hlt' : (j : Int) < (ws.length : Int) := by omega
    have e1 : IntKind.i64.wrap ((j : Int) + 1) = ((j + 1 : Nat) : Int) := by rw [wi64 (by omega)]; rfl
    have HN := Hid.mk (wr1_next (key := key) (x := u0) hw')
    clear hw'
    cases hc : decide (w.key = key) with
    | true =>
      (repeat' (first | (simp +contextual -dsimp only [*, Wr.cells, bne_self_eq_false, Bool.not_true, Bool.not_false, ↓reduceIte, ↓evP, evQ, splice, Nat.reduceAdd, Nat.reduceEqDiff, Nat.reduceLeDiff, Nat.reduceMul, reduceCtorEq, Int.reduceLT, Int.reduceLE, Int.reduceGT, Int.reduceGE, Int.reduceEq, Int.reduceNeg]) | (refine condF_split (fun hc => ?_) (fun hc => ?_) <;> (try simp only [Bool.not_eq_true', Bool.not_eq_false', Bool.and_eq_true, Bool.or_eq_false_iff] at hc)) | (intro _; intros) | (refine And.intro ?_ ?_; focus (first | omega | ((repeat (first | exact Sub.refl _ | (refine Sub.drop ?_ ?_; focus (simp only [evN, *]; done)) | refine Sub.both ?_)); done) | (simp_all; done) | (simp_all; omega)))))
      refine nextF_of (ws.length - (j + 1)) (by omega) (Sub.refl _) ⟨j + 1, by omega, rfl, ?_, (by first | rfl | (simp only [↓putO_get, ↓putO_no, init_zero, init_succ, Nat.reduceEqDiff, ↓reduceIte, *]; done) | (simp only [↓putO_get, ↓putO_no, init_zero, init_succ, Nat.reduceEqDiff, ↓reduceIte, *]; rfl)), (by first | rfl | (simp only [↓putO_get, ↓putO_no, init_zero, init_succ, Nat.reduceEqDiff, ↓reduceIte, *]; done) | (simp only [↓putO_get, ↓putO_no, init_zero, init_succ, Nat.reduceEqDiff, ↓reduceIte, *]; rfl)), (by first | rfl | (simp only [↓putO_get, ↓putO_no, init_zero, init_succ, Nat.reduceEqDiff, ↓reduceIte, *]; done) | (simp only [↓putO_get, ↓putO_no, init_zero, init_succ, Nat.reduceEqDiff, ↓reduceIte, *]; rfl)), (by first | rfl | (simp only [↓putO_get, ↓putO_no, init_zero, init_succ, Nat.reduceEqDiff, ↓reduceIte, *]; done) | (simp only [↓putO_get, ↓putO_no, init_zero, init_succ, Nat.reduceEqDiff, ↓reduceIte, *]; rfl)), (by first | rfl | (simp only [↓putO_get, ↓putO_no, init_zero, init_succ, Nat.reduceEqDiff, ↓reduceIte, *]; done) | (simp only [↓putO_get, ↓putO_no, init_zero, init_succ, Nat.reduceEqDiff, ↓reduceIte, *]; rfl)), (by first | rfl | (simp only [↓putO_get, ↓putO_no, init_zero, init_succ, Nat.reduceEqDiff, ↓reduceIte, *]; done) | (simp only [↓putO_get, ↓putO_no, init_zero, init_succ, Nat.reduceEqDiff, ↓reduceIte, *]; rfl)), (by first | rfl | (simp only [↓putO_get, ↓putO_no, init_zero, init_succ, Nat.reduceEqDiff, ↓reduceIte, *]; done) | (simp only [↓putO_get, ↓putO_no, init_zero, init_succ, Nat.reduceEqDiff, ↓reduceIte, *]; rfl))⟩
      rw [HN.out, if_pos (of_decide_eq_true hc)]
    | false =>
      (repeat' (first | (simp +contextual -dsimp only [*, Wr.cells, bne_self_eq_false, Bool.not_true, Bool.not_false, ↓reduceIte, ↓evP, evQ, splice, Nat.reduceAdd, Nat.reduceEqDiff, Nat.reduceLeDiff, Nat.reduceMul, reduceCtorEq, Int.reduceLT, Int.reduceLE, Int.reduceGT, Int.reduceGE, Int.reduceEq, Int.reduceNeg]) | (refine condF_split (fun hc => ?_) (fun hc => ?_) <;> (try simp only [Bool.not_eq_true', Bool.not_eq_false', Bool.and_eq_true, Bool.or_eq_false_iff] at hc)) | (intro _; intros) | (refine And.intro ?_ ?_; focus (first | omega | ((repeat (first | exact Sub.refl _ | (refine Sub.drop ?_ ?_; focus (simp only [evN, *]; done)) | refine Sub.both ?_)); done) | (simp_all; done) | (simp_all; omega)))))
      refine nextF_of (ws.length - (j + 1)) (by omega) (Sub.refl _) ⟨j + 1, by omega, rfl, ?_, (by first | rfl | (simp only [↓putO_get, ↓putO_no, init_zero, init_succ, Nat.reduceEqDiff, ↓reduceIte, *]; done) | (simp only [↓putO_get, ↓putO_no, init_zero, init_succ, Nat.reduceEqDiff, ↓reduceIte, *]; rfl)), (by first | rfl | (simp only [↓putO_get, ↓putO_no, init_zero, init_succ, Nat.reduceEqDiff, ↓reduceIte, *]; done) | (simp only [↓putO_get, ↓putO_no, init_zero, init_succ, Nat.reduceEqDiff, ↓reduceIte, *]; rfl)), (by first | rfl | (simp only [↓putO_get, ↓putO_no, init_zero, init_succ, Nat.reduceEqDiff, ↓reduceIte, *]; done) | (simp only [↓putO_get, ↓putO_no, init_zero, init_succ, Nat.reduceEqDiff, ↓reduceIte, *]; rfl)), (by first | rfl | (simp only [↓putO_get, ↓putO_no, init_zero, init_succ, Nat.reduceEqDiff, ↓reduceIte, *]; done) | (simp only [↓putO_get, ↓putO_no, init_zero, init_succ, Nat.reduceEqDiff, ↓reduceIte, *]; rfl)), (by first | rfl | (simp only [↓putO_get, ↓putO_no, init_zero, init_succ, Nat.reduceEqDiff, ↓reduceIte, *]; done) | (simp only [↓putO_get, ↓putO_no, init_zero, init_succ, Nat.reduceEqDiff, ↓reduceIte, *]; rfl)), (by first | rfl | (simp only [↓putO_get, ↓putO_no, init_zero, init_succ, Nat.reduceEqDiff, ↓reduceIte, *]; done) | (simp only [↓putO_get, ↓putO_no, init_zero, init_succ, Nat.reduceEqDiff, ↓reduceIte, *]; rfl)), (by first | rfl | (simp only [↓putO_get, ↓putO_no, init_zero, init_succ, Nat.reduceEqDiff, ↓reduceIte, *]; done) | (simp only [↓putO_get, ↓putO_no, init_zero, init_succ, Nat.reduceEqDiff, ↓reduceIte, *]; rfl))⟩
      rw [HN.out, if_neg (of_decide_eq_false hc)]
  · have hd : decide ((j : Int) < (ws.length : Int)) = false := by simp; omega
    have e2 : ws.take j = ws := List.take_of_length_le hge
    rw [e2]
    (repeat' (first | (simp +contextual -dsimp only [*, Wr.cells, bne_self_eq_false, Bool.not_true, Bool.not_false, ↓reduceIte, ↓evP, evQ, splice, Nat.reduceAdd, Nat.reduceEqDiff, Nat.reduceLeDiff, Nat.reduceMul, reduceCtorEq, Int.reduceLT, Int.reduceLE, Int.reduceGT, Int.reduceGE, Int.reduceEq, Int.reduceNeg]) | (refine condF_split (fun hc => ?_) (fun hc => ?_) <;> (try simp only [Bool.not_eq_true', Bool.not_eq_false', Bool.and_eq_true, Bool.or_eq_false_iff] at hc)) | (intro _; intros) | (refine And.intro ?_ ?_; focus (first | omega | ((repeat (first | exact Sub.refl _ | (refine Sub.drop ?_ ?_; focus (simp only [evN, *]; done)) | refine Sub.both ?_)); done) | (simp_all; done) | (simp_all; omega)))))
    exact HK.out _ (by first | rfl | (simp only [↓putO_get, ↓putO_no, init_zero, init_succ, Nat.reduceEqDiff, ↓reduceIte, *]; done) | (simp only [↓putO_get, ↓putO_no, init_zero, init_succ, Nat.reduceEqDiff, ↓reduceIte, *]; rfl)) (by first | rfl | (simp only [↓putO_get, ↓putO_no, init_zero, init_succ, Nat.reduceEqDiff, ↓reduceIte, *]; done) | (simp only [↓putO_get, ↓putO_no, init_zero, init_succ, Nat.reduceEqDiff, ↓reduceIte, *]; rfl)) (by first | rfl | (simp only [↓putO_get, ↓putO_no, init_zero, init_succ, Nat.reduceEqDiff, ↓reduceIte, *]; done) | (simp only [↓putO_get, ↓putO_no, init_zero, init_succ, Nat.reduceEqDiff, ↓reduceIte, *]; rfl)) (by first | rfl | (simp only [↓putO_get, ↓putO_no, init_zero, init_succ, Nat.reduceEqDiff, ↓reduceIte, *]; done) | (simp only [↓putO_get, ↓putO_no, init_zero, init_succ, Nat.reduceEqDiff, ↓reduceIte, *]; rfl)) (by first | rfl | (simp only [↓putO_get, ↓putO_no, init_zero, init_succ, Nat.reduceEqDiff, ↓reduceIte, *]; done) | (simp only [↓putO_get, ↓putO_no, init_zero, init_succ, Nat.reduceEqDiff, ↓reduceIte, *]; rfl)) (by first | rfl | (simp only [↓putO_get, ↓putO_no, init_zero, init_succ, Nat.reduceEqDiff, ↓reduceIte, *]; done) | (simp only [↓putO_get, ↓putO_no, init_zero, init_succ, Nat.reduceEqDiff, ↓reduceIte, *]; rfl))
theorem atV_next {H : List (List Wr)} {key : ByteArray} {i : Nat} {ws : List Wr} (h : H[i]? = some ws) : atV H key (i + 1) = wr1 key (atV H key i) ws := by
  unfold atV
  rw [List.take_add_one, h, List.foldl_append]; rfl
set_option maxHeartbeats 1000000 in
theorem at31 {σ0 σ : Hp} {pv : Value} {H : List (List Wr)} (h : PastAt σ0 σ pv H) (hs0 : Sub σ0 σ) (hH : H.length ≤ 1000) (key : ByteArray) (c : Nat) (hc : c ≤ 1000000) :
    ACalls Try.prog 31 #[pv, .string key, .int .i64 (c : Nat)] σ fun u σ' => u = .agg #[.bool (atV H key c).1, .string (atV H key c).2] ∧ σ' = σ := by
  have HP := Hid.mk (And.intro h hs0)
  obtain ⟨A, cap, rfl⟩ := h.slice
  clear h hs0
  (refine acalls_F ok31 (by simp) ?_; unfold c31 r31)
  (repeat' (first | (simp +contextual -dsimp only [*, Wr.cells, bne_self_eq_false, Bool.not_true, Bool.not_false, ↓reduceIte, ↓evP, evQ, splice, Nat.reduceAdd, Nat.reduceEqDiff, Nat.reduceLeDiff, Nat.reduceMul, reduceCtorEq, Int.reduceLT, Int.reduceLE, Int.reduceGT, Int.reduceGE, Int.reduceEq, Int.reduceNeg]) | (refine condF_split (fun hc => ?_) (fun hc => ?_) <;> (try simp only [Bool.not_eq_true', Bool.not_eq_false', Bool.and_eq_true, Bool.or_eq_false_iff] at hc)) | (intro _; intros) | (refine And.intro ?_ ?_; focus (first | omega | ((repeat (first | exact Sub.refl _ | (refine Sub.drop ?_ ?_; focus (simp only [evN, *]; done)) | refine Sub.both ?_)); done) | (simp_all; done) | (simp_all; omega)))))
  rename_i x6 x60 x7 x71 x71' x70
  have h7 : upd σ x6 (.cells [.bool false, .string ⟨#[]⟩] 31) x7 = none := (by simp only [evN, *]; done)
  have hsub : Sub σ0 (upd σ x6 (.cells [.bool false, .string ⟨#[]⟩] 31)) := Sub.drop (HP.out.2.noneAt x60) HP.out.2
  have HX := Hid.mk (And.intro h7 hsub)
  clear h7 hsub
  refine loopF_of (fun k s σ' => ∃ (i : Nat), i ≤ H.length ∧ i ≤ c ∧ k = H.length - i ∧ σ' = upd (upd σ x6 (.cells [.bool false, .string ⟨#[]⟩] 31)) x7 (.cells [.bool (atV H key i).1, .string (atV H key i).2] 31) ∧ s 8 = .int .i64 (i : Nat) ∧ s 0 = .slice A H.length cap ∧ s 1 = .string key ∧ s 2 = .int .i64 (c : Nat) ∧ s 6 = .pointer (some ⟨x6, 0, none⟩) ∧ s 7 = .pointer (some ⟨x7, 0, none⟩)) H.length (Sub.refl _)
    ⟨0, by omega, by omega, rfl, rfl, (by first | rfl | (simp only [↓putO_get, ↓putO_no, init_zero, init_succ, Nat.reduceEqDiff, ↓reduceIte, *]; done) | (simp only [↓putO_get, ↓putO_no, init_zero, init_succ, Nat.reduceEqDiff, ↓reduceIte, *]; rfl)), (by first | rfl | (simp only [↓putO_get, ↓putO_no, init_zero, init_succ, Nat.reduceEqDiff, ↓reduceIte, *]; done) | (simp only [↓putO_get, ↓putO_no, init_zero, init_succ, Nat.reduceEqDiff, ↓reduceIte, *]; rfl)), (by first | rfl | (simp only [↓putO_get, ↓putO_no, init_zero, init_succ, Nat.reduceEqDiff, ↓reduceIte, *]; done) | (simp only [↓putO_get, ↓putO_no, init_zero, init_succ, Nat.reduceEqDiff, ↓reduceIte, *]; rfl)), (by first | rfl | (simp only [↓putO_get, ↓putO_no, init_zero, init_succ, Nat.reduceEqDiff, ↓reduceIte, *]; done) | (simp only [↓putO_get, ↓putO_no, init_zero, init_succ, Nat.reduceEqDiff, ↓reduceIte, *]; rfl)), (by first | rfl | (simp only [↓putO_get, ↓putO_no, init_zero, init_succ, Nat.reduceEqDiff, ↓reduceIte, *]; done) | (simp only [↓putO_get, ↓putO_no, init_zero, init_succ, Nat.reduceEqDiff, ↓reduceIte, *]; rfl)), (by first | rfl | (simp only [↓putO_get, ↓putO_no, init_zero, init_succ, Nat.reduceEqDiff, ↓reduceIte, *]; done) | (simp only [↓putO_get, ↓putO_no, init_zero, init_succ, Nat.reduceEqDiff, ↓reduceIte, *]; rfl))⟩ ?_
  rintro k s τ1 ⟨i, hi, hic, hk, rfl, s8, s0, s1, s2, s6, s7⟩
  cases hd : decide ((i : Int) < (H.length : Int)) && decide ((i : Int) < (c : Int)) with
  | true =>
    simp only [Bool.and_eq_true, decide_eq_true_eq] at hd
    have d1 : decide ((i : Int) < (H.length : Int)) = true := decide_eq_true hd.1
    have d2 : decide ((i : Int) < (c : Int)) = true := decide_eq_true hd.2
    obtain ⟨ws, hws⟩ : ∃ ws, H[i]? = some ws := ⟨_, List.getElem?_eq_getElem (by omega)⟩
    obtain ⟨b, cb, x, e, hrd, hro, hwn⟩ := HP.out.1.get hws
    injection e with e1 e2 e3
    subst e1; subst e3
    have hb6 : ¬ b = x6 := fun e => by unfold rd at hrd; rw [e, x60] at hrd; cases hrd
    have hb7 : ¬ b = x7 := fun e => by unfold rd at hrd; rw [e, x70] at hrd; cases hrd
    have hrd1 : rd (upd σ x6 (.cells [.bool false, .string ⟨#[]⟩] 31)) b (i * 1) = some x := by rw [rd_ne _ _ _ hb6]; exact hrd
    have hex : IntKind.i64.wrap ((i : Int) + 1) = ((i + 1 : Nat) : Int) := by rw [wi64 (by omega)]; rfl
    have HD := Hid.mk (And.intro hd (And.intro hws hro))
    have HQ := atV_next (key := key) hws
    clear hd hws hrd e2
    simp +contextual -dsimp only [*, Wr.cells, bne_self_eq_false, Bool.not_true, Bool.not_false, ↓reduceIte, ↓evP, evQ, splice, Nat.reduceAdd, Nat.reduceEqDiff, Nat.reduceLeDiff, Nat.reduceMul, reduceCtorEq, Int.reduceLT, Int.reduceLE, Int.reduceGT, Int.reduceGE, Int.reduceEq, Int.reduceNeg]
    unfold c31_s1
    simp +contextual -dsimp only [*, Wr.cells, bne_self_eq_false, Bool.not_true, Bool.not_false, ↓reduceIte, ↓evP, evQ, splice, Nat.reduceAdd, Nat.reduceEqDiff, Nat.reduceLeDiff, Nat.reduceMul, reduceCtorEq, Int.reduceLT, Int.reduceLE, Int.reduceGT, Int.reduceGE, Int.reduceEq, Int.reduceNeg]
    refine inner31 (a1 := .string key) (a2 := .int .i64 (c : Nat)) (a6 := .pointer (some ⟨x6, 0, none⟩)) (u0 := atV H key i) hb7 (fun z hz e => by rw [e] at hrd1; unfold rd at hrd1; rw [hz] at hrd1; cases hrd1) (show i < H.length by have := HD.out.1.1; omega) (by omega) hrd1 HD.out.2.2 HX.out.2 HX.out.1 hwn (by first | rfl | (simp only [↓putO_get, ↓putO_no, init_zero, init_succ, Nat.reduceEqDiff, ↓reduceIte, *]; done) | (simp only [↓putO_get, ↓putO_no, init_zero, init_succ, Nat.reduceEqDiff, ↓reduceIte, *]; rfl)) (by first | rfl | (simp only [↓putO_get, ↓putO_no, init_zero, init_succ, Nat.reduceEqDiff, ↓reduceIte, *]; done) | (simp only [↓putO_get, ↓putO_no, init_zero, init_succ, Nat.reduceEqDiff, ↓reduceIte, *]; rfl)) (by first | rfl | (simp only [↓putO_get, ↓putO_no, init_zero, init_succ, Nat.reduceEqDiff, ↓reduceIte, *]; done) | (simp only [↓putO_get, ↓putO_no, init_zero, init_succ, Nat.reduceEqDiff, ↓reduceIte, *]; rfl)) (by first | rfl | (simp only [↓putO_get, ↓putO_no, init_zero, init_succ, Nat.reduceEqDiff, ↓reduceIte, *]; done) | (simp only [↓putO_get, ↓putO_no, init_zero, init_succ, Nat.reduceEqDiff, ↓reduceIte, *]; rfl)) (by first | rfl | (simp only [↓putO_get, ↓putO_no, init_zero, init_succ, Nat.reduceEqDiff, ↓reduceIte, *]; done) | (simp only [↓putO_get, ↓putO_no, init_zero, init_succ, Nat.reduceEqDiff, ↓reduceIte, *]; rfl)) (by first | rfl | (simp only [↓putO_get, ↓putO_no, init_zero, init_succ, Nat.reduceEqDiff, ↓reduceIte, *]; done) | (simp only [↓putO_get, ↓putO_no, init_zero, init_succ, Nat.reduceEqDiff, ↓reduceIte, *]; rfl)) fun s' t0 t1 t2 t6 t7 t8 => ?_
    rw [← HQ]
    clear HQ
    simp +contextual -dsimp only [*, Wr.cells, bne_self_eq_false, Bool.not_true, Bool.not_false, ↓reduceIte, ↓evP, evQ, splice, Nat.reduceAdd, Nat.reduceEqDiff, Nat.reduceLeDiff, Nat.reduceMul, reduceCtorEq, Int.reduceLT, Int.reduceLE, Int.reduceGT, Int.reduceGE, Int.reduceEq, Int.reduceNeg]
    unfold c31_t1
    (repeat' (first | (simp +contextual -dsimp only [*, Wr.cells, bne_self_eq_false, Bool.not_true, Bool.not_false, ↓reduceIte, ↓evP, evQ, splice, Nat.reduceAdd, Nat.reduceEqDiff, Nat.reduceLeDiff, Nat.reduceMul, reduceCtorEq, Int.reduceLT, Int.reduceLE, Int.reduceGT, Int.reduceGE, Int.reduceEq, Int.reduceNeg]) | (refine condF_split (fun hc => ?_) (fun hc => ?_) <;> (try simp only [Bool.not_eq_true', Bool.not_eq_false', Bool.and_eq_true, Bool.or_eq_false_iff] at hc)) | (intro _; intros) | (refine And.intro ?_ ?_; focus (first | omega | ((repeat (first | exact Sub.refl _ | (refine Sub.drop ?_ ?_; focus (simp only [evN, *]; done)) | refine Sub.both ?_)); done) | (simp_all; done) | (simp_all; omega)))))
    exact nextF_of (H.length - (i + 1)) (by have := HD.out.1.1; omega) (Sub.refl _) ⟨i + 1, by have := HD.out.1.1; omega, by have := HD.out.1.2; omega, rfl, rfl, (by first | rfl | (simp only [↓putO_get, ↓putO_no, init_zero, init_succ, Nat.reduceEqDiff, ↓reduceIte, *]; done) | (simp only [↓putO_get, ↓putO_no, init_zero, init_succ, Nat.reduceEqDiff, ↓reduceIte, *]; rfl)), (by first | rfl | (simp only [↓putO_get, ↓putO_no, init_zero, init_succ, Nat.reduceEqDiff, ↓reduceIte, *]; done) | (simp only [↓putO_get, ↓putO_no, init_zero, init_succ, Nat.reduceEqDiff, ↓reduceIte, *]; rfl)), (by first | rfl | (simp only [↓putO_get, ↓putO_no, init_zero, init_succ, Nat.reduceEqDiff, ↓reduceIte, *]; done) | (simp only [↓putO_get, ↓putO_no, init_zero, init_succ, Nat.reduceEqDiff, ↓reduceIte, *]; rfl)), (by first | rfl | (simp only [↓putO_get, ↓putO_no, init_zero, init_succ, Nat.reduceEqDiff, ↓reduceIte, *]; done) | (simp only [↓putO_get, ↓putO_no, init_zero, init_succ, Nat.reduceEqDiff, ↓reduceIte, *]; rfl)), (by first | rfl | (simp only [↓putO_get, ↓putO_no, init_zero, init_succ, Nat.reduceEqDiff, ↓reduceIte, *]; done) | (simp only [↓putO_get, ↓putO_no, init_zero, init_succ, Nat.reduceEqDiff, ↓reduceIte, *]; rfl)), (by first | rfl | (simp only [↓putO_get, ↓putO_no, init_zero, init_succ, Nat.reduceEqDiff, ↓reduceIte, *]; done) | (simp only [↓putO_get, ↓putO_no, init_zero, init_succ, Nat.reduceEqDiff, ↓reduceIte, *]; rfl))⟩
  | false =>
    have hD := Hid.mk hd
    have hend : atV H key i = atV H key c := by
      unfold atV
      have : H.length ≤ i ∨ i = c := by
        simp only [Bool.and_eq_false_iff, decide_eq_false_iff_not] at hd
        omega
      rcases this with e | e
      · rw [List.take_of_length_le e, List.take_of_length_le (by omega)]
      · rw [e]
    rw [hend]
    clear hd hend
    (repeat' (first | (simp +contextual -dsimp only [*, Wr.cells, bne_self_eq_false, Bool.not_true, Bool.not_false, ↓reduceIte, ↓evP, evQ, splice, Nat.reduceAdd, Nat.reduceEqDiff, Nat.reduceLeDiff, Nat.reduceMul, reduceCtorEq, Int.reduceLT, Int.reduceLE, Int.reduceGT, Int.reduceGE, Int.reduceEq, Int.reduceNeg]) | (refine condF_split (fun hc => ?_) (fun hc => ?_) <;> (try simp only [Bool.not_eq_true', Bool.not_eq_false', Bool.and_eq_true, Bool.or_eq_false_iff] at hc)) | (intro _; intros) | (refine And.intro ?_ ?_; focus (first | omega | ((repeat (first | exact Sub.refl _ | (refine Sub.drop ?_ ?_; focus (simp only [evN, *]; done)) | refine Sub.both ?_)); done) | (simp_all; done) | (simp_all; omega)))))
    all_goals first
      | (exfalso; have := hD.out; rw [show decide ((i : Int) < (H.length : Int)) = true by assumption, show decide ((i : Int) < (c : Int)) = true by assumption] at this; cases this; done)
      | skip
    all_goals (refine endF_det ?_ ?_; (focus ((try simp only [cond_true, cond_false, *]) <;> ((try simp only [decide_eq_true_eq, decide_eq_false_iff_not] at *) <;> first | rfl | (simp []; done) | (simp_all []; done) | (simp []; omega) | (simp []; (rw [Bool.eq_iff_iff]); simp; omega) | (simp_all [] <;> omega) | ((try unfold id); (rw [Value.bool.injEq, Bool.eq_iff_iff]); simp <;> omega) | ((try unfold id); (repeat' split) <;> simp_all <;> omega) | (simp_all [] <;> (repeat' split) <;> simp_all <;> omega)))); (focus ((try simp only [cond_true, cond_false, set_same, *]); exact (by (repeat (first | exact Sub.refl _ | (refine Sub.drop ?_ ?_; focus (simp only [evN, *]; done)) | refine Sub.both ?_)); done))))
def lastV (l : List Ver) : Bool × ByteArray := match l.getLast? with | some v => (v.has, v.data) | none => (false, ⟨#[]⟩)
theorem wr1_none {key : ByteArray} : ∀ (ws : List Wr) (x : Bool × ByteArray), key ∉ keysOf ws → wr1 key x ws = x
  | [], x, _ => rfl
  | w :: r, x, h => by
    have h1 : ¬ w.key = key := fun e => h (by rw [← e]; exact List.mem_cons_self)
    have h2 : key ∉ keysOf r := fun e => h (List.mem_cons_of_mem _ e)
    show wr1 key (if w.key = key then (w.has, w.data) else x) r = x
    rw [if_neg h1]; exact wr1_none r x h2
theorem wr1_wrote {key : ByteArray} : ∀ (ws : List Wr) (x : Bool × ByteArray), (keysOf ws).Nodup → wr1 key x ws = match wrote key ws with | some w => (w.has, w.data) | none => x
  | [], x, _ => rfl
  | w :: r, x, h => by
    have h' : (w.key :: keysOf r).Nodup := h
    obtain ⟨h1, h2⟩ := List.nodup_cons.1 h'
    show wr1 key (if w.key = key then (w.has, w.data) else x) r = _
    unfold wrote
    rw [List.find?_cons]
    by_cases e : w.key = key
    · rw [if_pos e, decide_eq_true e]
      exact wr1_none r _ (by rw [← e]; exact h1)
    · rw [if_neg e, decide_eq_false e]
      exact wr1_wrote r x h2
theorem lastV_app (l : List Ver) (key : ByteArray) (ws : List Wr) (n : Nat) : lastV (l ++ wroteV key ws n) = match wrote key ws with | some w => (w.has, w.data) | none => lastV l := by
  unfold wroteV
  cases wrote key ws with
  | none => simp
  | some w => unfold lastV; rw [List.getLast?_concat]; rfl
theorem atV_last {H : List (List Wr)} {key : ByteArray} (hu : ∀ ws ∈ H, (keysOf ws).Nodup) : ∀ c, c ≤ H.length → atV H key c = lastV (versF 1 (H.take c) key)
  | 0, _ => by unfold atV; rw [List.take_zero]; rfl
  | c + 1, h => by
    obtain ⟨ws, hws⟩ : ∃ ws, H[c]? = some ws := ⟨_, List.getElem?_eq_getElem (by omega)⟩
    rw [atV_next hws, atV_last hu c (by omega), List.take_add_one, hws]
    show _ = lastV (versF 1 (H.take c ++ [ws]) key)
    rw [versF_append, lastV_app, wr1_wrote ws _ (hu ws (List.mem_of_getElem? hws))]
theorem versF_app (k : ByteArray) : ∀ (A B : List (List Wr)) (n : Nat), versF n (A ++ B) k = versF n A k ++ versF (n + A.length) B k
  | [], B, n => rfl
  | x :: A, B, n => by
    show wroteV k x n ++ versF (n + 1) (A ++ B) k = (wroteV k x n ++ versF (n + 1) A k) ++ _
    rw [versF_app k A B (n + 1), List.append_assoc, show n + 1 + A.length = n + (x :: A).length by simp; omega]
theorem place_split {A B : List Ver} {c : Int} (hA : ∀ v ∈ A, (v.n : Int) ≤ c) (hB : ∀ v ∈ B, c < (v.n : Int)) : place (A ++ B) c = A.length := by
  unfold place
  rw [List.findIdx_append]
  have h1 : A.findIdx (fun v => decide (c < v.n)) = A.length := by
    rw [List.findIdx_eq_length]
    intro v hv
    have := hA v hv
    simp; omega
  rw [if_neg (by omega)]
  have h2 : B.findIdx (fun v => decide (c < v.n)) = 0 := by
    cases B with
    | nil => rfl
    | cons b r => rw [List.findIdx_cons]; have := hB b List.mem_cons_self; simp [this]
  omega
theorem atV_place {H : List (List Wr)} {key : ByteArray} (hu : ∀ ws ∈ H, (keysOf ws).Nodup) {c : Nat} (hc : c ≤ H.length) : atV H key c = lastV ((vers H key).take (place (vers H key) c)) := by
  rw [atV_last hu c hc]
  have e : vers H key = versF 1 (H.take c) key ++ versF (1 + c) (H.drop c) key := by
    have := versF_app key (H.take c) (H.drop c) 1
    rw [List.take_append_drop, List.length_take, Nat.min_eq_left hc] at this
    exact this
  have hp : place (vers H key) c = (versF 1 (H.take c) key).length := by
    rw [e]
    refine place_split (fun v hv => ?_) (fun v hv => ?_)
    · have := versF_ge hv
      rw [List.length_take] at this; omega
    · have := versF_ge hv; omega
  rw [hp, e, List.take_left]
theorem lastV_take {V : List Ver} {i : Nat} (hi : i ≤ V.length) : lastV (V.take i) = ((before V i).has, (before V i).data) := by
  cases i with
  | zero => rfl
  | succ i =>
    have h : V[i]? = some V[i] := List.getElem?_eq_getElem (by omega)
    have e : V.take (i + 1) = V.take i ++ [V[i]] := by rw [List.take_add_one, h]; rfl
    unfold lastV
    rw [e, List.getLast?_concat]
    show _ = ((V.getD i noVer).has, (V.getD i noVer).data)
    rw [List.getD_eq_getElem?_getD, h]; rfl
/-- What a read that is answered says. -/
structure FactOk (H : List (List Wr)) (key : ByteArray) (c0 : Nat) (F : Fct) : Prop where
  lo : 0 ≤ F.lo ∧ F.lo ≤ (c0 : Int)
  hi : (c0 : Int) < F.hi ∧ (F.hi = 4611686018427387904 ∨ F.hi ≤ (H.length : Int))
  at_ : ∀ c : Nat, c ≤ H.length → F.lo ≤ (c : Int) → (c : Int) < F.hi → atV H key c = (F.has, F.data)
theorem factOk_vers {H : List (List Wr)} {key : ByteArray} (hu : ∀ ws ∈ H, (keysOf ws).Nodup) (hH : H.length ≤ 1000000) {c0 : Nat} (hc : c0 ≤ H.length) : FactOk H key c0 (factOf key (vers H key) (place (vers H key) c0)) := by
  have hs : (vers H key).Pairwise (fun a b => a.n < b.n) := versF_sorted key H 1
  have hle := place_le (vers H key) c0
  generalize hV : vers H key = V at hs hle ⊢
  generalize hI : place V c0 = I at hle ⊢
  have hmem : ∀ (j : Nat) v, V[j]? = some v → 1 ≤ v.n ∧ v.n < 1 + H.length := fun j v h => by
    have := List.mem_of_getElem? h
    rw [← hV] at this
    exact versF_ge this
  have hlo : (I = 0 ∧ before V I = noVer) ∨ ∃ v, 0 < I ∧ V[I - 1]? = some v ∧ before V I = v ∧ v.n ≤ c0 := by
    rcases Nat.eq_zero_or_pos I with h | h
    · exact .inl ⟨h, by rw [h]; rfl⟩
    · obtain ⟨v, hv⟩ : ∃ v, V[I - 1]? = some v := ⟨_, List.getElem?_eq_getElem (by omega)⟩
      have := place_iff (c := (c0 : Int)) hs hv
      rw [hI] at this
      have h2 : decide (I ≤ I - 1) = false := by simp; omega
      rw [h2] at this
      have := of_decide_eq_false this
      exact .inr ⟨v, h, hv, before_pos h hv, by omega⟩
  have hhi : (V[I]? = none ∧ I = V.length) ∨ ∃ v, V[I]? = some v ∧ c0 < v.n := by
    cases hv : V[I]? with
    | none => exact .inl ⟨rfl, by have := List.getElem?_eq_none_iff.1 hv; omega⟩
    | some v =>
      have := place_iff (c := (c0 : Int)) hs hv
      rw [hI, decide_eq_true (Nat.le_refl I)] at this
      have := of_decide_eq_true this
      exact .inr ⟨v, rfl, by omega⟩
  have hb : behindV V I = 4611686018427387904 ∧ V[I]? = none ∧ I = V.length ∨ ∃ v, V[I]? = some v ∧ c0 < v.n ∧ behindV V I = v.n := by
    rcases hhi with ⟨h, h2⟩ | ⟨v, h, h2⟩
    · left; unfold behindV; rw [h]; exact ⟨rfl, rfl, h2⟩
    · right; refine ⟨v, h, h2, ?_⟩; unfold behindV; rw [h]
  refine ⟨?_, ?_, fun c hcl h1 h2 => ?_⟩
  · show (0 : Int) ≤ ((before V I).n : Nat) ∧ ((before V I).n : Int) ≤ c0
    rcases hlo with ⟨_, h⟩ | ⟨v, _, _, h, h3⟩
    · rw [h]; show (0 : Int) ≤ ((0 : Nat) : Int) ∧ ((0 : Nat) : Int) ≤ c0; omega
    · rw [h]; omega
  · show (c0 : Int) < behindV V I ∧ (behindV V I = 4611686018427387904 ∨ behindV V I ≤ (H.length : Int))
    rcases hb with ⟨h, _⟩ | ⟨v, hv, h3, h⟩
    · rw [h]; exact ⟨by omega, .inl rfl⟩
    · rw [h]; have := hmem _ _ hv; exact ⟨by omega, .inr (by omega)⟩
  · have h1 : ((before V I).n : Int) ≤ c := h1
    have h2 : (c : Int) < behindV V I := h2
    rw [atV_place hu hcl, hV]
    have hpl : place V c = I := by
      have hle2 := place_le V (c : Int)
      have a1 : I ≤ place V c := by
        rcases hlo with ⟨h, _⟩ | ⟨v, h0, hv, hbv, h3⟩
        · omega
        · rw [hbv] at h1
          have := place_iff (c := (c : Int)) hs hv
          rw [decide_eq_false (by omega)] at this
          have := of_decide_eq_false this.symm
          omega
      have a2 : place V c ≤ I := by
        rcases hb with ⟨_, _, h⟩ | ⟨v, hv, h3, hbv⟩
        · omega
        · rw [hbv] at h2
          have := place_iff (c := (c : Int)) hs hv
          rw [decide_eq_true (by omega)] at this
          exact of_decide_eq_true this.symm
      omega
    rw [hpl, lastV_take hle]; rfl
theorem fact_cut {mo : Nat} (hm : 1 ≤ mo) {V : List Ver} (hs : V.Pairwise (fun a b => a.n < b.n)) {c0 : Int} (ho : ((cut mo V).oldest : Int) ≤ c0) (key : ByteArray) : factOf key (cut mo V).list (place (cut mo V).list c0) = factOf key V (place V c0) := by
  unfold cut at ho ⊢
  by_cases e : mo < V.length
  · rw [if_pos e] at ho ⊢
    obtain ⟨d, hd⟩ : ∃ d, d = V.length - mo := ⟨_, rfl⟩
    rw [← hd] at ho ⊢
    obtain ⟨v, hv⟩ : ∃ v, V[d]? = some v := ⟨_, List.getElem?_eq_getElem (by omega)⟩
    have hL0 : (V.drop d)[0]? = some v := by rw [List.getElem?_drop]; exact hv
    have hcons : V.drop d = v :: V.drop (d + 1) := by
      rw [List.getElem?_eq_getElem (by omega)] at hv
      rw [← Option.some.inj hv, ← List.drop_eq_getElem_cons (by omega)]
    have hvn : (v.n : Int) ≤ c0 := by
      have : (⟨V.drop d, true⟩ : Row).oldest = v.n := by rw [hcons]; rfl
      rw [this] at ho; exact ho
    have hp : place V c0 = place (V.drop d) c0 + d := by
      conv => lhs; rw [← List.take_append_drop d V]
      unfold place
      rw [List.findIdx_append]
      have h1 : (V.take d).findIdx (fun v => decide (c0 < v.n)) = (V.take d).length := by
        rw [List.findIdx_eq_length]
        intro x hx
        obtain ⟨j, hj, rfl⟩ := List.mem_take_iff_getElem.1 hx
        have := List.pairwise_iff_getElem.1 hs j d (by omega) (by omega) (by omega)
        rw [List.getElem?_eq_getElem (by omega)] at hv
        rw [Option.some.inj hv] at this
        simp; omega
      rw [if_neg (by omega), List.length_take, Nat.min_eq_left (by omega)]
    have hpos : 0 < place (V.drop d) c0 := by
      have hs2 := hs.sublist (List.drop_sublist d V)
      have := place_iff (c := c0) hs2 hL0
      rw [decide_eq_false (by omega)] at this
      have := of_decide_eq_false this.symm
      omega
    show factOf key (V.drop d) (place (V.drop d) c0) = _
    rw [hp]
    obtain ⟨i, hi⟩ : ∃ i, place (V.drop d) c0 = i + 1 := ⟨place (V.drop d) c0 - 1, by omega⟩
    rw [hi]
    have e1 : before (V.drop d) (i + 1) = before V (i + 1 + d) := by
      rw [show i + 1 + d = (i + d) + 1 by omega]
      show (V.drop d).getD i noVer = V.getD (i + d) noVer
      rw [List.getD_eq_getElem?_getD, List.getD_eq_getElem?_getD, List.getElem?_drop, Nat.add_comm d i]
    have e2 : behindV (V.drop d) (i + 1) = behindV V (i + 1 + d) := by
      unfold behindV
      rw [List.getElem?_drop, Nat.add_comm d (i + 1)]
    unfold factOf
    rw [e1, e2]
  · rw [if_neg e]
structure GoodT (T : TxS) (H : List (List Wr)) (low : Int) (n : Nat) : Prop where
  st : T.st = 0
  id : T.id = 3
  lo : 0 ≤ low ∧ low ≤ T.lo ∧ T.lo ≤ (H.length : Int) ∧ T.lo < T.hi
  hi : T.hi = 4611686018427387904 ∨ T.hi ≤ (H.length : Int) + 1
  hir : T.reads ≠ [] → T.hi ≤ (H.length : Int) + 1
  seq : 0 ≤ T.seq ∧ T.seq ≤ 2 * (n : Int)
  len : T.reads.length ≤ n
  law : ∀ r ∈ T.reads, ∀ c : Nat, c ≤ H.length → T.lo ≤ (c : Int) → (c : Int) < T.hi → atV H r.key c = (r.has, r.data)
theorem atV_append {H : List (List Wr)} {ws : List Wr} {key : ByteArray} {c : Nat} (h : c ≤ H.length) : atV (H ++ [ws]) key c = atV H key c := by
  unfold atV; rw [List.take_append_of_le_length h]
theorem GoodT.append {T : TxS} {H : List (List Wr)} {low : Int} {n : Nat} (h : GoodT T H low n) (ws : List Wr) : GoodT T (H ++ [ws]) low n := by
  have hl : (H ++ [ws]).length = H.length + 1 := by simp
  refine ⟨h.st, h.id, by have := h.lo; rw [hl]; omega, by have := h.hi; rw [hl]; omega, fun hr => by have := h.hir hr; rw [hl]; omega, h.seq, h.len, fun r hr c hc h1 h2 => ?_⟩
  have := h.hir (fun e => by rw [e] at hr; cases hr)
  rw [atV_append (by omega)]
  exact h.law r hr c (by omega) h1 h2
theorem GoodT.mono {T : TxS} {H : List (List Wr)} {low : Int} {n n' : Nat} (h : GoodT T H low n) (hn : n ≤ n') : GoodT T H low n' :=
  ⟨h.st, h.id, h.lo, h.hi, h.hir, by have := h.seq; omega, by have := h.len; omega, h.law⟩
/-- The transaction when it reads from the origin. -/
def TxS.reading (T : TxS) (key : ByteArray) : TxS := (T.asks 1 key).asks 2 key
theorem c0_of {T : TxS} {H : List (List Wr)} {low : Int} {n : Nat} (h : GoodT T H low n) (hH : H.length ≤ 1000) : ∃ c0 : Nat, mnI (IntKind.i64.wrap (T.hi - 1)) (H.length : Int) = c0 ∧ c0 ≤ H.length ∧ T.lo ≤ (c0 : Int) ∧ (c0 : Int) < T.hi := by
  have h1 := h.lo
  have h2 := h.hi
  have e : IntKind.i64.wrap (T.hi - 1) = T.hi - 1 := wi64 (by omega)
  rw [e]
  refine ⟨(mnI (T.hi - 1) (H.length : Int)).toNat, ?_, ?_⟩
  · unfold mnI; split <;> omega
  · unfold mnI; split <;> omega
theorem seq_of {T : TxS} {H : List (List Wr)} {low : Int} {n : Nat} (h : GoodT T H low n) (hn : n ≤ 1000) (key : ByteArray) : (T.reading key).seq = T.seq + 2 := by
  have := h.seq
  show IntKind.i64.wrap (IntKind.i64.wrap (T.seq + 1) + 1) = _
  rw [wi64 (x := T.seq + 1) (by omega), wi64 (by omega)]; omega
theorem ofS_lt {a b : Int} (h : a < b) : ofS a b = (a, b) := if_neg (by omega)
theorem ask_law {T : TxS} {H : List (List Wr)} {low : Int} {n mo : Nat} (h : GoodT T H low n) (hH : H.length ≤ 1000) (hn : n ≤ 1000) (hm : 1 ≤ mo) (hu : ∀ ws ∈ H, (keysOf ws).Nodup) {key : ByteArray} (hk : goodK key = true) :
    (decide (mnI (IntKind.i64.wrap (T.hi - 1)) (H.length : Int) < ((St.run mo H).oldest key : Int)) = true ∧ (T.reading key).hear (toldM (St.run mo H) 3 (T.reading key).seq key T.hi) = ((T.reading key).rests 4 20, {}, true)) ∨
    (decide (mnI (IntKind.i64.wrap (T.hi - 1)) (H.length : Int) < ((St.run mo H).oldest key : Int)) = false ∧ ∃ T', (T.reading key).hear (toldM (St.run mo H) 3 (T.reading key).seq key T.hi) = (T', {}, true) ∧ GoodT T' H low (n + 1)) := by
  obtain ⟨c0, hc, h1, h2, h3⟩ := c0_of h hH
  have hid : (T.reading key).id = 3 := h.id
  have hst : (T.reading key).st = 2 := rfl
  have hseq := seq_of h hn key
  have hlast : ((St.run mo H).last : Int) = (H.length : Int) := rfl
  have r0 : (St.run mo H).read key (mnI (IntKind.i64.wrap (T.hi - 1)) (St.run mo H).last) = cond (decide ((c0 : Int) < ((St.run mo H).oldest key : Int))) (noF, 20) (factOf key ((St.run mo H).row key).list (place ((St.run mo H).row key).list c0), 0) := by
    rw [hlast, hc]
    unfold St.read
    rw [hk, hlast, show decide ((c0 : Int) < 0) = false from decide_eq_false (by omega), show decide ((c0 : Int) > (H.length : Int)) = false from decide_eq_false (by omega)]
    rfl
  rw [hc]
  unfold toldM
  rw [r0]
  cases hd : decide ((c0 : Int) < ((St.run mo H).oldest key : Int)) with
  | true =>
    left
    refine ⟨rfl, ?_⟩
    simp only [cond_true, show decide ((20 : Int) = 0) = false by decide, cond_false]
    unfold TxS.hear TxS.busy
    simp [hid, hst]
  | false =>
    right
    refine ⟨rfl, ?_⟩
    have ho : ((cut mo (vers H key)).oldest : Int) ≤ (c0 : Int) := by
      have := of_decide_eq_false hd
      have e : (St.run mo H).oldest key = (cut mo (vers H key)).oldest := rfl
      rw [e] at this; omega
    have hF := factOk_vers (key := key) hu (by omega) h1
    have e1 : factOf key ((St.run mo H).row key).list (place ((St.run mo H).row key).list c0) = factOf key (vers H key) (place (vers H key) c0) := fact_cut hm (versF_sorted key H 1) ho key
    rw [e1]
    generalize factOf key (vers H key) (place (vers H key) c0) = F at hF
    clear e1 r0 ho hd
    simp only [cond_false, show decide ((0 : Int) = 0) = true by decide, cond_true]
    have e2 : IntKind.i64.wrap (((St.run mo H).last : Int) + 1) = (H.length : Int) + 1 := by rw [hlast, wi64 (by omega)]
    rw [e2]
    obtain ⟨f1, f2⟩ := hF.lo
    obtain ⟨f3, f4⟩ := hF.hi
    have hpin : (T.reading key).pinT F.lo (mnI F.hi ((H.length : Int) + 1)) = (mxI T.lo F.lo, mnI T.hi (mnI F.hi ((H.length : Int) + 1))) := by
      unfold TxS.pinT nar
      have g1 : F.lo < mnI F.hi ((H.length : Int) + 1) := by unfold mnI; split <;> omega
      have g2 : (T.reading key).lo < (T.reading key).hi := h.lo.2.2.2
      rw [ofS_lt g1, ofS_lt g2]
      refine ofS_lt ?_
      show mxI T.lo F.lo < mnI T.hi (mnI F.hi ((H.length : Int) + 1))
      unfold mxI mnI
      split <;> split <;> split <;> omega
    have hlt : mxI T.lo F.lo ≤ (c0 : Int) ∧ (c0 : Int) < mnI T.hi (mnI F.hi ((H.length : Int) + 1)) := by
      unfold mxI mnI
      constructor
      · split <;> omega
      · split <;> split <;> omega
    have hfit : (T.reading key).fits F.lo (mnI F.hi ((H.length : Int) + 1)) = true := by
      unfold TxS.fits
      rw [hpin]
      simp; omega
    refine ⟨((T.reading key).took F.has F.data F.lo (mnI F.hi ((H.length : Int) + 1))).rests 0 0, ?_, ?_⟩
    · unfold TxS.hear TxS.busy
      simp only [hid, hst]
      have : (T.reading key).takes F.has F.data F.lo (mnI F.hi ((H.length : Int) + 1)) = ((T.reading key).took F.has F.data F.lo (mnI F.hi ((H.length : Int) + 1))).rests 0 0 := by
        unfold TxS.takes; rw [hfit]; rfl
      simp [this, hfit]
    · have l1 : (((T.reading key).took F.has F.data F.lo (mnI F.hi ((H.length : Int) + 1))).rests 0 0).lo = mxI T.lo F.lo := by
        show ((T.reading key).pinT F.lo _).1 = _; rw [hpin]
      have l2 : (((T.reading key).took F.has F.data F.lo (mnI F.hi ((H.length : Int) + 1))).rests 0 0).hi = mnI T.hi (mnI F.hi ((H.length : Int) + 1)) := by
        show ((T.reading key).pinT F.lo _).2 = _; rw [hpin]
      have l3 : (((T.reading key).took F.has F.data F.lo (mnI F.hi ((H.length : Int) + 1))).rests 0 0).reads = T.reads ++ [⟨key, F.has, F.data⟩] := rfl
      have l4 : mnI T.hi (mnI F.hi ((H.length : Int) + 1)) ≤ (H.length : Int) + 1 := by unfold mnI; split <;> split <;> omega
      have l5 : T.lo ≤ mxI T.lo F.lo ∧ F.lo ≤ mxI T.lo F.lo := by unfold mxI; split <;> omega
      have l6 : mnI T.hi (mnI F.hi ((H.length : Int) + 1)) ≤ T.hi ∧ mnI T.hi (mnI F.hi ((H.length : Int) + 1)) ≤ F.hi := by unfold mnI; split <;> split <;> omega
      have hlo := h.lo
      refine ⟨rfl, h.id, ?_, ?_, ?_, ?_, ?_, ?_⟩
      · rw [l1, l2]; omega
      · rw [l2]; exact .inr l4
      · rw [l2]; exact fun _ => l4
      · show 0 ≤ (T.reading key).seq ∧ (T.reading key).seq ≤ _
        rw [hseq]; have := h.seq; omega
      · rw [l3]; have := h.len; simp; omega
      · rw [l1, l2, l3]
        intro r hr c hc h1 h2
        rcases List.mem_append.1 hr with hr | hr
        · exact h.law r hr c hc (by omega) (by omega)
        · rw [List.mem_singleton.1 hr]
          exact hF.at_ c hc (by omega) (by omega)
/-- What a transaction turns. -/
def pTx (o : Blk) : Prop := isCells 141 o ∨ isRow 81 o
theorem pTx_c {t : TypeId} (h : t ≠ 141) (cs : List Value) : ¬ pTx (.cells cs t) := by
  rintro (q | q)
  · exact h q
  · exact q
theorem pTx_r {t : TypeId} (h : t ≠ 81) (cs : List Value) (r : Nat) : ¬ pTx (.row cs r t) := by
  rintro (q | q)
  · exact q
  · exact h q
theorem pTx_im (l : List (Int × Value)) : ¬ pTx (.im l) := by rintro (q | q) <;> exact q
theorem pTx_mp (l : List (ByteArray × Value)) : ¬ pTx (.mp l) := by rintro (q | q) <;> exact q
theorem pTx_ro (x) : ¬ pTx (.ro x) := by rintro (q | q) <;> exact q
theorem OR.tx {σ0 σ σ' : Hp} {go ms g m gl : Nat} {c : Cfg} {mo : Nat} {v : Value} {HS HL : List (List Wr)} {q : Int} (h : OR σ0 σ go ms g m gl c mo v HS HL q) (hs : KSame pTx σ σ') : OR σ0 σ' go ms g m gl c mo v HS HL q := by
  obtain ⟨l, h1, h2⟩ := h.ses
  exact ⟨h.ro, hs.sub h.ro h.sub pTx_ro, hs _ _ h.cell (pTx_c (by decide) _), ⟨l, hs _ _ h1 (pTx_im _), h2⟩, h.store.ks hs (pTx_c (by decide)) pTx_mp (pTx_r (by decide)), h.log.ks hs (pTx_c (by decide)) (pTx_r (by decide)) (pTx_r (by decide))⟩
theorem OR.box {σ0 σ σ' : Hp} {go ms g m gl : Nat} {c : Cfg} {mo : Nat} {v : Value} {HS HL : List (List Wr)} {q : Int} (h : OR σ0 σ go ms g m gl c mo v HS HL q) (hs : KSame (isCells 139) σ σ') : OR σ0 σ' go ms g m gl c mo v HS HL q := by
  obtain ⟨l, h1, h2⟩ := h.ses
  exact ⟨h.ro, hs.sub h.ro h.sub (fun _ x => x), hs _ _ h.cell (fun x => absurd (show (135 : Nat) = 139 from x) (by decide)), ⟨l, hs _ _ h1 (fun x => x), h2⟩, h.store.ks hs (fun _ x => absurd (show (100 : Nat) = 139 from x) (by decide)) (fun _ x => x) (fun _ _ x => x), h.log.ks hs (fun _ x => absurd (show (102 : Nat) = 139 from x) (by decide)) (fun _ _ x => x) (fun _ _ x => x)⟩
theorem TxAt.ks {σ σ' : Hp} {g : Nat} {T : TxS} {v : Value} {p : Blk → Prop} (h : TxAt 141 σ g T v) (hs : KSame p σ σ') (h1 : ∀ cs, ¬ p (.cells cs 141)) (h2 : ∀ cs r, ¬ p (.row cs r 81)) : TxAt 141 σ' g T v := ⟨hs _ _ h.1 (h1 _), h.2.ks hs h2⟩
theorem step_tx {σ σ' : Hp} {g : Nat} {T : TxS} {v v' : Value} (h : TxAt 141 σ g T v) (hs : Step σ g v σ' v') : KSame pTx σ σ' :=
  KSame.ofSame hs.1 fun k o hk ho => by
    rcases hk with rfl | hk
    · rw [h.1] at ho; cases ho; exact .inl rfl
    · rcases h.2 with ⟨rfl, _⟩ | ⟨b, c, rfl, _, hb⟩
      · cases hk
      · cases hk; rw [hb] at ho; cases ho; exact .inr rfl
theorem ks_off {p : Blk → Prop} {σ τ : Hp} {z : Nat} {X Y : Blk} (h : KSame p σ (upd τ z X)) (hz : σ z = none) : KSame p σ (upd τ z Y) := fun k o ho hp => by
  by_cases e : k = z
  · subst e; rw [hz] at ho; cases ho
  · have := h k o ho hp
    rw [upd_ne _ _ e] at this ⊢; exact this
theorem good_key {k : ByteArray} (h : goodK k = true) : goodF k false ⟨#[]⟩ 0 1 = true := by
  rw [goodK_alt, ← Bool.not_or] at h
  have h1 : badK k = false := by
    unfold badK
    cases e : (decide (k = ⟨#[]⟩) || decide ((k.size : Int) > 32)) with
    | false => rfl
    | true => rw [e] at h; cases h
  have h2 : badD false ⟨#[]⟩ = false := by decide +kernel
  have h3 : goodP 0 1 = true := by decide +kernel
  unfold goodF
  rw [h1, h2, h3]; rfl
theorem good_pin {lo hi : Int} (h0 : 0 ≤ lo) (h1 : lo ≤ 1000) (h2 : lo < hi) (h3 : hi = 4611686018427387904 ∨ hi ≤ 1001) : goodF ⟨#[107]⟩ false ⟨#[]⟩ lo hi = true := by
  have e1 : goodP lo hi = true := by
    unfold goodP
    rw [decide_eq_true (show lo ≥ 0 by omega), decide_eq_true (show lo ≤ 1099511627776 by omega), decide_eq_true (show hi > lo by omega)]
    rcases h3 with h | h
    · rw [decide_eq_true h]; rfl
    · rw [decide_eq_true (show hi ≤ 1099511627777 by omega), Bool.or_true]; rfl
  unfold goodF
  rw [e1]; decide +kernel
theorem read_of {T : TxS} {key : ByteArray} (h : T.st = 0) (hk : goodK key = true) : T.read key = match T.find key with | some x => (T, (x.has, x.data), {}, 0) | none => (T.asks 1 key, (false, ⟨#[]⟩), (T.asks 1 key).req, 0) := by
  unfold TxS.read TxS.busy
  rw [h, hk]; rfl
theorem hear_look {T : TxS} {key : ByteArray} : (T.asks 1 key).hear { kind := 4, tx := T.id, seq := (T.asks 1 key).seq } = (T.reading key, (T.reading key).req, true) := by
  unfold TxS.hear TxS.busy
  have h1 : (T.asks 1 key).st = 1 := rfl
  have h2 : (T.asks 1 key).id = T.id := rfl
  have h3 : (T.asks 1 key).key = key := rfl
  simp [h1, h2, h3]
  exact ⟨rfl, rfl⟩
/-- What ask answers. -/
def Asked (σ : Hp) (gt : Nat) (H : List (List Wr)) (low : Int) (n : Nat) (u : Value) (σ' : Hp) : Prop :=
  ∃ T' tv', TxAt 141 σ' gt T' tv' ∧ KSame pTx σ σ' ∧ ((u = .int .i64 1 ∧ GoodT T' H low (n + 1)) ∨ (u = .int .i64 2 ∧ T'.st = 4 ∧ T'.er = 20))
set_option maxHeartbeats 8000000 in
set_option maxRecDepth 20000 in
theorem ask29 {σ0 σ : Hp} {go ms g m gl gt : Nat} {c : Cfg} {mo : Nat} {v tv : Value} {H : List (List Wr)} {q low : Int} {n : Nat} {T : TxS} (hO : OR σ0 σ go ms g m gl c mo v H H q) (hT : TxAt 141 σ gt T tv) (hG : GoodT T H low n) (hmo : 1 ≤ mo ∧ mo ≤ 64) (hH : H.length ≤ 1000) (hn : n ≤ 500) (hu : ∀ ws ∈ H, (keysOf ws).Nodup) (key : ByteArray) (hk : goodK key = true) (hsz : key.size ≤ 140737488351232) :
    ACalls Try.prog 29 #[.pointer (some ⟨go, 0, none⟩), .pointer (some ⟨gt, 0, none⟩), .string key] σ (Asked σ gt H low n) := by
  have q1 := read60 hT.1 hT.2 key hsz (by have := hG.len; omega)
  rw [read_of hG.st hk] at q1
  have HO := Hid.mk hO
  have HG := Hid.mk (And.intro hG (And.intro hu (And.intro hk (And.intro hsz hT))))
  cases hf : T.find key with
  | some x =>
    simp only [hf] at q1
    have e1 : set σ gt (.cells (T.cells tv) 141) = σ := upd_self hT.1
    rw [e1] at q1
    clear hO hT hG hu hk hsz e1
    (refine acalls_F ok29 (by simp) ?_; unfold c29 r29)
    (repeat' (first | (simp +contextual -dsimp only [*, Msg.cells, bne_self_eq_false, Bool.not_true, Bool.not_false, ↓reduceIte, ↓evP, evQ, splice, Nat.reduceAdd, Nat.reduceEqDiff, Nat.reduceLeDiff, Nat.reduceMul, reduceCtorEq, Int.reduceLT, Int.reduceLE, Int.reduceGT, Int.reduceGE, Int.reduceEq, Int.reduceNeg]) | (refine condF_split (fun hc => ?_) (fun hc => ?_) <;> (try simp only [Bool.not_eq_true', Bool.not_eq_false', Bool.and_eq_true, Bool.or_eq_false_iff] at hc)) | refine callF_v (q1) ?_ | refine ccallF_of (q1) ?_ | refine gcallF_of (q1) ?_ | (intro _; intros) | (refine And.intro ?_ ?_; focus (first | omega | ((repeat (first | exact Sub.refl _ | (refine Sub.drop ?_ ?_; focus (simp only [evN, *]; done)) | refine Sub.both ?_)); done) | (simp_all; done) | (simp_all; omega)))))
    exact endF_sub (by (repeat (first | exact Sub.refl _ | (refine Sub.drop ?_ ?_; focus (simp only [evN, *]; done)) | refine Sub.both ?_)); done) ⟨T, tv, HG.out.2.2.2.2, KSame.refl _ _, .inl ⟨rfl, HG.out.1.mono (by omega)⟩⟩
  | none =>
    simp only [hf] at q1
    have hT1 : TxAt 141 (set σ gt (.cells ((T.asks 1 key).cells tv) 141)) gt (T.asks 1 key) tv := ⟨upd_same _ _ _, by
      refine hT.2.ks (p := isCells 141) ?_ (fun cs r x => x)
      exact (KSame.refl (isCells 141) _).turn hT.1 (show isCells 141 (.cells (T.cells tv) 141) from rfl) _⟩
    have hs1 : KSame pTx σ (set σ gt (.cells ((T.asks 1 key).cells tv) 141)) := (KSame.refl _ _).turn hT.1 (.inl rfl) _
    have hkn : ∀ k, set σ gt (.cells ((T.asks 1 key).cells tv) 141) k = none → σ k = none := fun k hk0 => by
      by_cases e : k = gt
      · subst e; have := hT1.1; rw [hk0] at this; cases this
      · rw [set_at, if_neg e] at hk0; exact hk0
    generalize set σ gt (.cells ((T.asks 1 key).cells tv) 141) = σ1 at q1 hT1 hs1 hkn
    have HT := Hid.mk (And.intro hT1 hs1)
    have hkind : decide ((T.asks 1 key).req.kind = 0) = false := rfl
    clear hO hT hG hu hk hsz hT1 hs1
    (refine acalls_F ok29 (by simp) ?_; unfold c29 r29; simp +contextual -dsimp only [Msg.cells, bne_self_eq_false, Bool.not_true, Bool.not_false, ↓reduceIte, ↓evP, evQ, splice, Nat.reduceAdd, Nat.reduceEqDiff, Nat.reduceLeDiff, Nat.reduceMul, reduceCtorEq, Int.reduceLT, Int.reduceLE, Int.reduceGT, Int.reduceGE, Int.reduceEq, Int.reduceNeg])
    refine callF_v q1 ?_
    (repeat' (first | (simp +contextual -dsimp only [*, Msg.cells, bne_self_eq_false, Bool.not_true, Bool.not_false, ↓reduceIte, ↓evP, evQ, splice, Nat.reduceAdd, Nat.reduceEqDiff, Nat.reduceLeDiff, Nat.reduceMul, reduceCtorEq, Int.reduceLT, Int.reduceLE, Int.reduceGT, Int.reduceGE, Int.reduceEq, Int.reduceNeg]) | (refine condF_split (fun hc => ?_) (fun hc => ?_) <;> (try simp only [Bool.not_eq_true', Bool.not_eq_false', Bool.and_eq_true, Bool.or_eq_false_iff] at hc)) | (intro _; intros) | (refine And.intro ?_ ?_; focus (first | omega | ((repeat (first | exact Sub.refl _ | (refine Sub.drop ?_ ?_; focus (simp only [evN, *]; done)) | refine Sub.both ?_)); done) | (simp_all; done) | (simp_all; omega)))))
    rename_i y y0 z z1 z1' z0
    refine ⟨rfl, ?_⟩
    have HZ := Hid.mk (hkn z z0)
    clear hkn
    obtain ⟨hT1, hs1⟩ := HT.out
    have hz : upd σ1 y (.cells [.bool false, .string ⟨#[]⟩] 31) z = none := (by simp only [evN, *]; done)
    have hs2 := ((KSame.refl pNo σ1).new y0 (.cells [.bool false, .string ⟨#[]⟩] 31)).trans ((KSame.refl pNo _).new hz (.cells (Msg.cells (T.asks 1 key).req) 139))
    have hT2 := hT1.ks hs2 (fun _ x => x) (fun _ _ x => x)
    have hzc : upd (upd σ1 y (.cells [.bool false, .string ⟨#[]⟩] 31)) z (.cells (Msg.cells (T.asks 1 key).req) 139) z = some (.cells (Msg.cells (T.asks 1 key).req) 139) := upd_same _ _ _
    have hs02 : KSame pTx σ (upd (upd σ1 y (.cells [.bool false, .string ⟨#[]⟩] 31)) z (.cells (Msg.cells (T.asks 1 key).req) 139)) := hs1.trans (hs2.mono fun _ x => x.elim)
    unfold Msg.cells at hzc hs02 hT2
    generalize hσ2 : upd (upd σ1 y _) z _ = σ2 at hT2 hzc hs02 ⊢
    clear hs2 hs1 hT1 hz q1
    have H2 := Hid.mk (And.intro hT2 (And.intro hzc hs02))
    clear hT2 hzc hs02 hσ2 y0 z0 z1 z1' HT hkind
    have hid : T.id = 3 := HG.out.1.id
    obtain ⟨sq, hsq⟩ : ∃ sq, sq = (T.reading key).seq := ⟨_, rfl⟩
    have hreq : (T.reading key).req = { kind := 5, tx := 3, seq := sq, key := key, lo := T.lo, hi := T.hi } := by
      rw [hsq, ← hid]; rfl
    have hq := hear61 H2.out.1 { kind := 4, tx := T.id, seq := (T.asks 1 key).seq } HG.out.2.2.2.1 (show (T.reads.length + 1) * 40 ≤ 140737488355328 by have := HG.out.1.len; omega)
    rw [hear_look, hreq] at hq
    refine callF_of hq ?_
    clear hq
    rintro u σ3 ⟨rfl, tv3, hT3, hst3⟩
    have hs3 := step_tx H2.out.1 hst3
    have hz3 := hs3 _ _ H2.out.2.1 (pTx_c (by decide) _)
    have HS := Hid.mk (And.intro hsq (And.intro hreq hid))
    clear hsq hreq hid
    obtain ⟨τ3, hτ3⟩ := open_upd hz3
    have hs4 : KSame (isCells 139) σ3 (upd τ3 z (.cells (Msg.cells { kind := 5, tx := 3, seq := sq, key := key, lo := T.lo, hi := T.hi }) 139)) := by
      rw [hτ3]; exact (KSame.refl (isCells 139) τ3).both (X := .cells _ 139) rfl _
    have hs04 : KSame pTx σ (upd τ3 z (.cells (Msg.cells { kind := 5, tx := 3, seq := sq, key := key, lo := T.lo, hi := T.hi }) 139)) := by
      have := H2.out.2.2.trans hs3
      rw [hτ3] at this
      exact ks_off this HZ.out
    have H04 := Hid.mk hs04
    have H3 := Hid.mk (And.intro hT3 (And.intro (H2.out.2.2.trans hs3) (And.intro hs4 hz3)))
    clear hT3 hst3 hs3 hs4 hz3 hs04
    have hO4 := (HO.out.tx H3.out.2.1).box H3.out.2.2.1
    have hT4 := H3.out.1.ks H3.out.2.2.1 (fun _ x => absurd (show (141 : Nat) = 139 from x) (by decide)) (fun _ _ x => x)
    have h4 := Hid.mk (And.intro hO4 hT4)
    have q26 := last26 hO4.cell hO4.store
    have q62 := oldest62 hO4.cell hO4.store key (rowOk_runM hmo H key).some
    have hseq := seq_of HG.out.1 (by omega) key
    have hG := HG.out.1
    have q57 := handleR hO4 hmo 3 sq (by rw [HS.out.1, hseq]; have := hG.seq; omega) (by rw [HS.out.1, hseq]; have := hG.seq; omega) (by decide) (by decide) key T.lo T.hi HG.out.2.2.2.1 (good_key HG.out.2.2.1) (good_pin (by have := hG.lo; omega) (by have := hG.lo; omega) (by have := hG.lo; omega) (by have := hG.hi; omega)) (by have := hG.lo; omega)
    unfold Msg.cells at q26 q62 q57
    rw [show (St.run mo H).last = H.length from rfl] at q26
    clear hO4 hT4 hseq hG
    rw [hτ3]
    clear hτ3
    have hlaw := ask_law HG.out.1 hH (by omega) hmo.1 HG.out.2.1 HG.out.2.2.1 (mo := mo)
    rw [← HS.out.1] at hlaw
    obtain ⟨B, hB⟩ : ∃ B, decide (mnI (IntKind.i64.wrap (T.hi - 1)) (H.length : Int) < ((St.run mo H).oldest key : Int)) = B := ⟨_, rfl⟩
    rw [hB] at hlaw
    have hlaw := Hid.mk hlaw
    (repeat' (first | (simp +contextual -dsimp only [*, Msg.cells, bne_self_eq_false, Bool.not_true, Bool.not_false, ↓reduceIte, ↓evP, evQ, splice, Nat.reduceAdd, Nat.reduceEqDiff, Nat.reduceLeDiff, Nat.reduceMul, reduceCtorEq, Int.reduceLT, Int.reduceLE, Int.reduceGT, Int.reduceGE, Int.reduceEq, Int.reduceNeg]) | (refine condF_split (fun hc => ?_) (fun hc => ?_) <;> (try simp only [Bool.not_eq_true', Bool.not_eq_false', Bool.and_eq_true, Bool.or_eq_false_iff] at hc)) | (intro _; intros) | (refine And.intro ?_ ?_; focus (first | omega | ((repeat (first | exact Sub.refl _ | (refine Sub.drop ?_ ?_; focus (simp only [evN, *]; done)) | refine Sub.both ?_)); done) | (simp_all; done) | (simp_all; omega)))))
    refine gcallF_of q26 ?_
    (repeat' (first | (simp +contextual -dsimp only [*, Msg.cells, bne_self_eq_false, Bool.not_true, Bool.not_false, ↓reduceIte, ↓evP, evQ, splice, Nat.reduceAdd, Nat.reduceEqDiff, Nat.reduceLeDiff, Nat.reduceMul, reduceCtorEq, Int.reduceLT, Int.reduceLE, Int.reduceGT, Int.reduceGE, Int.reduceEq, Int.reduceNeg]) | (refine condF_split (fun hc => ?_) (fun hc => ?_) <;> (try simp only [Bool.not_eq_true', Bool.not_eq_false', Bool.and_eq_true, Bool.or_eq_false_iff] at hc)) | (intro _; intros) | (refine And.intro ?_ ?_; focus (first | omega | ((repeat (first | exact Sub.refl _ | (refine Sub.drop ?_ ?_; focus (simp only [evN, *]; done)) | refine Sub.both ?_)); done) | (simp_all; done) | (simp_all; omega)))))
    refine gcallF_of q62 ?_
    (repeat' (first | (simp +contextual -dsimp only [*, Msg.cells, bne_self_eq_false, Bool.not_true, Bool.not_false, ↓reduceIte, ↓evP, evQ, splice, Nat.reduceAdd, Nat.reduceEqDiff, Nat.reduceLeDiff, Nat.reduceMul, reduceCtorEq, Int.reduceLT, Int.reduceLE, Int.reduceGT, Int.reduceGE, Int.reduceEq, Int.reduceNeg]) | (refine condF_split (fun hc => ?_) (fun hc => ?_) <;> (try simp only [Bool.not_eq_true', Bool.not_eq_false', Bool.and_eq_true, Bool.or_eq_false_iff] at hc)) | (intro _; intros) | (refine And.intro ?_ ?_; focus (first | omega | ((repeat (first | exact Sub.refl _ | (refine Sub.drop ?_ ?_; focus (simp only [evN, *]; done)) | refine Sub.both ?_)); done) | (simp_all; done) | (simp_all; omega)))))
    refine callF_of q57 ?_
    clear q26 q62 q57
    rintro u σ5 ⟨l, hR, hM⟩
    have hR : RowsAt 139 16 Msg.cells σ5 u (toldM (St.run mo H) 3 sq key T.hi :: l) := hR
    have hmw : (toldM (St.run mo H) 3 sq key T.hi).writes = .slice none 0 0 ∧ (toldM (St.run mo H) 3 sq key T.hi).keys = .slice none 0 0 := by
      unfold toldM
      cases decide (((St.run mo H).read key (mnI (IntKind.i64.wrap (T.hi - 1)) ((St.run mo H).last : Int))).2 = 0) <;> exact ⟨rfl, rfl⟩
    generalize toldM (St.run mo H) 3 sq key T.hi = M at hR hlaw hmw
    obtain ⟨hmw, hmk⟩ := hmw
    obtain ⟨Au, cu, rfl⟩ := hR.slice
    obtain ⟨b, off, e, hrd⟩ := (hR.ro Msg.cells_len).get (show 0 < (M :: l).length from Nat.succ_pos _)
    subst e
    have hrd : rdn σ5 b (off + Int.toNat 0 * 16) 16 = some (Msg.cells M) := hrd
    unfold Msg.cells at hrd
    rw [hmw, hmk] at hrd
    obtain ⟨N, hN⟩ : ∃ N, (M :: l).length = N := ⟨_, rfl⟩
    have hN1 : 1 ≤ N := by rw [← hN]; exact Nat.succ_pos _
    rw [hN]
    have d0 : decide ((N : Int) = 0) = false := by simp; omega
    have hN0 : (0 : Int) < (N : Int) := by omega
    have hT5 := h4.out.2.ks (KSame.made (p := pNo) hM.1) (fun _ x => x) (fun _ _ x => x)
    have q61 := hear61 hT5 M HG.out.2.2.2.1 (show (T.reads.length + 1) * 40 ≤ 140737488355328 by have := HG.out.1.len; omega)
    have H5 := Hid.mk (And.intro hT5 hM.1)
    obtain ⟨T', hhear, hT'⟩ : ∃ T', (T.reading key).hear M = (T', {}, true) ∧ ((B = true ∧ T'.st = 4 ∧ T'.er = 20 ∧ T'.reads.length ≤ n + 1) ∨ (B = false ∧ T'.st = 0 ∧ GoodT T' H low (n + 1))) := by
      rcases hlaw.out with ⟨h1, h2⟩ | ⟨h1, T', h2, h3⟩
      · exact ⟨_, h2, .inl ⟨h1, rfl, rfl, show T.reads.length ≤ n + 1 by have := HG.out.1.len; omega⟩⟩
      · exact ⟨_, h2, .inr ⟨h1, h3.st, h3⟩⟩
    rw [hhear] at q61
    unfold Msg.cells at q61
    rw [hmw, hmk] at q61
    clear hR hM hN hlaw hT5 hhear hN1
    (repeat' (first | (simp +contextual -dsimp only [*, Msg.cells, bne_self_eq_false, Bool.not_true, Bool.not_false, ↓reduceIte, ↓evP, evQ, splice, Nat.reduceAdd, Nat.reduceEqDiff, Nat.reduceLeDiff, Nat.reduceMul, reduceCtorEq, Int.reduceLT, Int.reduceLE, Int.reduceGT, Int.reduceGE, Int.reduceEq, Int.reduceNeg]) | (refine condF_split (fun hc => ?_) (fun hc => ?_) <;> (try simp only [Bool.not_eq_true', Bool.not_eq_false', Bool.and_eq_true, Bool.or_eq_false_iff] at hc)) | (intro _; intros) | (refine And.intro ?_ ?_; focus (first | omega | ((repeat (first | exact Sub.refl _ | (refine Sub.drop ?_ ?_; focus (simp only [evN, *]; done)) | refine Sub.both ?_)); done) | (simp_all; done) | (simp_all; omega)))))
    refine callF_of q61 ?_
    clear q61
    rintro u σ6 ⟨rfl, tv6, hT6, hst6⟩
    have hs6 := step_tx H5.out.1 hst6
    have q28 := view28 hT6 (show T'.reads.length * 40 ≤ 140737488355328 by
      rcases hT' with ⟨_, _, _, h⟩ | ⟨_, _, h⟩
      · omega
      · have := h.len; omega)
    have H6 := Hid.mk (And.intro hT6 ((H04.out.trans (KSame.made H5.out.2)).trans hs6))
    clear hT6 hst6 hs6
    (repeat' (first | (simp +contextual -dsimp only [*, Msg.cells, bne_self_eq_false, Bool.not_true, Bool.not_false, ↓reduceIte, ↓evP, evQ, splice, Nat.reduceAdd, Nat.reduceEqDiff, Nat.reduceLeDiff, Nat.reduceMul, reduceCtorEq, Int.reduceLT, Int.reduceLE, Int.reduceGT, Int.reduceGE, Int.reduceEq, Int.reduceNeg]) | (refine condF_split (fun hc => ?_) (fun hc => ?_) <;> (try simp only [Bool.not_eq_true', Bool.not_eq_false', Bool.and_eq_true, Bool.or_eq_false_iff] at hc)) | (intro _; intros) | (refine And.intro ?_ ?_; focus (first | omega | ((repeat (first | exact Sub.refl _ | (refine Sub.drop ?_ ?_; focus (simp only [evN, *]; done)) | refine Sub.both ?_)); done) | (simp_all; done) | (simp_all; omega)))))
    refine callF_of q28 ?_
    clear q28
    rintro u σ7 ⟨v7, rfl, hR7, hM7⟩
    obtain ⟨A7, c7, rfl⟩ := hR7.slice
    have H7 := Hid.mk (And.intro (H6.out.1.ks (KSame.made (p := pNo) hM7.1) (fun _ x => x) (fun _ _ x => x)) (H6.out.2.trans (KSame.made hM7.1)))
    clear hR7 hM7
    unfold TxS.view
    rcases hT' with ⟨rfl, h1, h2, _⟩ | ⟨rfl, h1, h2⟩
    · (repeat' (first | (simp +contextual -dsimp only [*, Msg.cells, bne_self_eq_false, Bool.not_true, Bool.not_false, ↓reduceIte, ↓evP, evQ, splice, Nat.reduceAdd, Nat.reduceEqDiff, Nat.reduceLeDiff, Nat.reduceMul, reduceCtorEq, Int.reduceLT, Int.reduceLE, Int.reduceGT, Int.reduceGE, Int.reduceEq, Int.reduceNeg]) | (refine condF_split (fun hc => ?_) (fun hc => ?_) <;> (try simp only [Bool.not_eq_true', Bool.not_eq_false', Bool.and_eq_true, Bool.or_eq_false_iff] at hc)) | (intro _; intros) | (refine And.intro ?_ ?_; focus (first | omega | ((repeat (first | exact Sub.refl _ | (refine Sub.drop ?_ ?_; focus (simp only [evN, *]; done)) | refine Sub.both ?_)); done) | (simp_all; done) | (simp_all; omega)))))
      exact endF_sub (by (repeat (first | exact Sub.refl _ | (refine Sub.drop ?_ ?_; focus (simp only [evN, *]; done)) | refine Sub.both ?_)); done) ⟨T', tv6, H7.out.1, H7.out.2, .inr ⟨rfl, h1, h2⟩⟩
    · have h2 := Hid.mk h2
      (repeat' (first | (simp +contextual -dsimp only [*, Msg.cells, bne_self_eq_false, Bool.not_true, Bool.not_false, ↓reduceIte, ↓evP, evQ, splice, Nat.reduceAdd, Nat.reduceEqDiff, Nat.reduceLeDiff, Nat.reduceMul, reduceCtorEq, Int.reduceLT, Int.reduceLE, Int.reduceGT, Int.reduceGE, Int.reduceEq, Int.reduceNeg]) | (refine condF_split (fun hc => ?_) (fun hc => ?_) <;> (try simp only [Bool.not_eq_true', Bool.not_eq_false', Bool.and_eq_true, Bool.or_eq_false_iff] at hc)) | (intro _; intros) | (refine And.intro ?_ ?_; focus (first | omega | ((repeat (first | exact Sub.refl _ | (refine Sub.drop ?_ ?_; focus (simp only [evN, *]; done)) | refine Sub.both ?_)); done) | (simp_all; done) | (simp_all; omega)))))
      exact endF_sub (by (repeat (first | exact Sub.refl _ | (refine Sub.drop ?_ ?_; focus (simp only [evN, *]; done)) | refine Sub.both ?_)); done) ⟨T', tv6, H7.out.1, H7.out.2, .inl ⟨rfl, h2.out⟩⟩
theorem pOr_c {t : TypeId} (h : t ≠ 100) (h2 : t ≠ 102) (cs : List Value) : ¬ pOr (.cells cs t) := by
  rintro (q | q | q | q | q | q)
  · exact q
  · exact h q
  · exact q
  · exact h2 q
  · exact q
  · exact q
theorem pOr_r {t : TypeId} (h : t ≠ 36) (h2 : t ≠ 139) (cs : List Value) (r : Nat) : ¬ pOr (.row cs r t) := by
  rintro (q | q | q | q | q | q)
  · exact q
  · exact q
  · exact q
  · exact q
  · exact h q
  · exact h2 q
theorem OR.past {σ0 σ σ' : Hp} {go ms g m gl : Nat} {c : Cfg} {mo : Nat} {v : Value} {HS HL : List (List Wr)} {q : Int} (h : OR σ0 σ go ms g m gl c mo v HS HL q) (hs : KSame (isRow 35) σ σ') : OR σ0 σ' go ms g m gl c mo v HS HL q := by
  obtain ⟨l, h1, h2⟩ := h.ses
  refine ⟨h.ro, hs.sub h.ro h.sub (fun _ x => x), hs _ _ h.cell (fun x => x), ⟨l, hs _ _ h1 (fun x => x), h2⟩, h.store.ks hs (fun _ x => x) (fun _ x => x) ?_, h.log.ks hs (fun _ x => x) ?_ ?_⟩
  · exact fun cs r q => absurd (show (109 : Nat) = 35 from q) (by decide)
  · exact fun cs r q => absurd (show (36 : Nat) = 35 from q) (by decide)
  · exact fun cs r q => absurd (show (9 : Nat) = 35 from q) (by decide)
/-- What the law's commit turns. -/
def pCom (o : Blk) : Prop := pOr o ∨ isRow 35 o
/-- After the law's commit: the history is longer by this commit, or as it was. -/
def Comd (σ0 σ : Hp) (go ms g m gl : Nat) (c : Cfg) (mo : Nat) (H : List (List Wr)) (seq : Int) (ws : List Wr) (u : Value) (σ' : Hp) : Prop :=
  KSame pCom σ σ' ∧ ∃ H' v', OR σ0 σ' go ms g m gl c mo v' H' H' seq ∧ PastAt σ0 σ' u H' ∧ (H' = H ∨ (H' = H ++ [ws] ∧ GoodWs ws))
set_option maxHeartbeats 1000000 in
theorem commit25 {σ0 σ : Hp} {go ms g m gl : Nat} {c : Cfg} {mo : Nat} {v pv : Value} {H : List (List Wr)} {q : Int} (h : OR σ0 σ go ms g m gl c mo v H H q) (hP : PastAt σ0 σ pv H) (hcn : c.nodes = 1) (hmo : 1 ≤ mo ∧ mo ≤ 64) (hH : H.length ≤ 1000) (seq : Int) (hseq : q < seq) (h1 : 1 ≤ seq) (h2 : seq ≤ 2147483647) {w : Value} {ws : List Wr} (hw : RoRows 3 Wr.cells σ0 w ws) (hn : ws.length ≤ 140737488355328) :
    ACalls Try.prog 25 #[.pointer (some ⟨go, 0, none⟩), .int .i64 seq, w, pv] σ (Comd σ0 σ go ms g m gl c mo H seq ws) := by
  have q57 := handleC h hcn hmo hH seq hseq h1 h2 hw hn
  have HP := Hid.mk (And.intro hP (And.intro hw hn))
  obtain ⟨A, cap, rfl⟩ : ∃ A c, w = .slice A ws.length c := by obtain ⟨A, c, rfl, _⟩ := hw; exact ⟨A, c, rfl⟩
  obtain ⟨pA, pcap, rfl⟩ := hP.slice
  clear h hP hw hn hcn
  unfold Msg.cells at q57
  (refine acalls_F ok25 (by simp) ?_; unfold c25 r25; simp +contextual -dsimp only [Msg.cells, ↓reduceIte, ↓evP, evQ, splice, Nat.reduceAdd, Nat.reduceEqDiff, Nat.reduceLeDiff, Nat.reduceMul, reduceCtorEq, Int.reduceLT, Int.reduceLE, Int.reduceGT, Int.reduceGE, Int.reduceEq, Int.reduceNeg])
  refine callF_of q57 ?_
  clear q57
  rintro u σ1 ⟨A1, n1, cap1, rfl, hs, (⟨hn1, hO⟩ | ⟨rfl, hg, v', hO⟩)⟩
  · have hd : decide ((n1 : Int) > 1) = false := by simp; omega
    have H1 := Hid.mk (And.intro hs hO)
    clear hs hO
    (repeat' (first | (simp +contextual -dsimp only [*, Msg.cells, ↓reduceIte, ↓evP, evQ, splice, Nat.reduceAdd, Nat.reduceEqDiff, Nat.reduceLeDiff, Nat.reduceMul, reduceCtorEq, Int.reduceLT, Int.reduceLE, Int.reduceGT, Int.reduceGE, Int.reduceEq, Int.reduceNeg]) | (refine condF_split (fun hc => ?_) (fun hc => ?_) <;> (try simp only [Bool.not_eq_true', Bool.not_eq_false', Bool.and_eq_true, Bool.or_eq_false_iff] at hc)) | (intro _; intros) | (refine And.intro ?_ ?_; focus (first | omega | ((repeat (first | exact Sub.refl _ | (refine Sub.drop ?_ ?_; focus (simp only [evN, *]; done)) | refine Sub.both ?_)); done) | (simp_all; done) | (simp_all; omega)))))
    exact endF_at ⟨H1.out.1.mono (fun _ x => .inl x), H, v, H1.out.2, HP.out.1.ks H1.out.1 (pOr_r (by decide) (by decide)), .inl rfl⟩
  · have H1 := Hid.mk (And.intro hs (And.intro hO hg))
    clear hs hO hg
    (repeat' (first | (simp +contextual -dsimp only [*, Msg.cells, ↓reduceIte, ↓evP, evQ, splice, Nat.reduceAdd, Nat.reduceEqDiff, Nat.reduceLeDiff, Nat.reduceMul, reduceCtorEq, Int.reduceLT, Int.reduceLE, Int.reduceGT, Int.reduceGE, Int.reduceEq, Int.reduceNeg]) | (refine condF_split (fun hc => ?_) (fun hc => ?_) <;> (try simp only [Bool.not_eq_true', Bool.not_eq_false', Bool.and_eq_true, Bool.or_eq_false_iff] at hc)) | (intro _; intros) | (refine And.intro ?_ ?_; focus (first | omega | ((repeat (first | exact Sub.refl _ | (refine Sub.drop ?_ ?_; focus (simp only [evN, *]; done)) | refine Sub.both ?_)); done) | (simp_all; done) | (simp_all; omega)))))
    rename_i b hb
    obtain ⟨vs, hr, hl, hk⟩ := HP.out.1.ks H1.out.1 (pOr_r (by decide) (by decide))
    have hr2 := hr.fresh hb (.row [.slice A ws.length cap] 1 35)
    refine app_rowv (ys := [.slice A ws.length cap]) vC_len hr2 rfl (by first | (simp only [Nat.reduceMul, Nat.one_mul, Nat.zero_mul, rdn_row, rdn_same, rdn_ne, seg_zero, seg_cons, seg_skip, Option.map_some, not_false_eq_true, *]; done) | (simp only [Nat.reduceMul, Nat.one_mul, Nat.zero_mul, rdn_row, rdn_same, rdn_ne, seg_zero, seg_cons, seg_skip, Option.map_some, not_false_eq_true, *]; exact rfl)) rfl (by decide) (by omega) (by unfold maxLen; omega) ?_
    intro u' σ' hv' hG
    have hks : KSame (isRow 35) σ1 σ' := ((KSame.refl _ _).new hb _).trans (hG.ks hr2)
    have HQ := Hid.mk (And.intro hv' hks)
    clear hv' hG hks hr hr2
    (repeat' (first | (simp +contextual -dsimp only [*, Msg.cells, ↓reduceIte, ↓evP, evQ, splice, Nat.reduceAdd, Nat.reduceEqDiff, Nat.reduceLeDiff, Nat.reduceMul, reduceCtorEq, Int.reduceLT, Int.reduceLE, Int.reduceGT, Int.reduceGE, Int.reduceEq, Int.reduceNeg]) | (refine condF_split (fun hc => ?_) (fun hc => ?_) <;> (try simp only [Bool.not_eq_true', Bool.not_eq_false', Bool.and_eq_true, Bool.or_eq_false_iff] at hc)) | (intro _; intros) | (refine And.intro ?_ ?_; focus (first | omega | ((repeat (first | exact Sub.refl _ | (refine Sub.drop ?_ ?_; focus (simp only [evN, *]; done)) | refine Sub.both ?_)); done) | (simp_all; done) | (simp_all; omega)))))
    refine endF_at ⟨(H1.out.1.mono fun _ x => .inl x).trans (HQ.out.2.mono fun _ x => .inr x), H ++ [ws], v', H1.out.2.1.past HQ.out.2, ⟨vs ++ [.slice A ws.length cap], HQ.out.1, by simp [hl], fun i x l hx hL => ?_⟩, .inr ⟨rfl, H1.out.2.2⟩⟩
    by_cases hi : i < vs.length
    · rw [List.getElem?_append_left hi] at hx
      rw [List.getElem?_append_left (by omega)] at hL
      exact hk i x l hx hL
    · have e : i = vs.length := by
        have := (List.getElem?_eq_some_iff.1 hx).1
        simp at this; omega
      subst e
      rw [List.getElem?_append_right (by omega), Nat.sub_self] at hx
      rw [List.getElem?_append_right (by omega), hl, Nat.sub_self] at hL
      cases hx; cases hL
      exact ⟨HP.out.2.1, HP.out.2.2⟩
theorem _root_.Go.Sp.gcallF_beside {P : Program} {f : FuncId} {args : List Value} {σ₀ σ : Hp} {R K : Value → Hp → Prop} {δ : Dep K} (h : ACalls P f args.toArray σ₀ R) (h0 : Sub σ₀ σ) (hs : ∀ v σ₁, R v σ₁ → Sub σ₀ σ₁)
    (hk : ∀ v σ₁ σm, R v σ₁ → Sub σ₁ σm → Same (fun _ => False) σ σm → (∀ k, σ₁ k = none → σm k = σ k) → (∀ k, σ₁ k ≠ none → σ₀ k = none → σ k = none) → K v σm) : gcallF P f args σ₀ σ K δ :=
  ⟨R, h, fun v σ₁ hr _ => ⟨hs v σ₁ hr, fun hd => hk v σ₁ _ hr (fun k => by
    unfold mrg
    cases e0 : σ₀ k with
    | none =>
      cases e1 : σ₁ k with
      | none => exact .inl rfl
      | some o => exact .inr rfl
    | some o =>
      have e1 : σ₁ k = some o := by rcases hs v σ₁ hr k with e | e
                                    · rw [e0] at e; cases e
                                    · rw [← e, e0]
      rw [e1]
      rcases h0 k with e | e
      · rw [e0] at e; cases e
      · exact .inr (by dsimp only; rw [← e, e0])) (fun k hk _ => by
    unfold mrg
    cases e0 : σ₀ k with
    | none =>
      cases e1 : σ₁ k with
      | none => rfl
      | some o => exact absurd (hd k e0 (by rw [e1]; simp)) hk
    | some o => rfl) (fun k hk => by
    unfold mrg
    rw [hk]
    cases σ₀ k <;> rfl) (fun k h1 h2 => hd k h2 h1)⟩⟩
theorem held_nodes (v : Int) : ({ nodes := 1, bytes := 0, spans := 0, gap := 0, recent := 0, versions := v, protect := 0, retries := 0 } : Cfg).held.nodes = 1 := by show mnI (mxI 1 1) 8 = 1; decide
theorem new_run0 (mo : Nat) (σ : Hp) {m g : Nat} (hgm : ¬ g = m) : StoreAt (upd (upd σ m (.mp [])) g (.cells [.map (some m), .int .i64 mo, .int .i64 0] 100)) g m (St.run mo []) :=
  ⟨upd_same _ _ _, [], by rw [upd_ne _ _ (fun e => hgm e.symm), upd_same], fun k => ⟨.slice none 0 0, by show _ = Value.agg #[_, .bool (cut mo []).dropped]; rfl, .inl ⟨rfl, rfl⟩⟩⟩
set_option maxHeartbeats 1000000 in
theorem new24 (c : Cfg) {mo : Nat} (hmo : mnI (mxI c.held.versions 1) 64 = mo) {σ : Hp} (hro : RoHeap σ) : ACalls Try.prog 24 #[.agg c.cells.toArray] σ fun u σ' => ∃ go ms g m gl, u = .pointer (some ⟨go, 0, none⟩) ∧ OR σ σ' go ms g m gl c.held mo (.slice none 0 0) [] [] 0 := by
  have HH := Hid.mk (And.intro hro hmo)
  clear hro hmo
  (refine acalls_F ok24 (by simp) ?_; unfold c24 r24)
  (repeat' (first | (simp +contextual -dsimp only [*, Msg.cells, Cfg.cells, ↓reduceIte, ↓evP, evQ, splice, Nat.reduceAdd, Nat.reduceEqDiff, Nat.reduceLeDiff, Nat.reduceMul, reduceCtorEq, Int.reduceLT, Int.reduceLE, Int.reduceGT, Int.reduceGE, Int.reduceEq, Int.reduceNeg]) | (refine condF_split (fun hc => ?_) (fun hc => ?_) <;> (try simp only [Bool.not_eq_true', Bool.not_eq_false', Bool.and_eq_true, Bool.or_eq_false_iff] at hc)) | refine callF_v (held56 _ _) ?_ | refine ccallF_of (held56 _ _) ?_ | refine gcallF_of (held56 _ _) ?_ | (intro _; intros) | (refine And.intro ?_ ?_; focus (first | omega | ((repeat (first | exact Sub.refl _ | (refine Sub.drop ?_ ?_; focus (simp only [evN, *]; done)) | refine Sub.both ?_)); done) | (simp_all; done) | (simp_all; omega)))))
  rename_i x hx
  refine gcallF_first (new7 c.held.versions _) (fun u σ' h => by obtain ⟨m, g, hm, hg, hgm, _, rfl⟩ := h; refine Sub.drop hg (Sub.drop hm (Sub.refl _))) ?_
  rintro u σ1 ⟨m, g, hm, hg, hgm, rfl, hσ1⟩
  rw [HH.out.2] at hσ1
  have hst : StoreAt σ1 g m (St.run mo []) := by rw [hσ1]; exact new_run0 mo _ hgm
  have hsub1 : Sub (upd σ x (.cells [.int .i64 c.held.nodes, .int .i64 c.held.bytes, .int .i64 c.held.spans, .int .i64 c.held.gap, .int .i64 c.held.recent, .int .i64 c.held.versions, .int .i64 c.held.protect, .int .i64 c.held.retries] 66)) σ1 := by
    rw [hσ1]; exact Sub.drop hg (Sub.drop hm (Sub.refl _))
  have hsx : Sub σ (upd σ x (.cells [.int .i64 c.held.nodes, .int .i64 c.held.bytes, .int .i64 c.held.spans, .int .i64 c.held.gap, .int .i64 c.held.recent, .int .i64 c.held.versions, .int .i64 c.held.protect, .int .i64 c.held.retries] 66)) := Sub.drop hx (Sub.refl _)
  generalize upd σ x (.cells [.int .i64 c.held.nodes, .int .i64 c.held.bytes, .int .i64 c.held.spans, .int .i64 c.held.gap, .int .i64 c.held.recent, .int .i64 c.held.versions, .int .i64 c.held.protect, .int .i64 c.held.retries] 66) = σx at hsub1 hsx ⊢
  have H1 := Hid.mk (And.intro hst (And.intro hsub1 hsx))
  clear hst hsub1 hsx hσ1 hm hg hgm hx
  simp +contextual -dsimp only [*, Msg.cells, Cfg.cells, ↓reduceIte, ↓evP, evQ, splice, Nat.reduceAdd, Nat.reduceEqDiff, Nat.reduceLeDiff, Nat.reduceMul, reduceCtorEq, Int.reduceLT, Int.reduceLE, Int.reduceGT, Int.reduceGE, Int.reduceEq, Int.reduceNeg]
  refine gcallF_beside (new8 σx) H1.out.2.1 (fun u σ' h => by obtain ⟨gl, hgl, _, rfl⟩ := h; exact Sub.drop hgl (Sub.refl _)) ?_
  rintro u σ2 σm ⟨gl, hgl, rfl, hσ2⟩ hsm hsame hnone hdisj
  have hglc : σm gl = some (.cells [.slice none 0 0] 102) := by
    rcases hsm gl with e | e
    · rw [hσ2, upd_same] at e; cases e
    · rw [← e, hσ2, upd_same]
  have H2 := Hid.mk (And.intro hglc (And.intro (H1.out.1.ks (KSame.made (p := pNo) hsame) (fun _ x => x) (fun _ x => x) (fun _ _ x => x)) ((H1.out.2.2.trans H1.out.2.1).trans hsame.sub)))
  clear hσ2 hsm hsame hnone hdisj hglc hgl
  (repeat' (first | (simp +contextual -dsimp only [*, Msg.cells, Cfg.cells, ↓reduceIte, ↓evP, evQ, splice, Nat.reduceAdd, Nat.reduceEqDiff, Nat.reduceLeDiff, Nat.reduceMul, reduceCtorEq, Int.reduceLT, Int.reduceLE, Int.reduceGT, Int.reduceGE, Int.reduceEq, Int.reduceNeg]) | (refine condF_split (fun hc => ?_) (fun hc => ?_) <;> (try simp only [Bool.not_eq_true', Bool.not_eq_false', Bool.and_eq_true, Bool.or_eq_false_iff] at hc)) | (intro _; intros) | (refine And.intro ?_ ?_; focus (first | omega | ((repeat (first | exact Sub.refl _ | (refine Sub.drop ?_ ?_; focus (simp only [evN, *]; done)) | refine Sub.both ?_)); done) | (simp_all; done) | (simp_all; omega)))))
  rename_i ms ms0 go go1 go1' go0
  have hgo : upd σm ms (.im []) go = none := (by simp only [evN, *]; done)
  have hks : KSame pNo σm (upd (upd σm ms (.im [])) go (.cells (orC c.held g gl ms) 135)) := ((KSame.refl _ _).new ms0 _).trans ((KSame.refl _ _).new hgo _)
  exact endF_at ⟨go, ms, g, m, gl, rfl, HH.out.1, Sub.drop (by
    have := (Sub.drop (o := .im []) (H2.out.2.2.noneAt ms0) H2.out.2.2)
    exact this.noneAt hgo) (Sub.drop (H2.out.2.2.noneAt ms0) H2.out.2.2), upd_same _ _ _, ⟨[], by rw [upd_ne _ _ go1', upd_same], 0, 0, 0, rfl, Int.le_refl _⟩, H2.out.2.1.ks hks (fun _ x => x) (fun _ x => x) (fun _ _ x => x), ⟨hks _ _ H2.out.1 (fun x => x), [], .inl ⟨rfl, rfl⟩, rfl, fun i x l h => by cases h⟩⟩
theorem finish_of {T : TxS} {H : List (List Wr)} {low : Int} {n : Nat} (h : GoodT T H low n) (hH : H.length ≤ 1000) : ∃ c : Nat, T.finish = (T.rests 3 0, (c : Int), 0) ∧ c ≤ H.length ∧ low ≤ (c : Int) ∧ T.lo ≤ (c : Int) ∧ (c : Int) < T.hi := by
  have hl := h.lo
  have hh := h.hi
  have e : T.finish = (T.rests 3 0, cond (decide (T.hi = 4611686018427387904)) T.lo (IntKind.i64.wrap (T.hi - 1)), 0) := by
    unfold TxS.finish TxS.busy; rw [h.st]; rfl
  rw [e]
  by_cases hi : T.hi = 4611686018427387904
  · rw [decide_eq_true hi]
    exact ⟨T.lo.toNat, by show (_, T.lo, _) = _; rw [show ((T.lo.toNat : Nat) : Int) = T.lo by omega], by omega, by omega, by omega, by omega⟩
  · rw [decide_eq_false hi]
    have e1 : IntKind.i64.wrap (T.hi - 1) = T.hi - 1 := wi64 (by omega)
    exact ⟨(T.hi - 1).toNat, by show (_, IntKind.i64.wrap (T.hi - 1), _) = _; rw [e1, show (((T.hi - 1).toNat : Nat) : Int) = T.hi - 1 by omega], by omega, by omega, by omega, by omega⟩
set_option maxHeartbeats 4000000 in
theorem tail5 {σ0 σ : Hp} {go ms g m gl gt : Nat} {c : Cfg} {mo : Nat} {v tv pv : Value} {H : List (List Wr)} {q : Int} {low : Int} {n : Nat} {T : TxS} (hO : OR σ0 σ go ms g m gl c mo v H H q) (hP : PastAt σ0 σ pv H) (hT : TxAt 141 σ gt T tv) (hG : GoodT T H low n) (hn : n ≤ 500) (hH : H.length ≤ 1000)
    {s : Sl} (s9 : s 9 = .pointer (some ⟨go, 0, none⟩)) (s10 : s 10 = pv) (s12 : s 12 = .int .i64 low) (s13 : s 13 = .pointer (some ⟨gt, 0, none⟩)) :
    codeF Try.prog c5_t2 (fin r5 fun u σ' => u = .bool true ∧ σ' = σ0) s σ ⟨⟩ := by
  obtain ⟨cc, hf, hc1, hc2, hc3, hc4⟩ := finish_of hG hH
  have q28 := view28 hT (by have := hG.len; omega)
  have hlen := hG.len
  have H0 := Hid.mk (And.intro hO (And.intro hP (And.intro hT hG)))
  have HF := Hid.mk hf
  obtain ⟨pA, pcap, rfl⟩ := hP.slice
  clear hO hP hT hG hf
  unfold c5_t2 r5
  simp +contextual -dsimp only [*, TxS.view, bne_self_eq_false, Bool.not_true, Bool.not_false, beq_self_eq_true, ↓reduceIte, ↓evP, evQ, splice, Nat.reduceAdd, Nat.reduceEqDiff, Nat.reduceLeDiff, Nat.reduceMul, reduceCtorEq, Int.reduceLT, Int.reduceLE, Int.reduceGT, Int.reduceGE, Int.reduceEq, Int.reduceNeg]
  refine callF_of q28 ?_
  clear q28
  rintro u σ1 ⟨v1, rfl, hR1, hM1⟩
  have hks1 : KSame pNo σ σ1 := KSame.made hM1.1
  have hT1 := H0.out.2.2.1.ks hks1 (fun _ x => x) (fun _ _ x => x)
  have q30 := finish30 hT1.1
  rw [HF.out] at q30
  have hks2 : KSame (isCells 141) σ1 (set σ1 gt (.cells ((T.rests 3 0).cells tv) 141)) := (KSame.refl (isCells 141) _).turn hT1.1 (show isCells 141 (.cells (T.cells tv) 141) from rfl) _
  have hR2 := hR1.ks hks2 (fun _ _ x => x)
  generalize set σ1 gt (.cells ((T.rests 3 0).cells tv) 141) = σ2 at q30 hks2 hR2
  have hO2 := (H0.out.1.fresh hks1).tx (hks2.mono fun _ x => .inl x)
  have hP2 := (H0.out.2.1.ks hks1 (fun _ _ x => x)).ks hks2 (fun _ _ x => x)
  have q26 := last26 hO2.cell hO2.store
  rw [show (St.run mo H).last = H.length from rfl] at q26
  obtain ⟨A1, c1, rfl⟩ := hR1.slice
  have H2 := Hid.mk (And.intro hO2 (And.intro hP2 hR2))
  clear hR1 hM1 hks1 hT1 hks2 hR2 hO2 hP2
  have d1 : decide ((cc : Int) < low) = false := by simp; omega
  have d2 : decide ((cc : Int) > (H.length : Int)) = false := by simp; omega
  (repeat' (first | (simp +contextual -dsimp only [*, TxS.view, bne_self_eq_false, Bool.not_true, Bool.not_false, beq_self_eq_true, ↓reduceIte, ↓evP, evQ, splice, Nat.reduceAdd, Nat.reduceEqDiff, Nat.reduceLeDiff, Nat.reduceMul, reduceCtorEq, Int.reduceLT, Int.reduceLE, Int.reduceGT, Int.reduceGE, Int.reduceEq, Int.reduceNeg]) | (refine condF_split (fun hc => ?_) (fun hc => ?_) <;> (try simp only [Bool.not_eq_true', Bool.not_eq_false', Bool.and_eq_true, Bool.or_eq_false_iff] at hc)) | refine callF_v (q30) ?_ | refine callF_v (q26) ?_ | refine ccallF_of (q30) ?_ | refine ccallF_of (q26) ?_ | refine gcallF_of (q30) ?_ | refine gcallF_of (q26) ?_ | (intro _; intros) | (refine And.intro ?_ ?_; focus (first | omega | ((repeat (first | exact Sub.refl _ | (refine Sub.drop ?_ ?_; focus (simp only [evN, *]; done)) | refine Sub.both ?_)); done) | (simp_all; done) | (simp_all; omega)))))
  unfold c5_s5 c5_b5 c5_t5
  (repeat' (first | (simp +contextual -dsimp only [*, TxS.view, bne_self_eq_false, Bool.not_true, Bool.not_false, beq_self_eq_true, ↓reduceIte, ↓evP, evQ, splice, Nat.reduceAdd, Nat.reduceEqDiff, Nat.reduceLeDiff, Nat.reduceMul, reduceCtorEq, Int.reduceLT, Int.reduceLE, Int.reduceGT, Int.reduceGE, Int.reduceEq, Int.reduceNeg]) | (refine condF_split (fun hc => ?_) (fun hc => ?_) <;> (try simp only [Bool.not_eq_true', Bool.not_eq_false', Bool.and_eq_true, Bool.or_eq_false_iff] at hc)) | (intro _; intros) | (refine And.intro ?_ ?_; focus (first | omega | ((repeat (first | exact Sub.refl _ | (refine Sub.drop ?_ ?_; focus (simp only [evN, *]; done)) | refine Sub.both ?_)); done) | (simp_all; done) | (simp_all; omega)))))
  refine loopF_of (fun k s σ' => ∃ (i : Nat), i ≤ T.reads.length ∧ k = T.reads.length - i ∧ σ' = σ2 ∧ s 20 = .int .i64 (i : Nat) ∧ s 17 = .slice A1 T.reads.length c1 ∧ s 10 = .slice pA H.length pcap ∧ s 18 = .int .i64 (cc : Nat)) T.reads.length (Sub.refl _)
    ⟨0, by omega, rfl, rfl, (by first | rfl | (simp only [↓putO_get, ↓putO_no, init_zero, init_succ, Nat.reduceEqDiff, ↓reduceIte, *]; done) | (simp only [↓putO_get, ↓putO_no, init_zero, init_succ, Nat.reduceEqDiff, ↓reduceIte, *]; rfl)), (by first | rfl | (simp only [↓putO_get, ↓putO_no, init_zero, init_succ, Nat.reduceEqDiff, ↓reduceIte, *]; done) | (simp only [↓putO_get, ↓putO_no, init_zero, init_succ, Nat.reduceEqDiff, ↓reduceIte, *]; rfl)), (by first | rfl | (simp only [↓putO_get, ↓putO_no, init_zero, init_succ, Nat.reduceEqDiff, ↓reduceIte, *]; done) | (simp only [↓putO_get, ↓putO_no, init_zero, init_succ, Nat.reduceEqDiff, ↓reduceIte, *]; rfl)), (by first | rfl | (simp only [↓putO_get, ↓putO_no, init_zero, init_succ, Nat.reduceEqDiff, ↓reduceIte, *]; done) | (simp only [↓putO_get, ↓putO_no, init_zero, init_succ, Nat.reduceEqDiff, ↓reduceIte, *]; rfl))⟩ ?_
  rintro k s τ ⟨i, hi, hk, rfl, s20, s17, s10, s18⟩
  rcases Nat.lt_or_ge i T.reads.length with hlt | hge
  · obtain ⟨x, hx⟩ : ∃ x, T.reads[i]? = some x := ⟨_, List.getElem?_eq_getElem hlt⟩
    obtain ⟨b, off, e, hrd⟩ := (H2.out.2.2.ro (f := Got.cells) Got.cells_len).get hlt
    subst e
    rw [show T.reads[i] = x by rw [List.getElem?_eq_getElem hlt] at hx; exact Option.some.inj hx] at hrd
    have hrd0 := rd_part hrd 0 (v := .string x.key) rfl
    have hrd1 : rdn τ b (off + i * 3 + 1) 2 = some [.bool x.has, .string x.data] := rdn_part hrd 1 2 (by omega)
    rw [Nat.add_zero] at hrd0
    have hd : decide ((i : Int) < (T.reads.length : Int)) = true := by simp; omega
    have hlt' : (i : Int) < (T.reads.length : Int) := by omega
    have e1 : IntKind.i64.wrap ((i : Int) + 1) = ((i + 1 : Nat) : Int) := by rw [wi64 (by omega)]; rfl
    have hat := at31 H2.out.2.1 H2.out.1.sub hH x.key cc (by omega)
    rw [H0.out.2.2.2.law x (List.mem_of_getElem? hx) cc hc1 hc3 hc4] at hat
    clear hrd hx
    (repeat' (first | (simp +contextual -dsimp only [*, TxS.view, bne_self_eq_false, Bool.not_true, Bool.not_false, beq_self_eq_true, ↓reduceIte, ↓evP, evQ, splice, Nat.reduceAdd, Nat.reduceEqDiff, Nat.reduceLeDiff, Nat.reduceMul, reduceCtorEq, Int.reduceLT, Int.reduceLE, Int.reduceGT, Int.reduceGE, Int.reduceEq, Int.reduceNeg]) | (refine condF_split (fun hc => ?_) (fun hc => ?_) <;> (try simp only [Bool.not_eq_true', Bool.not_eq_false', Bool.and_eq_true, Bool.or_eq_false_iff] at hc)) | (intro _; intros) | (refine And.intro ?_ ?_; focus (first | omega | ((repeat (first | exact Sub.refl _ | (refine Sub.drop ?_ ?_; focus (simp only [evN, *]; done)) | refine Sub.both ?_)); done) | (simp_all; done) | (simp_all; omega)))))
    refine gcallF_of hat ?_
    (repeat' (first | (simp +contextual -dsimp only [*, TxS.view, bne_self_eq_false, Bool.not_true, Bool.not_false, beq_self_eq_true, ↓reduceIte, ↓evP, evQ, splice, Nat.reduceAdd, Nat.reduceEqDiff, Nat.reduceLeDiff, Nat.reduceMul, reduceCtorEq, Int.reduceLT, Int.reduceLE, Int.reduceGT, Int.reduceGE, Int.reduceEq, Int.reduceNeg]) | (refine condF_split (fun hc => ?_) (fun hc => ?_) <;> (try simp only [Bool.not_eq_true', Bool.not_eq_false', Bool.and_eq_true, Bool.or_eq_false_iff] at hc)) | (intro _; intros) | (refine And.intro ?_ ?_; focus (first | omega | ((repeat (first | exact Sub.refl _ | (refine Sub.drop ?_ ?_; focus (simp only [evN, *]; done)) | refine Sub.both ?_)); done) | (simp_all; done) | (simp_all; omega)))))
    exact nextF_of (T.reads.length - (i + 1)) (by omega) (Sub.refl _) ⟨i + 1, by omega, rfl, rfl, (by first | rfl | (simp only [↓putO_get, ↓putO_no, init_zero, init_succ, Nat.reduceEqDiff, ↓reduceIte, *]; done) | (simp only [↓putO_get, ↓putO_no, init_zero, init_succ, Nat.reduceEqDiff, ↓reduceIte, *]; rfl)), (by first | rfl | (simp only [↓putO_get, ↓putO_no, init_zero, init_succ, Nat.reduceEqDiff, ↓reduceIte, *]; done) | (simp only [↓putO_get, ↓putO_no, init_zero, init_succ, Nat.reduceEqDiff, ↓reduceIte, *]; rfl)), (by first | rfl | (simp only [↓putO_get, ↓putO_no, init_zero, init_succ, Nat.reduceEqDiff, ↓reduceIte, *]; done) | (simp only [↓putO_get, ↓putO_no, init_zero, init_succ, Nat.reduceEqDiff, ↓reduceIte, *]; rfl)), (by first | rfl | (simp only [↓putO_get, ↓putO_no, init_zero, init_succ, Nat.reduceEqDiff, ↓reduceIte, *]; done) | (simp only [↓putO_get, ↓putO_no, init_zero, init_succ, Nat.reduceEqDiff, ↓reduceIte, *]; rfl))⟩
  · have hd : decide ((i : Int) < (T.reads.length : Int)) = false := by simp; omega
    (repeat' (first | (simp +contextual -dsimp only [*, TxS.view, bne_self_eq_false, Bool.not_true, Bool.not_false, beq_self_eq_true, ↓reduceIte, ↓evP, evQ, splice, Nat.reduceAdd, Nat.reduceEqDiff, Nat.reduceLeDiff, Nat.reduceMul, reduceCtorEq, Int.reduceLT, Int.reduceLE, Int.reduceGT, Int.reduceGE, Int.reduceEq, Int.reduceNeg]) | (refine condF_split (fun hc => ?_) (fun hc => ?_) <;> (try simp only [Bool.not_eq_true', Bool.not_eq_false', Bool.and_eq_true, Bool.or_eq_false_iff] at hc)) | (intro _; intros) | (refine And.intro ?_ ?_; focus (first | omega | ((repeat (first | exact Sub.refl _ | (refine Sub.drop ?_ ?_; focus (simp only [evN, *]; done)) | refine Sub.both ?_)); done) | (simp_all; done) | (simp_all; omega)))))
    exact endF_det rfl H2.out.1.sub
structure Turn where
  ws : List Wr
  key : ByteArray
/-- A slice of turns, to be read alone. -/
def TurnsAt (σ : Hp) (v : Value) (L : List Turn) : Prop :=
  ∃ A c, v = .slice A L.length c ∧ ∀ (i : Nat) t, L[i]? = some t → ∃ b o x, A = some ⟨b, o, none⟩ ∧ rd σ b (o + i * 2) = some x ∧ rd σ b (o + i * 2 + 1) = some (.string t.key) ∧ RoRows 3 Wr.cells σ x t.ws ∧ t.ws.length ≤ 140737488355328 ∧ t.key.size ≤ 140737488351232
def uniq (H : List (List Wr)) : Prop := ∀ ws ∈ H, (keysOf ws).Nodup
theorem uniq_app {H : List (List Wr)} {ws : List Wr} (h : uniq H) (hg : GoodWs ws) : uniq (H ++ [ws]) := fun x hx => by
  rcases List.mem_append.1 hx with h1 | h1
  · exact h x h1
  · rw [List.mem_singleton.1 h1]; exact hg.once
theorem finish_ref {T : TxS} (h : T.st = 4) : T.finish = (T, 0, T.er) := by
  unfold TxS.finish; rw [h]; rfl
set_option maxHeartbeats 4000000 in
theorem turn5 {K : Exit → Sl → Hp → Prop} {R : Value → Hp → Prop} {σ0 σ : Hp} {go ms g m gl gt : Nat} {c : Cfg} {mo : Nat} {v tv pv : Value} {H : List (List Wr)} {low : Int} {i : Nat} {T : TxS} {L : List Turn} {A : Option Addr} {cap : Nat} (hO : OR σ0 σ go ms g m gl c mo v H H ((i : Int) + 100)) (hP : PastAt σ0 σ pv H) (hT : TxAt 141 σ gt T tv) (hG : GoodT T H low i) (hu : uniq H) (hcn : c.nodes = 1) (hmo : 1 ≤ mo ∧ mo ≤ 64) (hH : H.length ≤ 900) (hi : i < L.length) (hi2 : i < 100)
    (hL : TurnsAt σ0 (.slice A L.length cap) L) {s : Sl} (s2 : s 2 = .slice A L.length cap) (s9 : s 9 = .pointer (some ⟨go, 0, none⟩)) (s10 : s 10 = pv) (s12 : s 12 = .int .i64 low) (s13 : s 13 = .pointer (some ⟨gt, 0, none⟩)) (s14 : s 14 = .int .i64 (i : Nat))
    (hk : ∀ s' σ' H' v' pv' T' tv', OR σ0 σ' go ms g m gl c mo v' H' H' (((i + 1 : Nat) : Int) + 100) → PastAt σ0 σ' pv' H' → TxAt 141 σ' gt T' tv' → GoodT T' H' low (i + 1) → uniq H' → H'.length ≤ H.length + 1 → s' 2 = .slice A L.length cap → s' 9 = .pointer (some ⟨go, 0, none⟩) → s' 10 = pv' → s' 12 = .int .i64 low → s' 13 = .pointer (some ⟨gt, 0, none⟩) → s' 14 = .int .i64 (i + 1 : Nat) → K .normal s' σ') (hr : ∀ s' σ', Sub σ0 σ' → s' 8 = .bool true → K .ret s' σ') :
    codeF Try.prog c5_s3 K s σ ⟨⟩ := by
  have HK := Hid.mk (And.intro hk hr)
  obtain ⟨A', cap', eL, hrow⟩ := hL
  injection eL with e1 e2 e3
  subst e1; subst e3
  clear e2
  obtain ⟨t, ht⟩ : ∃ t, L[i]? = some t := ⟨_, List.getElem?_eq_getElem hi⟩
  obtain ⟨b, o, x, rfl, hx, hkey, hro, hwn, hks⟩ := hrow i t ht
  have hx1 := rd_sub hO.sub hx
  have hi3 : (i : Int) < (L.length : Int) := by omega
  have e1 : IntKind.i64.wrap ((i : Int) + 101) = (i : Int) + 101 := wi64 (by omega)
  have e2 : IntKind.i64.wrap ((i : Int) + 1) = ((i + 1 : Nat) : Int) := by rw [wi64 (by omega)]; rfl
  have q25 := commit25 hO hP hcn hmo (by omega) ((i : Int) + 101) (by omega) (by omega) (by omega) hro hwn
  have H0 := Hid.mk (And.intro hT (And.intro hG (And.intro hu (And.intro hkey (And.intro hks hO.sub)))))
  clear hk hr hO hP hT hG hu hrow ht hro hx hkey hks hcn hwn
  unfold c5_s3 c5_b3 c5_t3
  (repeat' (first | (simp +contextual -dsimp only [*, TxS.view, bne_self_eq_false, Bool.not_true, Bool.not_false, beq_self_eq_true, ↓reduceIte, ↓evP, evQ, splice, Nat.reduceAdd, Nat.reduceEqDiff, Nat.reduceLeDiff, Nat.reduceMul, reduceCtorEq, Int.reduceLT, Int.reduceLE, Int.reduceGT, Int.reduceGE, Int.reduceEq, Int.reduceNeg]) | (refine condF_split (fun hc => ?_) (fun hc => ?_) <;> (try simp only [Bool.not_eq_true', Bool.not_eq_false', Bool.and_eq_true, Bool.or_eq_false_iff] at hc)) | (intro _; intros) | (refine And.intro ?_ ?_; focus (first | omega | ((repeat (first | exact Sub.refl _ | (refine Sub.drop ?_ ?_; focus (simp only [evN, *]; done)) | refine Sub.both ?_)); done) | (simp_all; done) | (simp_all; omega)))))
  refine callF_of q25 ?_
  clear q25 hx1
  rintro u σ1 ⟨hks1, H1, v1, hO1, hP1, hH1⟩
  have hk1 := rd_sub hO1.sub H0.out.2.2.2.1
  have hT1 := H0.out.1.ks hks1 (fun cs q => q.elim (pOr_c (by decide) (by decide) cs) fun x => x) (fun cs r q => q.elim (pOr_r (by decide) (by decide) cs r) fun x => absurd (show (81 : Nat) = 35 from x) (by decide))
  have hu1 : uniq H1 := by
    rcases hH1 with rfl | ⟨rfl, hg⟩
    · exact H0.out.2.2.1
    · exact uniq_app H0.out.2.2.1 hg
  have hG1 : GoodT T H1 low i := by
    rcases hH1 with rfl | ⟨rfl, hg⟩
    · exact H0.out.2.1
    · exact H0.out.2.1.append _
  have hl1 : H1.length ≤ H.length + 1 := by
    rcases hH1 with rfl | ⟨rfl, hg⟩
    · omega
    · simp
  have H2 := Hid.mk (And.intro hO1 (And.intro hP1 (And.intro hT1 (And.intro hG1 hu1))))
  clear hks1 hO1 hP1 hT1 hG1 hu1 hH1
  rcases Nat.lt_or_ge t.key.size 1 with hk0 | hk0
  · have d1 : decide ((t.key.size : Int) < 1) = true := decide_eq_true (by omega)
    (repeat' (first | (simp +contextual -dsimp only [*, TxS.view, bne_self_eq_false, Bool.not_true, Bool.not_false, beq_self_eq_true, ↓reduceIte, ↓evP, evQ, splice, Nat.reduceAdd, Nat.reduceEqDiff, Nat.reduceLeDiff, Nat.reduceMul, reduceCtorEq, Int.reduceLT, Int.reduceLE, Int.reduceGT, Int.reduceGE, Int.reduceEq, Int.reduceNeg]) | (refine condF_split (fun hc => ?_) (fun hc => ?_) <;> (try simp only [Bool.not_eq_true', Bool.not_eq_false', Bool.and_eq_true, Bool.or_eq_false_iff] at hc)) | (intro _; intros) | (refine And.intro ?_ ?_; focus (first | omega | ((repeat (first | exact Sub.refl _ | (refine Sub.drop ?_ ?_; focus (simp only [evN, *]; done)) | refine Sub.both ?_)); done) | (simp_all; done) | (simp_all; omega)))))
    exact HK.out.1 _ _ H1 v1 u T tv (H2.out.1.mono (by omega)) H2.out.2.1 H2.out.2.2.1 (H2.out.2.2.2.1.mono (by omega)) H2.out.2.2.2.2 hl1 (by first | rfl | (simp only [↓putO_get, ↓putO_no, init_zero, init_succ, Nat.reduceEqDiff, ↓reduceIte, *]; done) | (simp only [↓putO_get, ↓putO_no, init_zero, init_succ, Nat.reduceEqDiff, ↓reduceIte, *]; rfl)) (by first | rfl | (simp only [↓putO_get, ↓putO_no, init_zero, init_succ, Nat.reduceEqDiff, ↓reduceIte, *]; done) | (simp only [↓putO_get, ↓putO_no, init_zero, init_succ, Nat.reduceEqDiff, ↓reduceIte, *]; rfl)) (by first | rfl | (simp only [↓putO_get, ↓putO_no, init_zero, init_succ, Nat.reduceEqDiff, ↓reduceIte, *]; done) | (simp only [↓putO_get, ↓putO_no, init_zero, init_succ, Nat.reduceEqDiff, ↓reduceIte, *]; rfl)) (by first | rfl | (simp only [↓putO_get, ↓putO_no, init_zero, init_succ, Nat.reduceEqDiff, ↓reduceIte, *]; done) | (simp only [↓putO_get, ↓putO_no, init_zero, init_succ, Nat.reduceEqDiff, ↓reduceIte, *]; rfl)) (by first | rfl | (simp only [↓putO_get, ↓putO_no, init_zero, init_succ, Nat.reduceEqDiff, ↓reduceIte, *]; done) | (simp only [↓putO_get, ↓putO_no, init_zero, init_succ, Nat.reduceEqDiff, ↓reduceIte, *]; rfl)) (by first | rfl | (simp only [↓putO_get, ↓putO_no, init_zero, init_succ, Nat.reduceEqDiff, ↓reduceIte, *]; done) | (simp only [↓putO_get, ↓putO_no, init_zero, init_succ, Nat.reduceEqDiff, ↓reduceIte, *]; rfl))
  rcases Nat.lt_or_ge 32 t.key.size with hk2 | hk2
  · have d1 : decide ((t.key.size : Int) < 1) = false := decide_eq_false (by omega)
    have d2 : decide ((t.key.size : Int) > 32) = true := decide_eq_true (by omega)
    (repeat' (first | (simp +contextual -dsimp only [*, TxS.view, bne_self_eq_false, Bool.not_true, Bool.not_false, beq_self_eq_true, ↓reduceIte, ↓evP, evQ, splice, Nat.reduceAdd, Nat.reduceEqDiff, Nat.reduceLeDiff, Nat.reduceMul, reduceCtorEq, Int.reduceLT, Int.reduceLE, Int.reduceGT, Int.reduceGE, Int.reduceEq, Int.reduceNeg]) | (refine condF_split (fun hc => ?_) (fun hc => ?_) <;> (try simp only [Bool.not_eq_true', Bool.not_eq_false', Bool.and_eq_true, Bool.or_eq_false_iff] at hc)) | (intro _; intros) | (refine And.intro ?_ ?_; focus (first | omega | ((repeat (first | exact Sub.refl _ | (refine Sub.drop ?_ ?_; focus (simp only [evN, *]; done)) | refine Sub.both ?_)); done) | (simp_all; done) | (simp_all; omega)))))
    exact HK.out.1 _ _ H1 v1 u T tv (H2.out.1.mono (by omega)) H2.out.2.1 H2.out.2.2.1 (H2.out.2.2.2.1.mono (by omega)) H2.out.2.2.2.2 hl1 (by first | rfl | (simp only [↓putO_get, ↓putO_no, init_zero, init_succ, Nat.reduceEqDiff, ↓reduceIte, *]; done) | (simp only [↓putO_get, ↓putO_no, init_zero, init_succ, Nat.reduceEqDiff, ↓reduceIte, *]; rfl)) (by first | rfl | (simp only [↓putO_get, ↓putO_no, init_zero, init_succ, Nat.reduceEqDiff, ↓reduceIte, *]; done) | (simp only [↓putO_get, ↓putO_no, init_zero, init_succ, Nat.reduceEqDiff, ↓reduceIte, *]; rfl)) (by first | rfl | (simp only [↓putO_get, ↓putO_no, init_zero, init_succ, Nat.reduceEqDiff, ↓reduceIte, *]; done) | (simp only [↓putO_get, ↓putO_no, init_zero, init_succ, Nat.reduceEqDiff, ↓reduceIte, *]; rfl)) (by first | rfl | (simp only [↓putO_get, ↓putO_no, init_zero, init_succ, Nat.reduceEqDiff, ↓reduceIte, *]; done) | (simp only [↓putO_get, ↓putO_no, init_zero, init_succ, Nat.reduceEqDiff, ↓reduceIte, *]; rfl)) (by first | rfl | (simp only [↓putO_get, ↓putO_no, init_zero, init_succ, Nat.reduceEqDiff, ↓reduceIte, *]; done) | (simp only [↓putO_get, ↓putO_no, init_zero, init_succ, Nat.reduceEqDiff, ↓reduceIte, *]; rfl)) (by first | rfl | (simp only [↓putO_get, ↓putO_no, init_zero, init_succ, Nat.reduceEqDiff, ↓reduceIte, *]; done) | (simp only [↓putO_get, ↓putO_no, init_zero, init_succ, Nat.reduceEqDiff, ↓reduceIte, *]; rfl))
  have d1 : decide ((t.key.size : Int) < 1) = false := decide_eq_false (by omega)
  have d2 : decide ((t.key.size : Int) > 32) = false := decide_eq_false (by omega)
  have hgk : goodK t.key = true := by
    unfold goodK; rw [decide_eq_true hk0, decide_eq_true hk2]; rfl
  have q29 := ask29 H2.out.1 H2.out.2.2.1 H2.out.2.2.2.1 hmo (by omega) (by omega) H2.out.2.2.2.2 t.key hgk H0.out.2.2.2.2.1
  clear hgk
  (repeat' (first | (simp +contextual -dsimp only [*, TxS.view, bne_self_eq_false, Bool.not_true, Bool.not_false, beq_self_eq_true, ↓reduceIte, ↓evP, evQ, splice, Nat.reduceAdd, Nat.reduceEqDiff, Nat.reduceLeDiff, Nat.reduceMul, reduceCtorEq, Int.reduceLT, Int.reduceLE, Int.reduceGT, Int.reduceGE, Int.reduceEq, Int.reduceNeg]) | (refine condF_split (fun hc => ?_) (fun hc => ?_) <;> (try simp only [Bool.not_eq_true', Bool.not_eq_false', Bool.and_eq_true, Bool.or_eq_false_iff] at hc)) | (intro _; intros) | (refine And.intro ?_ ?_; focus (first | omega | ((repeat (first | exact Sub.refl _ | (refine Sub.drop ?_ ?_; focus (simp only [evN, *]; done)) | refine Sub.both ?_)); done) | (simp_all; done) | (simp_all; omega)))))
  refine callF_of q29 ?_
  clear q29
  rintro w σ2 ⟨T2, tv2, hT2, hks2, (⟨rfl, hG2⟩ | ⟨rfl, hst, her⟩)⟩
  · have H3 := Hid.mk (And.intro hT2 (And.intro hks2 hG2))
    clear hT2 hks2 hG2
    (repeat' (first | (simp +contextual -dsimp only [*, TxS.view, bne_self_eq_false, Bool.not_true, Bool.not_false, beq_self_eq_true, ↓reduceIte, ↓evP, evQ, splice, Nat.reduceAdd, Nat.reduceEqDiff, Nat.reduceLeDiff, Nat.reduceMul, reduceCtorEq, Int.reduceLT, Int.reduceLE, Int.reduceGT, Int.reduceGE, Int.reduceEq, Int.reduceNeg]) | (refine condF_split (fun hc => ?_) (fun hc => ?_) <;> (try simp only [Bool.not_eq_true', Bool.not_eq_false', Bool.and_eq_true, Bool.or_eq_false_iff] at hc)) | (intro _; intros) | (refine And.intro ?_ ?_; focus (first | omega | ((repeat (first | exact Sub.refl _ | (refine Sub.drop ?_ ?_; focus (simp only [evN, *]; done)) | refine Sub.both ?_)); done) | (simp_all; done) | (simp_all; omega)))))
    exact HK.out.1 _ _ H1 v1 u T2 tv2 ((H2.out.1.tx H3.out.2.1).mono (by omega)) (H2.out.2.1.ks H3.out.2.1 (pTx_r (by decide))) H3.out.1 H3.out.2.2 H2.out.2.2.2.2 hl1 (by first | rfl | (simp only [↓putO_get, ↓putO_no, init_zero, init_succ, Nat.reduceEqDiff, ↓reduceIte, *]; done) | (simp only [↓putO_get, ↓putO_no, init_zero, init_succ, Nat.reduceEqDiff, ↓reduceIte, *]; rfl)) (by first | rfl | (simp only [↓putO_get, ↓putO_no, init_zero, init_succ, Nat.reduceEqDiff, ↓reduceIte, *]; done) | (simp only [↓putO_get, ↓putO_no, init_zero, init_succ, Nat.reduceEqDiff, ↓reduceIte, *]; rfl)) (by first | rfl | (simp only [↓putO_get, ↓putO_no, init_zero, init_succ, Nat.reduceEqDiff, ↓reduceIte, *]; done) | (simp only [↓putO_get, ↓putO_no, init_zero, init_succ, Nat.reduceEqDiff, ↓reduceIte, *]; rfl)) (by first | rfl | (simp only [↓putO_get, ↓putO_no, init_zero, init_succ, Nat.reduceEqDiff, ↓reduceIte, *]; done) | (simp only [↓putO_get, ↓putO_no, init_zero, init_succ, Nat.reduceEqDiff, ↓reduceIte, *]; rfl)) (by first | rfl | (simp only [↓putO_get, ↓putO_no, init_zero, init_succ, Nat.reduceEqDiff, ↓reduceIte, *]; done) | (simp only [↓putO_get, ↓putO_no, init_zero, init_succ, Nat.reduceEqDiff, ↓reduceIte, *]; rfl)) (by first | rfl | (simp only [↓putO_get, ↓putO_no, init_zero, init_succ, Nat.reduceEqDiff, ↓reduceIte, *]; done) | (simp only [↓putO_get, ↓putO_no, init_zero, init_succ, Nat.reduceEqDiff, ↓reduceIte, *]; rfl))
  · have q30 := finish30 hT2.1
    rw [finish_ref hst] at q30
    have hks3 : KSame pTx σ2 (set σ2 gt (.cells (T2.cells tv2) 141)) := (KSame.refl pTx _).turn hT2.1 (.inl rfl) _
    have H3 := Hid.mk ((H2.out.1.tx hks2).tx hks3).sub
    rw [her] at q30
    clear hT2 hks2 hks3 hst her
    (repeat' (first | (simp +contextual -dsimp only [*, TxS.view, bne_self_eq_false, Bool.not_true, Bool.not_false, beq_self_eq_true, ↓reduceIte, ↓evP, evQ, splice, Nat.reduceAdd, Nat.reduceEqDiff, Nat.reduceLeDiff, Nat.reduceMul, reduceCtorEq, Int.reduceLT, Int.reduceLE, Int.reduceGT, Int.reduceGE, Int.reduceEq, Int.reduceNeg]) | (refine condF_split (fun hc => ?_) (fun hc => ?_) <;> (try simp only [Bool.not_eq_true', Bool.not_eq_false', Bool.and_eq_true, Bool.or_eq_false_iff] at hc)) | refine callF_v (q30) ?_ | refine ccallF_of (q30) ?_ | refine gcallF_of (q30) ?_ | (intro _; intros) | (refine And.intro ?_ ?_; focus (first | omega | ((repeat (first | exact Sub.refl _ | (refine Sub.drop ?_ ?_; focus (simp only [evN, *]; done)) | refine Sub.both ?_)); done) | (simp_all; done) | (simp_all; omega)))))
    exact HK.out.2 _ _ H3.out (by first | rfl | (simp only [↓putO_get, ↓putO_no, init_zero, init_succ, Nat.reduceEqDiff, ↓reduceIte, *]; done) | (simp only [↓putO_get, ↓putO_no, init_zero, init_succ, Nat.reduceEqDiff, ↓reduceIte, *]; rfl))
theorem newT_good {H : List (List Wr)} {low : Nat} (hl : low ≤ H.length) (hH : H.length ≤ 1000) : GoodT (newT 3 1 (low : Int)) H low 0 ∧ (newT 3 1 (low : Int)).lo = (low : Int) := by
  have e : (newT 3 1 (low : Int)).lo = (low : Int) := by show mnI (mxI (low : Int) 0) 1099511627776 = low; unfold mnI mxI; split <;> split <;> omega
  refine ⟨⟨rfl, rfl, ?_, .inl rfl, fun h => absurd rfl h, ⟨Int.le_refl _, Int.le_refl _⟩, Nat.le_refl _, fun r hr => by cases hr⟩, e⟩
  rw [e]; show _ ∧ _ ∧ _ ∧ (low : Int) < 4611686018427387904; omega
set_option maxHeartbeats 2000000 in
set_option maxRecDepth 100000 in
theorem direct5 {σ : Hp} (hro : RoHeap σ) (vs : Nat) (hvs : vs ≤ 255) {fv : Value} {F : List (List Wr)} (hF : ListsAt σ fv F) (hFn : F.length ≤ 140737488355328) {uv : Value} {L : List Turn} (hL : TurnsAt σ uv L) (hLn : L.length ≤ 140737488355328) (fl : Nat) (hfl : fl ≤ 255) :
    ACalls Try.prog 5 #[.int .u8 vs, fv, uv, .int .u8 fl] σ fun u σ' => u = .bool true ∧ σ' = σ := by
  obtain ⟨A, cap, rfl, hrow⟩ := hF
  obtain ⟨B, bcap, rfl⟩ : ∃ A c, uv = .slice A L.length c := by obtain ⟨A, c, rfl, _⟩ := hL; exact ⟨A, c, rfl⟩
  obtain ⟨mo, hmo, hm1, hm2⟩ : ∃ mo : Nat, mnI (mxI ({ nodes := 1, bytes := 0, spans := 0, gap := 0, recent := 0, versions := vs, protect := 0, retries := 0 } : Cfg).held.versions 1) 64 = mo ∧ 1 ≤ mo ∧ mo ≤ 64 := by
    generalize ({ nodes := 1, bytes := 0, spans := 0, gap := 0, recent := 0, versions := vs, protect := 0, retries := 0 } : Cfg).held.versions = x
    refine ⟨(mnI (mxI x 1) 64).toNat, ?_, ?_⟩ <;> (unfold mnI mxI; split <;> split <;> omega)
  have q24 := new24 _ hmo hro
  have hcn := held_nodes vs
  generalize ({ nodes := 1, bytes := 0, spans := 0, gap := 0, recent := 0, versions := vs, protect := 0, retries := 0 } : Cfg).held = c at q24 hcn
  have HH := Hid.mk (And.intro hrow (And.intro hL (And.intro hro (And.intro hcn (And.intro hm1 hm2)))))
  have hvw : IntKind.i64.wrap (vs : Int) = vs := wi64 (by omega)
  have hfw : IntKind.i64.wrap (fl : Int) = fl := wi64 (by omega)
  unfold Cfg.cells at q24
  clear hrow hL hro hmo hcn hm1 hm2
  (refine acalls_F ok5 (by simp) ?_; unfold c5 r5; simp +contextual -dsimp only [TxS.view, bne_self_eq_false, Bool.not_true, Bool.not_false, beq_self_eq_true, ↓reduceIte, ↓evP, evQ, splice, Nat.reduceAdd, Nat.reduceEqDiff, Nat.reduceLeDiff, Nat.reduceMul, reduceCtorEq, Int.reduceLT, Int.reduceLE, Int.reduceGT, Int.reduceGE, Int.reduceEq, Int.reduceNeg])
  rw [hvw]
  refine callF_of q24 ?_
  clear q24
  rintro u τ ⟨go, ms, g, m, gl, rfl, hO⟩
  have HO := Hid.mk hO
  clear hO
  (repeat' (first | (simp +contextual -dsimp only [*, TxS.view, bne_self_eq_false, Bool.not_true, Bool.not_false, beq_self_eq_true, ↓reduceIte, ↓evP, evQ, splice, Nat.reduceAdd, Nat.reduceEqDiff, Nat.reduceLeDiff, Nat.reduceMul, reduceCtorEq, Int.reduceLT, Int.reduceLE, Int.reduceGT, Int.reduceGE, Int.reduceEq, Int.reduceNeg]) | (refine condF_split (fun hc => ?_) (fun hc => ?_) <;> (try simp only [Bool.not_eq_true', Bool.not_eq_false', Bool.and_eq_true, Bool.or_eq_false_iff] at hc)) | (intro _; intros) | (refine And.intro ?_ ?_; focus (first | omega | ((repeat (first | exact Sub.refl _ | (refine Sub.drop ?_ ?_; focus (simp only [evN, *]; done)) | refine Sub.both ?_)); done) | (simp_all; done) | (simp_all; omega)))))
  show codeF _ (.seq c5_b0 c5_t0) _ _ _ _
  refine codeF_cut (fun s σ' => ∃ H v pv, OR σ σ' go ms g m gl c mo v H H 100 ∧ PastAt σ σ' pv H ∧ uniq H ∧ H.length ≤ 100 ∧ s 2 = .slice B L.length bcap ∧ s 3 = .int .u8 fl ∧ s 9 = .pointer (some ⟨go, 0, none⟩) ∧ s 10 = pv) ?_ ?_
  · unfold c5_b0
    simp +contextual -dsimp only [*, TxS.view, bne_self_eq_false, Bool.not_true, Bool.not_false, beq_self_eq_true, ↓reduceIte, ↓evP, evQ, splice, Nat.reduceAdd, Nat.reduceEqDiff, Nat.reduceLeDiff, Nat.reduceMul, reduceCtorEq, Int.reduceLT, Int.reduceLE, Int.reduceGT, Int.reduceGE, Int.reduceEq, Int.reduceNeg]
    refine loopF_of (fun n s σ' => ∃ (i : Nat) (H : List (List Wr)) (v pv : Value), i ≤ F.length ∧ i ≤ 100 ∧ n = F.length - i ∧ H.length ≤ i ∧ OR σ σ' go ms g m gl c mo v H H (i : Nat) ∧ PastAt σ σ' pv H ∧ uniq H ∧ s 11 = .int .i64 (i : Nat) ∧ s 1 = .slice A F.length cap ∧ s 2 = .slice B L.length bcap ∧ s 3 = .int .u8 fl ∧ s 9 = .pointer (some ⟨go, 0, none⟩) ∧ s 10 = pv) F.length (Sub.refl _)
      ⟨0, [], _, .slice none 0 0, by omega, by omega, rfl, Nat.le_refl _, HO.out, ⟨[], .inl ⟨rfl, rfl⟩, rfl, fun i x ws h => by cases h⟩, (fun x h => by cases h), (by first | rfl | (simp only [↓putO_get, ↓putO_no, init_zero, init_succ, Nat.reduceEqDiff, ↓reduceIte, *]; done) | (simp only [↓putO_get, ↓putO_no, init_zero, init_succ, Nat.reduceEqDiff, ↓reduceIte, *]; rfl)), (by first | rfl | (simp only [↓putO_get, ↓putO_no, init_zero, init_succ, Nat.reduceEqDiff, ↓reduceIte, *]; done) | (simp only [↓putO_get, ↓putO_no, init_zero, init_succ, Nat.reduceEqDiff, ↓reduceIte, *]; rfl)), (by first | rfl | (simp only [↓putO_get, ↓putO_no, init_zero, init_succ, Nat.reduceEqDiff, ↓reduceIte, *]; done) | (simp only [↓putO_get, ↓putO_no, init_zero, init_succ, Nat.reduceEqDiff, ↓reduceIte, *]; rfl)), (by first | rfl | (simp only [↓putO_get, ↓putO_no, init_zero, init_succ, Nat.reduceEqDiff, ↓reduceIte, *]; done) | (simp only [↓putO_get, ↓putO_no, init_zero, init_succ, Nat.reduceEqDiff, ↓reduceIte, *]; rfl)), (by first | rfl | (simp only [↓putO_get, ↓putO_no, init_zero, init_succ, Nat.reduceEqDiff, ↓reduceIte, *]; done) | (simp only [↓putO_get, ↓putO_no, init_zero, init_succ, Nat.reduceEqDiff, ↓reduceIte, *]; rfl)), (by first | rfl | (simp only [↓putO_get, ↓putO_no, init_zero, init_succ, Nat.reduceEqDiff, ↓reduceIte, *]; done) | (simp only [↓putO_get, ↓putO_no, init_zero, init_succ, Nat.reduceEqDiff, ↓reduceIte, *]; rfl))⟩ ?_
    clear HO
    rintro n s τ1 ⟨i, H, v, pv, hi, hi2, hk, hH, hO, hP, hu, s11, s1, s2, s3, s9, s10⟩
    have H1 := Hid.mk (And.intro hO (And.intro hP hu))
    cases hd : decide ((i : Int) < (F.length : Int)) && decide ((i : Int) < 100) with
    | true =>
      simp only [Bool.and_eq_true, decide_eq_true_eq] at hd
      have d1 : decide ((i : Int) < (F.length : Int)) = true := decide_eq_true hd.1
      have d2 : decide ((i : Int) < 100) = true := decide_eq_true hd.2
      have hi3 : i < 100 := by omega
      have hlt : i < F.length := by omega
      have hlt' := hd.1
      obtain ⟨ws, hws⟩ : ∃ ws, F[i]? = some ws := ⟨_, List.getElem?_eq_getElem hlt⟩
      obtain ⟨b, o, x, rfl, hrd, hrw, hwn⟩ := HH.out.1 i ws hws
      have hrd1 := rd_sub hO.sub hrd
      have e1 : IntKind.i64.wrap ((i : Int) + 1) = ((i + 1 : Nat) : Int) := by rw [wi64 (by omega)]; rfl
      have q25 := commit25 hO hP HH.out.2.2.2.1 HH.out.2.2.2.2 (by omega) ((i + 1 : Nat) : Int) (by omega) (by omega) (by omega) hrw hwn
      clear hO hP hu hd hws hrd hrw hwn
      (repeat' (first | (simp +contextual -dsimp only [*, TxS.view, bne_self_eq_false, Bool.not_true, Bool.not_false, beq_self_eq_true, ↓reduceIte, ↓evP, evQ, splice, Nat.reduceAdd, Nat.reduceEqDiff, Nat.reduceLeDiff, Nat.reduceMul, reduceCtorEq, Int.reduceLT, Int.reduceLE, Int.reduceGT, Int.reduceGE, Int.reduceEq, Int.reduceNeg]) | (refine condF_split (fun hc => ?_) (fun hc => ?_) <;> (try simp only [Bool.not_eq_true', Bool.not_eq_false', Bool.and_eq_true, Bool.or_eq_false_iff] at hc)) | (intro _; intros) | (refine And.intro ?_ ?_; focus (first | omega | ((repeat (first | exact Sub.refl _ | (refine Sub.drop ?_ ?_; focus (simp only [evN, *]; done)) | refine Sub.both ?_)); done) | (simp_all; done) | (simp_all; omega)))))
      refine callF_of q25 ?_
      clear q25
      rintro u σ1 ⟨hks1, H2, v1, hO1, hP1, hH1⟩
      have hl2 : H2.length ≤ i + 1 := by
        rcases hH1 with rfl | ⟨rfl, _⟩
        · omega
        · simp; omega
      have hu2 : uniq H2 := by
        rcases hH1 with rfl | ⟨rfl, hg⟩
        · exact H1.out.2.2
        · exact uniq_app H1.out.2.2 hg
      have H3 := Hid.mk (And.intro hO1 (And.intro hP1 hu2))
      clear hks1 hO1 hP1 hH1 hu2
      (repeat' (first | (simp +contextual -dsimp only [*, TxS.view, bne_self_eq_false, Bool.not_true, Bool.not_false, beq_self_eq_true, ↓reduceIte, ↓evP, evQ, splice, Nat.reduceAdd, Nat.reduceEqDiff, Nat.reduceLeDiff, Nat.reduceMul, reduceCtorEq, Int.reduceLT, Int.reduceLE, Int.reduceGT, Int.reduceGE, Int.reduceEq, Int.reduceNeg]) | (refine condF_split (fun hc => ?_) (fun hc => ?_) <;> (try simp only [Bool.not_eq_true', Bool.not_eq_false', Bool.and_eq_true, Bool.or_eq_false_iff] at hc)) | (intro _; intros) | (refine And.intro ?_ ?_; focus (first | omega | ((repeat (first | exact Sub.refl _ | (refine Sub.drop ?_ ?_; focus (simp only [evN, *]; done)) | refine Sub.both ?_)); done) | (simp_all; done) | (simp_all; omega)))))
      exact nextF_of (F.length - (i + 1)) (by omega) (Sub.refl _) ⟨i + 1, H2, v1, u, by omega, by omega, rfl, hl2, H3.out.1, H3.out.2.1, H3.out.2.2, (by first | rfl | (simp only [↓putO_get, ↓putO_no, init_zero, init_succ, Nat.reduceEqDiff, ↓reduceIte, *]; done) | (simp only [↓putO_get, ↓putO_no, init_zero, init_succ, Nat.reduceEqDiff, ↓reduceIte, *]; rfl)), (by first | rfl | (simp only [↓putO_get, ↓putO_no, init_zero, init_succ, Nat.reduceEqDiff, ↓reduceIte, *]; done) | (simp only [↓putO_get, ↓putO_no, init_zero, init_succ, Nat.reduceEqDiff, ↓reduceIte, *]; rfl)), (by first | rfl | (simp only [↓putO_get, ↓putO_no, init_zero, init_succ, Nat.reduceEqDiff, ↓reduceIte, *]; done) | (simp only [↓putO_get, ↓putO_no, init_zero, init_succ, Nat.reduceEqDiff, ↓reduceIte, *]; rfl)), (by first | rfl | (simp only [↓putO_get, ↓putO_no, init_zero, init_succ, Nat.reduceEqDiff, ↓reduceIte, *]; done) | (simp only [↓putO_get, ↓putO_no, init_zero, init_succ, Nat.reduceEqDiff, ↓reduceIte, *]; rfl)), (by first | rfl | (simp only [↓putO_get, ↓putO_no, init_zero, init_succ, Nat.reduceEqDiff, ↓reduceIte, *]; done) | (simp only [↓putO_get, ↓putO_no, init_zero, init_succ, Nat.reduceEqDiff, ↓reduceIte, *]; rfl)), (by first | rfl | (simp only [↓putO_get, ↓putO_no, init_zero, init_succ, Nat.reduceEqDiff, ↓reduceIte, *]; done) | (simp only [↓putO_get, ↓putO_no, init_zero, init_succ, Nat.reduceEqDiff, ↓reduceIte, *]; rfl))⟩
    | false =>
      have hd := Hid.mk hd
      clear hO hP hu
      (repeat' (first | (simp +contextual -dsimp only [*, TxS.view, bne_self_eq_false, Bool.not_true, Bool.not_false, beq_self_eq_true, ↓reduceIte, ↓evP, evQ, splice, Nat.reduceAdd, Nat.reduceEqDiff, Nat.reduceLeDiff, Nat.reduceMul, reduceCtorEq, Int.reduceLT, Int.reduceLE, Int.reduceGT, Int.reduceGE, Int.reduceEq, Int.reduceNeg]) | (refine condF_split (fun hc => ?_) (fun hc => ?_) <;> (try simp only [Bool.not_eq_true', Bool.not_eq_false', Bool.and_eq_true, Bool.or_eq_false_iff] at hc)) | (intro _; intros) | (refine And.intro ?_ ?_; focus (first | omega | ((repeat (first | exact Sub.refl _ | (refine Sub.drop ?_ ?_; focus (simp only [evN, *]; done)) | refine Sub.both ?_)); done) | (simp_all; done) | (simp_all; omega)))))
      all_goals first
        | (exfalso; have := hd.out; rw [show decide ((i : Int) < (F.length : Int)) = true by assumption, show decide ((i : Int) < 100) = true by assumption] at this; cases this; done)
        | exact ⟨H, v, pv, H1.out.1.mono (by omega), H1.out.2.1, H1.out.2.2, by omega, rfl⟩
  · rintro s τ1 ⟨H, v, pv, hO, hP, hu, hH, s2, s3, s9, s10⟩
    have q26 := last26 hO.cell hO.store
    rw [show (St.run mo H).last = H.length from rfl] at q26
    have e1 : IntKind.i64.wrap ((H.length : Int) + 1) = ((H.length + 1 : Nat) : Int) := by rw [wi64 (by omega)]; rfl
    have t1 := tmod_nat fl (H.length + 1)
    have hn0 : ¬ ((H.length + 1 : Nat) : Int) = 0 := by omega
    obtain ⟨low, hlow⟩ : ∃ low, low = fl % (H.length + 1) := ⟨_, rfl⟩
    have hl1 : low ≤ H.length := by have := Nat.mod_lt fl (show 0 < H.length + 1 by omega); omega
    rw [← hlow] at t1
    obtain ⟨hG0, hlo0⟩ := newT_good (H := H) hl1 (by omega)
    have H1 := Hid.mk (And.intro hO (And.intro hP (And.intro hu hG0)))
    clear hO hP hu hG0 hlow
    unfold c5_t0
    (repeat' (first | (simp +contextual -dsimp only [*, TxS.view, bne_self_eq_false, Bool.not_true, Bool.not_false, beq_self_eq_true, ↓reduceIte, ↓evP, evQ, splice, Nat.reduceAdd, Nat.reduceEqDiff, Nat.reduceLeDiff, Nat.reduceMul, reduceCtorEq, Int.reduceLT, Int.reduceLE, Int.reduceGT, Int.reduceGE, Int.reduceEq, Int.reduceNeg]) | (refine condF_split (fun hc => ?_) (fun hc => ?_) <;> (try simp only [Bool.not_eq_true', Bool.not_eq_false', Bool.and_eq_true, Bool.or_eq_false_iff] at hc)) | refine callF_v (q26) ?_ | refine ccallF_of (q26) ?_ | refine gcallF_of (q26) ?_ | (intro _; intros) | (refine And.intro ?_ ?_; focus (first | omega | ((repeat (first | exact Sub.refl _ | (refine Sub.drop ?_ ?_; focus (simp only [evN, *]; done)) | refine Sub.both ?_)); done) | (simp_all; done) | (simp_all; omega)))))
    refine callF_of (new27 _ 3 1 (low : Int)) ?_
    rintro u τ2 ⟨gt, hgt, rfl, rfl⟩
    have hT : TxAt 141 (upd τ1 gt (.cells ((newT 3 1 (low : Int)).cells (.slice none 0 0)) 141)) gt (newT 3 1 (low : Int)) (.slice none 0 0) := ⟨upd_same _ _ _, .inl ⟨rfl, rfl⟩⟩
    have hks : KSame pNo τ1 (upd τ1 gt (.cells ((newT 3 1 (low : Int)).cells (.slice none 0 0)) 141)) := (KSame.refl _ _).new hgt _
    have hO2 := H1.out.1.fresh hks
    have hP2 := H1.out.2.1.ks hks (fun _ _ x => x)
    have hG2 := H1.out.2.2.2
    generalize upd τ1 gt (.cells ((newT 3 1 (low : Int)).cells (.slice none 0 0)) 141) = τ2 at hT hO2 hP2 ⊢
    have q28 := view28 hT (show ([] : List Got).length * 40 ≤ 140737488355328 by decide)
    generalize newT 3 1 (low : Int) = T0 at hT hG2 q28 hlo0
    have H2 := Hid.mk (And.intro hO2 (And.intro hP2 (And.intro hT hG2)))
    clear hks hO2 hP2 hT hG2 q26 hgt
    (repeat' (first | (simp +contextual -dsimp only [*, TxS.view, bne_self_eq_false, Bool.not_true, Bool.not_false, beq_self_eq_true, ↓reduceIte, ↓evP, evQ, splice, Nat.reduceAdd, Nat.reduceEqDiff, Nat.reduceLeDiff, Nat.reduceMul, reduceCtorEq, Int.reduceLT, Int.reduceLE, Int.reduceGT, Int.reduceGE, Int.reduceEq, Int.reduceNeg]) | (refine condF_split (fun hc => ?_) (fun hc => ?_) <;> (try simp only [Bool.not_eq_true', Bool.not_eq_false', Bool.and_eq_true, Bool.or_eq_false_iff] at hc)) | (intro _; intros) | (refine And.intro ?_ ?_; focus (first | omega | ((repeat (first | exact Sub.refl _ | (refine Sub.drop ?_ ?_; focus (simp only [evN, *]; done)) | refine Sub.both ?_)); done) | (simp_all; done) | (simp_all; omega)))))
    refine callF_of q28 ?_
    clear q28
    rintro u τ3 ⟨v3, rfl, hR3, hM3⟩
    obtain ⟨A3, c3, rfl⟩ := hR3.slice
    have hks3 : KSame pNo τ2 τ3 := KSame.made hM3.1
    have H3 := Hid.mk (And.intro (H2.out.1.fresh hks3) (And.intro (H2.out.2.1.ks hks3 (fun _ _ x => x)) (And.intro (H2.out.2.2.1.ks hks3 (fun _ x => x) (fun _ _ x => x)) H2.out.2.2.2)))
    clear hR3 hM3 hks3
    (repeat' (first | (simp +contextual -dsimp only [*, TxS.view, bne_self_eq_false, Bool.not_true, Bool.not_false, beq_self_eq_true, ↓reduceIte, ↓evP, evQ, splice, Nat.reduceAdd, Nat.reduceEqDiff, Nat.reduceLeDiff, Nat.reduceMul, reduceCtorEq, Int.reduceLT, Int.reduceLE, Int.reduceGT, Int.reduceGE, Int.reduceEq, Int.reduceNeg]) | (refine condF_split (fun hc => ?_) (fun hc => ?_) <;> (try simp only [Bool.not_eq_true', Bool.not_eq_false', Bool.and_eq_true, Bool.or_eq_false_iff] at hc)) | (intro _; intros) | (refine And.intro ?_ ?_; focus (first | omega | ((repeat (first | exact Sub.refl _ | (refine Sub.drop ?_ ?_; focus (simp only [evN, *]; done)) | refine Sub.both ?_)); done) | (simp_all; done) | (simp_all; omega)))))
    show codeF _ (.seq c5_b2 c5_t2) _ _ _ _
    refine codeF_cut (fun s σ' => ∃ H v pv T tv n q, OR σ σ' go ms g m gl c mo v H H q ∧ PastAt σ σ' pv H ∧ TxAt 141 σ' gt T tv ∧ GoodT T H (low : Int) n ∧ n ≤ 500 ∧ H.length ≤ 1000 ∧ s 9 = .pointer (some ⟨go, 0, none⟩) ∧ s 10 = pv ∧ s 12 = .int .i64 (low : Nat) ∧ s 13 = .pointer (some ⟨gt, 0, none⟩)) ?_ ?_
    · unfold c5_b2
      simp +contextual -dsimp only [*, TxS.view, bne_self_eq_false, Bool.not_true, Bool.not_false, beq_self_eq_true, ↓reduceIte, ↓evP, evQ, splice, Nat.reduceAdd, Nat.reduceEqDiff, Nat.reduceLeDiff, Nat.reduceMul, reduceCtorEq, Int.reduceLT, Int.reduceLE, Int.reduceGT, Int.reduceGE, Int.reduceEq, Int.reduceNeg]
      refine loopF_of (fun k s σ' => ∃ (i : Nat) (H : List (List Wr)) (v pv : Value) (T : TxS) (tv : Value), i ≤ L.length ∧ i ≤ 100 ∧ k = L.length - i ∧ H.length ≤ 100 + i ∧ OR σ σ' go ms g m gl c mo v H H ((i : Nat) + 100) ∧ PastAt σ σ' pv H ∧ TxAt 141 σ' gt T tv ∧ GoodT T H (low : Int) i ∧ uniq H ∧ s 14 = .int .i64 (i : Nat) ∧ s 2 = .slice B L.length bcap ∧ s 9 = .pointer (some ⟨go, 0, none⟩) ∧ s 10 = pv ∧ s 12 = .int .i64 (low : Nat) ∧ s 13 = .pointer (some ⟨gt, 0, none⟩)) L.length (Sub.refl _)
        ⟨0, H, v, pv, T0, _, by omega, by omega, rfl, by omega, H3.out.1.mono (by omega), H3.out.2.1, H3.out.2.2.1, H3.out.2.2.2, H1.out.2.2.1, (by first | rfl | (simp only [↓putO_get, ↓putO_no, init_zero, init_succ, Nat.reduceEqDiff, ↓reduceIte, *]; done) | (simp only [↓putO_get, ↓putO_no, init_zero, init_succ, Nat.reduceEqDiff, ↓reduceIte, *]; rfl)), (by first | rfl | (simp only [↓putO_get, ↓putO_no, init_zero, init_succ, Nat.reduceEqDiff, ↓reduceIte, *]; done) | (simp only [↓putO_get, ↓putO_no, init_zero, init_succ, Nat.reduceEqDiff, ↓reduceIte, *]; rfl)), (by first | rfl | (simp only [↓putO_get, ↓putO_no, init_zero, init_succ, Nat.reduceEqDiff, ↓reduceIte, *]; done) | (simp only [↓putO_get, ↓putO_no, init_zero, init_succ, Nat.reduceEqDiff, ↓reduceIte, *]; rfl)), (by first | rfl | (simp only [↓putO_get, ↓putO_no, init_zero, init_succ, Nat.reduceEqDiff, ↓reduceIte, *]; done) | (simp only [↓putO_get, ↓putO_no, init_zero, init_succ, Nat.reduceEqDiff, ↓reduceIte, *]; rfl)), (by first | rfl | (simp only [↓putO_get, ↓putO_no, init_zero, init_succ, Nat.reduceEqDiff, ↓reduceIte, *]; done) | (simp only [↓putO_get, ↓putO_no, init_zero, init_succ, Nat.reduceEqDiff, ↓reduceIte, *]; rfl)), (by first | rfl | (simp only [↓putO_get, ↓putO_no, init_zero, init_succ, Nat.reduceEqDiff, ↓reduceIte, *]; done) | (simp only [↓putO_get, ↓putO_no, init_zero, init_succ, Nat.reduceEqDiff, ↓reduceIte, *]; rfl))⟩ ?_
      clear H1 H2 H3 s10 hl1 hlo0 hn0 t1 e1 hH
      rintro k s τ4 ⟨i, H, v, pv, T, tv, hi, hi2, hk, hH, hO, hP, hT, hG, hu, s14, s2, s9, s10, s12, s13⟩
      have H1 := Hid.mk (And.intro hO (And.intro hP (And.intro hT (And.intro hG hu))))
      clear hO hP hT hG hu
      cases hd : decide ((i : Int) < (L.length : Int)) && decide ((i : Int) < 100) with
      | true =>
        simp only [Bool.and_eq_true, decide_eq_true_eq] at hd
        have d1 : decide ((i : Int) < (L.length : Int)) = true := decide_eq_true hd.1
        have d2 : decide ((i : Int) < 100) = true := decide_eq_true hd.2
        have hi3 : i < 100 := by omega
        have hlt : i < L.length := by omega
        clear hd
        (repeat' (first | (simp +contextual -dsimp only [*, TxS.view, bne_self_eq_false, Bool.not_true, Bool.not_false, beq_self_eq_true, ↓reduceIte, ↓evP, evQ, splice, Nat.reduceAdd, Nat.reduceEqDiff, Nat.reduceLeDiff, Nat.reduceMul, reduceCtorEq, Int.reduceLT, Int.reduceLE, Int.reduceGT, Int.reduceGE, Int.reduceEq, Int.reduceNeg]) | (refine condF_split (fun hc => ?_) (fun hc => ?_) <;> (try simp only [Bool.not_eq_true', Bool.not_eq_false', Bool.and_eq_true, Bool.or_eq_false_iff] at hc)) | (intro _; intros) | (refine And.intro ?_ ?_; focus (first | omega | ((repeat (first | exact Sub.refl _ | (refine Sub.drop ?_ ?_; focus (simp only [evN, *]; done)) | refine Sub.both ?_)); done) | (simp_all; done) | (simp_all; omega)))))
        refine turn5 (R := fun _ _ => True) H1.out.1 H1.out.2.1 H1.out.2.2.1 H1.out.2.2.2.1 H1.out.2.2.2.2 HH.out.2.2.2.1 HH.out.2.2.2.2 (by omega) hlt hi3 HH.out.2.1 (by first | rfl | (simp only [↓putO_get, ↓putO_no, init_zero, init_succ, Nat.reduceEqDiff, ↓reduceIte, *]; done) | (simp only [↓putO_get, ↓putO_no, init_zero, init_succ, Nat.reduceEqDiff, ↓reduceIte, *]; rfl)) (by first | rfl | (simp only [↓putO_get, ↓putO_no, init_zero, init_succ, Nat.reduceEqDiff, ↓reduceIte, *]; done) | (simp only [↓putO_get, ↓putO_no, init_zero, init_succ, Nat.reduceEqDiff, ↓reduceIte, *]; rfl)) (by first | rfl | (simp only [↓putO_get, ↓putO_no, init_zero, init_succ, Nat.reduceEqDiff, ↓reduceIte, *]; done) | (simp only [↓putO_get, ↓putO_no, init_zero, init_succ, Nat.reduceEqDiff, ↓reduceIte, *]; rfl)) (by first | rfl | (simp only [↓putO_get, ↓putO_no, init_zero, init_succ, Nat.reduceEqDiff, ↓reduceIte, *]; done) | (simp only [↓putO_get, ↓putO_no, init_zero, init_succ, Nat.reduceEqDiff, ↓reduceIte, *]; rfl)) (by first | rfl | (simp only [↓putO_get, ↓putO_no, init_zero, init_succ, Nat.reduceEqDiff, ↓reduceIte, *]; done) | (simp only [↓putO_get, ↓putO_no, init_zero, init_succ, Nat.reduceEqDiff, ↓reduceIte, *]; rfl)) (by first | rfl | (simp only [↓putO_get, ↓putO_no, init_zero, init_succ, Nat.reduceEqDiff, ↓reduceIte, *]; done) | (simp only [↓putO_get, ↓putO_no, init_zero, init_succ, Nat.reduceEqDiff, ↓reduceIte, *]; rfl)) (fun s' σ' H' v' pv' T' tv' hO' hP' hT' hG' hu' hl' t2 t9 t10 t12 t13 t14 => ?_) (fun s' σ' hs t8 => ?_)
        · have ho := Hid.mk (And.intro hO' (And.intro hP' (And.intro hT' (And.intro hG' hu'))))
          clear hO' hP' hT' hG' hu'
          (repeat' (first | (simp +contextual -dsimp only [*, TxS.view, bne_self_eq_false, Bool.not_true, Bool.not_false, beq_self_eq_true, ↓reduceIte, ↓evP, evQ, splice, Nat.reduceAdd, Nat.reduceEqDiff, Nat.reduceLeDiff, Nat.reduceMul, reduceCtorEq, Int.reduceLT, Int.reduceLE, Int.reduceGT, Int.reduceGE, Int.reduceEq, Int.reduceNeg]) | (refine condF_split (fun hc => ?_) (fun hc => ?_) <;> (try simp only [Bool.not_eq_true', Bool.not_eq_false', Bool.and_eq_true, Bool.or_eq_false_iff] at hc)) | (intro _; intros) | (refine And.intro ?_ ?_; focus (first | omega | ((repeat (first | exact Sub.refl _ | (refine Sub.drop ?_ ?_; focus (simp only [evN, *]; done)) | refine Sub.both ?_)); done) | (simp_all; done) | (simp_all; omega)))))
          exact nextF_of (L.length - (i + 1)) (by omega) (Sub.refl _) ⟨i + 1, H', v', pv', T', tv', by omega, by omega, rfl, by omega, ho.out.1, ho.out.2.1, ho.out.2.2.1, ho.out.2.2.2.1, ho.out.2.2.2.2, (by first | rfl | (simp only [↓putO_get, ↓putO_no, init_zero, init_succ, Nat.reduceEqDiff, ↓reduceIte, *]; done) | (simp only [↓putO_get, ↓putO_no, init_zero, init_succ, Nat.reduceEqDiff, ↓reduceIte, *]; rfl)), (by first | rfl | (simp only [↓putO_get, ↓putO_no, init_zero, init_succ, Nat.reduceEqDiff, ↓reduceIte, *]; done) | (simp only [↓putO_get, ↓putO_no, init_zero, init_succ, Nat.reduceEqDiff, ↓reduceIte, *]; rfl)), (by first | rfl | (simp only [↓putO_get, ↓putO_no, init_zero, init_succ, Nat.reduceEqDiff, ↓reduceIte, *]; done) | (simp only [↓putO_get, ↓putO_no, init_zero, init_succ, Nat.reduceEqDiff, ↓reduceIte, *]; rfl)), (by first | rfl | (simp only [↓putO_get, ↓putO_no, init_zero, init_succ, Nat.reduceEqDiff, ↓reduceIte, *]; done) | (simp only [↓putO_get, ↓putO_no, init_zero, init_succ, Nat.reduceEqDiff, ↓reduceIte, *]; rfl)), (by first | rfl | (simp only [↓putO_get, ↓putO_no, init_zero, init_succ, Nat.reduceEqDiff, ↓reduceIte, *]; done) | (simp only [↓putO_get, ↓putO_no, init_zero, init_succ, Nat.reduceEqDiff, ↓reduceIte, *]; rfl)), (by first | rfl | (simp only [↓putO_get, ↓putO_no, init_zero, init_succ, Nat.reduceEqDiff, ↓reduceIte, *]; done) | (simp only [↓putO_get, ↓putO_no, init_zero, init_succ, Nat.reduceEqDiff, ↓reduceIte, *]; rfl))⟩
        · have hs := Hid.mk hs
          (repeat' (first | (simp +contextual -dsimp only [*, TxS.view, bne_self_eq_false, Bool.not_true, Bool.not_false, beq_self_eq_true, ↓reduceIte, ↓evP, evQ, splice, Nat.reduceAdd, Nat.reduceEqDiff, Nat.reduceLeDiff, Nat.reduceMul, reduceCtorEq, Int.reduceLT, Int.reduceLE, Int.reduceGT, Int.reduceGE, Int.reduceEq, Int.reduceNeg]) | (refine condF_split (fun hc => ?_) (fun hc => ?_) <;> (try simp only [Bool.not_eq_true', Bool.not_eq_false', Bool.and_eq_true, Bool.or_eq_false_iff] at hc)) | (intro _; intros) | (refine And.intro ?_ ?_; focus (first | omega | ((repeat (first | exact Sub.refl _ | (refine Sub.drop ?_ ?_; focus (simp only [evN, *]; done)) | refine Sub.both ?_)); done) | (simp_all; done) | (simp_all; omega)))))
          exact endF_det rfl hs.out
      | false =>
        have hd := Hid.mk hd
        (repeat' (first | (simp +contextual -dsimp only [*, TxS.view, bne_self_eq_false, Bool.not_true, Bool.not_false, beq_self_eq_true, ↓reduceIte, ↓evP, evQ, splice, Nat.reduceAdd, Nat.reduceEqDiff, Nat.reduceLeDiff, Nat.reduceMul, reduceCtorEq, Int.reduceLT, Int.reduceLE, Int.reduceGT, Int.reduceGE, Int.reduceEq, Int.reduceNeg]) | (refine condF_split (fun hc => ?_) (fun hc => ?_) <;> (try simp only [Bool.not_eq_true', Bool.not_eq_false', Bool.and_eq_true, Bool.or_eq_false_iff] at hc)) | (intro _; intros) | (refine And.intro ?_ ?_; focus (first | omega | ((repeat (first | exact Sub.refl _ | (refine Sub.drop ?_ ?_; focus (simp only [evN, *]; done)) | refine Sub.both ?_)); done) | (simp_all; done) | (simp_all; omega)))))
        all_goals first
          | exact ⟨H, v, pv, T, tv, i, _, H1.out.1, H1.out.2.1, H1.out.2.2.1, H1.out.2.2.2.1, by omega, by omega, rfl⟩
          | (exfalso; have := hd.out; rw [show decide ((i : Int) < (L.length : Int)) = true by assumption, show decide ((i : Int) < 100) = true by assumption] at this; cases this)
    · rintro s σ' ⟨H, v, pv, T, tv, n, q, hO, hP, hT, hG, hn, hH, s9, s10, s12, s13⟩
      exact tail5 hO hP hT hG hn hH s9 s10 s12 s13
theorem RecRep.slice {σ : Hp} {H : List (List ByteArray)} {n : Nat} {kv : Value} (h : RecRep σ H n kv) : ∃ ks A c, H[n - 1]? = some ks ∧ kv = .slice A ks.length c ∧ RowsAt 9 1 sC σ kv ks ∧ ks.length ≤ 8 := by
  obtain ⟨ks, _, e, h, h8⟩ := h
  obtain ⟨A, c, e2⟩ := h.slice
  exact ⟨ks, A, c, e, e2, h, h8⟩
open Go.Sp Go.Sp.Open
theorem full_ro (w : World) : RoHeap (full w) := fun k o h => by
  unfold full at h
  cases hb : w.heap[k]? with
  | none => rw [hb] at h; cases h
  | some x => rw [hb] at h; cases h; exact ⟨x, rfl⟩
open Go.RowKit Go.Sp Go.Sp.Open
def kdTurn : Kd Turn := ⟨2, fun w t cs => ∃ wv, cs = [wv, .string t.key] ∧ RoRows 3 Wr.cells (full w) wv t.ws ∧ t.ws.length ≤ 140737488355328 ∧ t.key.size ≤ 140737488351232⟩
def tcC (p : Value × ByteArray) : List Value := [p.1, .string p.2]
theorem list_ofG {α : Type} {P : Nat → α → Prop} : ∀ (n : Nat), (∀ i, i < n → ∃ v, P i v) → ∃ vs : List α, vs.length = n ∧ ∀ (i : Nat) v, vs[i]? = some v → P i v
  | 0, _ => ⟨[], rfl, fun i v h => by simp at h⟩
  | n + 1, h => by
    obtain ⟨vs, h1, h2⟩ := list_ofG n fun i hi => h i (by omega)
    obtain ⟨v, hv⟩ := h n (by omega)
    refine ⟨vs ++ [v], by simp [h1], fun i x hx => ?_⟩
    by_cases hi : i < n
    · rw [List.getElem?_append_left (by omega)] at hx; exact h2 i x hx
    · have := (List.getElem?_eq_some_iff.1 hx).1
      simp at this
      have e : i = n := by omega
      subst e
      rw [List.getElem?_append_right (by omega), h1] at hx
      simp at hx; subst hx; exact hv
theorem ro_turns {w : World} {A : Option Addr} {L : List Turn} (c : Nat) (h : kdTurn.C w A L) : TurnsAt (full w) (.slice A L.length c) L := by
  obtain ⟨vs, h1, h2⟩ := list_ofG (P := fun i (p : Value × ByteArray) => ∃ t, L[i]? = some t ∧ p.2 = t.key ∧ RoRows 3 Wr.cells (full w) p.1 t.ws ∧ t.ws.length ≤ 140737488355328 ∧ t.key.size ≤ 140737488351232 ∧ ∃ a, A = some a ∧ ∀ (j : Nat) u, (tcC p)[j]? = some u → w.cell? (a.add (i * 2 + j)) = some u) L.length fun i hi => by
    obtain ⟨a, e, cs, hl, ⟨wv, rfl, b1, b2, b3⟩, hc⟩ := h i _ (List.getElem?_eq_getElem hi)
    exact ⟨(wv, L[i].key), L[i], List.getElem?_eq_getElem hi, rfl, b1, b2, b3, a, e, hc⟩
  have hC : (Kd.of 2 tcC).C w A vs := fun j x hx => by
    obtain ⟨t, _, _, _, _, _, a, e, hc⟩ := h2 j x hx
    exact ⟨a, e, _, rfl, rfl, hc⟩
  have hro := ro_rows (c := c) (by decide) hC
  refine ⟨A, c, rfl, fun i t ht => ?_⟩
  have hi : i < vs.length := by rw [h1]; exact (List.getElem?_eq_some_iff.1 ht).1
  obtain ⟨t', e1, e2, b1, b2, b3, _⟩ := h2 i _ (List.getElem?_eq_getElem hi)
  rw [ht] at e1; cases e1
  obtain ⟨b, o, e3, h5⟩ := hro.get hi
  have h6 := rd_part h5 0 (v := vs[i].1) rfl
  have h7 := rd_part h5 1 (v := .string vs[i].2) rfl
  rw [Nat.add_zero] at h6
  rw [e2] at h7
  exact ⟨b, o, _, e3, h6, h7, b1, b2, b3⟩
theorem opensT31 : Opens Try.prog 31 (Kd.pair Kd.bool Kd.string) (fun (x : Bool × ByteArray) => (True ∧ ByteArray.size x.2 ≤ 140737488351232)) := by
  refine opens_struct Try.underlying31 (by kernel_rfl) ?_
  show OpensF Try.prog (_ :: _) 0 (Kd.pair Kd.bool Kd.string) _
  refine opensF_cons (G := fun (z : Bool) => True) (G' := (fun (z : ByteArray) => ByteArray.size z ≤ 140737488351232)) rfl (by kernel_rfl) (opens_bool Try.underlying4) ?_
  exact opensF_one rfl (by kernel_rfl) (opens_string Try.underlying9)
theorem opensT33 : Opens Try.prog 33 (Kd.pair Kd.string (Kd.pair Kd.bool Kd.string)) (fun (x : ByteArray × (Bool × ByteArray)) => (ByteArray.size x.1 ≤ 140737488351232 ∧ (True ∧ ByteArray.size x.2.2 ≤ 140737488351232))) := by
  refine opens_struct Try.underlying33 (by kernel_rfl) ?_
  show OpensF Try.prog (_ :: _) 0 (Kd.pair Kd.string (Kd.pair Kd.bool Kd.string)) _
  refine opensF_cons (G := fun (z : ByteArray) => ByteArray.size z ≤ 140737488351232) (G' := (fun (z : (Bool × ByteArray)) => (True ∧ ByteArray.size z.2 ≤ 140737488351232))) rfl (by kernel_rfl) (opens_string Try.underlying9) ?_
  exact opensF_one rfl (by kernel_rfl) opensT31
theorem opens_Wr : Opens Try.prog 33 (Kd.of 3 Wr.cells) (fun _ => True) := by
  refine opens_iso (fun (x : ByteArray × (Bool × ByteArray)) => (⟨x.1, x.2.1, x.2.2⟩ : Wr)) (fun w x cs h => ?_) (fun x h => ?_) opensT33
  · obtain ⟨_, _, rfl, rfl, ⟨_, _, rfl, rfl, rfl⟩⟩ := h; rfl
  · trivial
theorem opensT77 : Opens Try.prog 77 (Kd.pair (Kd.slice (Kd.of 3 Wr.cells)) Kd.string) (fun (x : (List Wr) × ByteArray) => ((List.length x.1 * 40 ≤ 140737488351232 ∧ ∀ y ∈ x.1, True) ∧ ByteArray.size x.2 ≤ 140737488351232)) := by
  refine opens_struct Try.underlying77 (by kernel_rfl) ?_
  show OpensF Try.prog (_ :: _) 0 (Kd.pair (Kd.slice (Kd.of 3 Wr.cells)) Kd.string) _
  refine opensF_cons (G := fun (z : (List Wr)) => (List.length z * 40 ≤ 140737488351232 ∧ ∀ y ∈ z, True)) (G' := (fun (z : ByteArray) => ByteArray.size z ≤ 140737488351232)) rfl (by kernel_rfl) (opens_slice 40 Try.underlying35 (by kernel_rfl) (by kernel_rfl) opens_Wr) ?_
  exact opensF_one rfl (by kernel_rfl) (opens_string Try.underlying9)
theorem opens_Turn : Opens Try.prog 77 kdTurn (fun _ => True) := by
  refine opens_rel opensT77 (fun w x cs hK hG => ?_)
  obtain ⟨_, _, rfl, ⟨A1, c1, rfl, _, hC1⟩, rfl⟩ := hK
  refine ⟨⟨x.1, x.2⟩, ⟨_, rfl, ro_rows (by decide) hC1, ?_, hG.2⟩, trivial⟩
  have hb := hG.1.1
  show List.length x.1 ≤ _
  omega
end Go.Proofs.Ytpnghjmphbhkjaa
