/- The store: a commit. -/
import Derived.Test.YtpnghjmphbhkjaaX12
namespace Go.Proofs.Ytpnghjmphbhkjaa
open Go.Sp
set_option linter.unusedSimpArgs false
set_option linter.unusedVariables false
theorem push_len {m : Nat} {v : Ver} {r : Row} (h : r.list.length ≤ m) : (r.push m v).list.length ≤ m := by
  unfold Row.push
  by_cases e : m < r.list.length + 1
  · rw [if_pos e]; simp; omega
  · rw [if_neg e]; simp; omega
structure StOk (S : St) : Prop where
  most : 1 ≤ S.most ∧ S.most ≤ 64
  len : ∀ k, (S.row k).list.length ≤ S.most
  last : S.last < 1048576
def RowRep (σ : Hp) (v : Value) (r : Row) : Prop := ∃ sv, v = .agg #[sv, .bool r.dropped] ∧ RowsOff 109 3 Ver.cells σ sv r.list
def noRow : Value := .agg #[.slice none 0 0, .bool false]
def MapRep (σ : Hp) (l : List (ByteArray × Value)) (R : ByteArray → Row) : Prop := ∀ k, RowRep σ ((mget l k).getD noRow) (R k)
structure StoreAt (σ : Hp) (g m : Nat) (S : St) : Prop where
  cell : σ g = some (.cells [.map (some m), .int .i64 S.most, .int .i64 S.last] 100)
  map : ∃ l, σ m = some (.mp l) ∧ MapRep σ l S.row
theorem RowRep.same {σ σ' : Hp} {v : Value} {r : Row} {F : Nat → Prop} (h : RowRep σ v r) (hs : Same F σ σ') (hF : ∀ k cs n, F k → σ k = some (.row cs n 109) → False) : RowRep σ' v r := by
  obtain ⟨sv, e, h⟩ := h
  exact ⟨sv, e, h.same hs hF⟩
theorem mget_mput_eq (k k' : ByteArray) (v : Value) : ∀ (l : List (ByteArray × Value)), mget (mput l k v) k' = if k' = k then some v else mget l k'
  | [] => by
    unfold mput mget
    by_cases h : k' = k
    · rw [if_pos h, if_pos h]
    · rw [if_neg h, if_neg h]; rfl
  | p :: r => by
    have ih := mget_mput_eq k k' v r
    unfold mput
    by_cases h : k = p.1
    · rw [if_pos h]
      unfold mget
      by_cases h' : k' = k
      · rw [if_pos h', if_pos h']
      · rw [if_neg h', if_neg h', if_neg (fun e => h' (e.trans h.symm))]
    · rw [if_neg h]
      unfold mget
      by_cases h' : k' = p.1
      · rw [if_pos h', if_pos h', if_neg (fun e => h (e.symm.trans h'))]
      · rw [if_neg h', if_neg h', ih]
theorem _root_.Go.Sp.open_4 {σ : Hp} {a b c d : Nat} {A B C D : Blk} (ha : σ a = some A) (hb : σ b = some B) (hc : σ c = some C) (hd : σ d = some D) : ∃ τ, τ = σ ∧ σ = upd (upd (upd (upd τ d D) c C) b B) a A := ⟨σ, rfl, by rw [upd_self hd, upd_self hc, upd_self hb, upd_self ha]⟩
theorem commit_round {σ1 τ1 σd σf : Hp} {m y : Nat} {l : List (ByteArray × Value)} {R : ByteArray → Row} {w : Wr} {most n : Nat} {sv : Value} {d : Bool} (hr0 : MapRep τ1 l R) (hlen : ∀ k, (R k).list.length ≤ most) (hs1 : Same (fun k => k = m) σ1 τ1)
    (hm : τ1 m = some (.mp l)) (hy : τ1 y = none) (h1 : Same (fun _ => False) τ1 σd) (hS : Same (fun k => k = m ∨ k = y) σd σf) (hd : d = ((R w.key).push most (w.ver n)).dropped) (hrow : RowsOff 109 3 Ver.cells σf sv ((R w.key).push most (w.ver n)).list) :
    MapRep σf (mput l w.key (.agg #[sv, .bool d])) (stepW most n R w) ∧ (∀ k, (stepW most n R w k).list.length ≤ most) ∧ Same (fun k => k = m) σ1 σf := by
  have hall : Same (fun k => k = m) τ1 σf := fun k hk hkm => by
    rw [hS k (by rw [h1 k hk (fun x => x)]; exact hk) (fun e => e.elim hkm fun e => hk (by rw [e]; exact hy)), h1 k hk (fun x => x)]
  refine ⟨fun k => ?_, fun k => ?_, hs1.trans hall fun i _ h => h⟩
  · rw [mget_mput_eq]
    unfold stepW
    by_cases e : k = w.key
    · rw [if_pos e, if_pos e, e]
      exact ⟨sv, by rw [hd]; rfl, hrow⟩
    · rw [if_neg e, if_neg e]
      exact (hr0 k).same hall fun k' cs r e h => by subst e; rw [hm] at h; cases h
  · unfold stepW
    by_cases e : k = w.key
    · rw [if_pos e]; exact push_len (hlen k)
    · rw [if_neg e]; exact hlen k
set_option maxHeartbeats 4000000 in
theorem commit9 {σ : Hp} {g m : Nat} {S : St} {v : Value} {ws : List Wr} (hS : StoreAt σ g m S) (hO : StOk S) {σ0 : Hp} (hv0 : RoRows 3 Wr.cells σ0 v ws) (hs0 : Sub σ0 σ) (hg0 : σ0 g = none) (hm0 : σ0 m = none) (hn : ws.length ≤ 140737488355328) :
    ACalls Try.prog 9 #[.pointer (some ⟨g, 0, none⟩), v] σ fun u σ' => (¬ checkV ws = 0 ∧ u = .tuple #[.int .i64 0, .int .i64 (checkV ws)] ∧ σ' = σ) ∨
      (checkV ws = 0 ∧ u = .tuple #[.int .i64 (S.last + 1 : Nat), .int .i64 0] ∧ StoreAt σ' g m (S.commit ws) ∧ Same (fun k => k = g ∨ k = m) σ σ') := by
  have HV := Hid.mk (hv0.sub hs0)
  have HV0 := Hid.mk hv0
  obtain ⟨A, c, rfl⟩ : ∃ A c, v = .slice A ws.length c := by obtain ⟨A, c, rfl, _⟩ := hv0; exact ⟨A, c, rfl⟩
  clear hv0
  have HS0 := Hid.mk (And.intro hs0 (And.intro hg0 hm0))
  clear hs0 hg0 hm0
  obtain ⟨hcell, l0, hm, hrep⟩ := hS
  have HR := Hid.mk hrep
  have HO := Hid.mk hO
  have hgm : ¬ g = m := fun e => by rw [e, hm] at hcell; cases hcell
  have hmg : ¬ m = g := fun e => hgm e.symm
  obtain ⟨τ, rfl⟩ := open_2 hcell hm hgm
  clear hcell hm hrep hO
  have hb : decide ((S.last : Int) ≥ 1099511627776) = false := by have := HO.out.last; simp; omega
  have e0 : IntKind.i64.wrap ((S.last : Int) + 1) = ((S.last + 1 : Nat) : Int) := by have := HO.out.last; rw [wi64 (by omega)]; rfl
  (refine acalls_F ok9 (by simp) ?_; unfold c9 r9)
  (repeat' (first | (simp +contextual -dsimp only [*, Wr.cells, ↓reduceIte, ↓evP, evQ, splice, Nat.reduceAdd, Nat.reduceEqDiff, Nat.reduceLeDiff, Nat.reduceMul, reduceCtorEq, Int.reduceLT, Int.reduceLE, Int.reduceGT, Int.reduceGE, Int.reduceEq, Int.reduceNeg]) | (refine condF_split (fun hc => ?_) (fun hc => ?_) <;> (try simp only [Bool.not_eq_true', Bool.not_eq_false', Bool.and_eq_true, Bool.or_eq_false_iff] at hc)) | refine callF_v (check41 HV.out hn) ?_ | refine ccallF_of (check41 HV.out hn) ?_ | refine gcallF_of (check41 HV.out hn) ?_ | (intro _; intros) | (refine And.intro ?_ ?_; focus (first | omega | ((repeat (first | exact Sub.refl _ | (refine Sub.drop ?_ ?_; focus (simp only [evN, *]; done)) | refine Sub.both ?_)); done) | (simp_all; done) | (simp_all; omega)))))
  · exact endF_at (.inl ⟨of_decide_eq_false hc, rfl, rfl⟩)
  have hck := Hid.mk (of_decide_eq_true hc)
  clear hc
  have hw8 : ws.length ≤ 8 := (check_good hck.out).few
  have hlast := HO.out.last
  obtain ⟨σ, hσ⟩ : ∃ σ, σ = upd (upd τ m (.mp l0)) g (.cells [.map (some m), .int .i64 S.most, .int .i64 S.last] 100) := ⟨_, rfl⟩
  obtain ⟨σ1, hσ1⟩ : ∃ σ1, σ1 = upd (upd τ m (.mp l0)) g (.cells [.map (some m), .int .i64 S.most, .int .i64 (S.last + 1 : Nat)] 100) := ⟨_, rfl⟩
  have h01 : Same (fun k => k = g) σ σ1 := by rw [hσ, hσ1]; exact Same.both rfl (Same.refl _ _)
  have hcell1 : σ1 g = some (.cells [.map (some m), .int .i64 S.most, .int .i64 (S.last + 1 : Nat)] 100) := by rw [hσ1, upd_same]
  have hm1 : σ1 m = some (.mp l0) := by rw [hσ1, upd_ne _ _ hmg, upd_same]
  have hσg : σ g = some (.cells [.map (some m), .int .i64 S.most, .int .i64 S.last] 100) := by rw [hσ, upd_same]
  rw [← hσ] at HV HR HS0
  rw [← hσ, ← hσ1]
  clear hσ hσ1
  have hs1 : Sub σ0 σ1 := HS0.out.1.same h01 fun k e => by rw [e]; exact HS0.out.2.1
  have hrep1 : MapRep σ1 l0 S.row := fun k => (HR.out k).same h01 fun k' cs n e h => by rw [e, hσg] at h; cases h
  refine loopF_of (fun k s σ' => ∃ (i : Nat) (l : List (ByteArray × Value)), i ≤ ws.length ∧ k = ws.length - i ∧ s 32 = .int .i64 i ∧ s 31 = .int .i64 ws.length ∧ s 30 = .slice A ws.length c ∧ s 0 = .pointer (some ⟨g, 0, none⟩) ∧
    σ' g = some (.cells [.map (some m), .int .i64 S.most, .int .i64 (S.last + 1 : Nat)] 100) ∧ σ' m = some (.mp l) ∧ MapRep σ' l ((ws.take i).foldl (stepW S.most (S.last + 1)) S.row) ∧ (∀ k, ((ws.take i).foldl (stepW S.most (S.last + 1)) S.row k).list.length ≤ S.most) ∧ Same (fun k => k = m) σ1 σ') ws.length (Sub.refl _)
    ⟨0, l0, by omega, rfl, (by first | rfl | (simp only [↓putO_get, ↓putO_no, init_zero, init_succ, Nat.reduceEqDiff, ↓reduceIte, *]; done) | (simp only [↓putO_get, ↓putO_no, init_zero, init_succ, Nat.reduceEqDiff, ↓reduceIte, *]; rfl)), (by first | rfl | (simp only [↓putO_get, ↓putO_no, init_zero, init_succ, Nat.reduceEqDiff, ↓reduceIte, *]; done) | (simp only [↓putO_get, ↓putO_no, init_zero, init_succ, Nat.reduceEqDiff, ↓reduceIte, *]; rfl)), (by first | rfl | (simp only [↓putO_get, ↓putO_no, init_zero, init_succ, Nat.reduceEqDiff, ↓reduceIte, *]; done) | (simp only [↓putO_get, ↓putO_no, init_zero, init_succ, Nat.reduceEqDiff, ↓reduceIte, *]; rfl)), (by first | rfl | (simp only [↓putO_get, ↓putO_no, init_zero, init_succ, Nat.reduceEqDiff, ↓reduceIte, *]; done) | (simp only [↓putO_get, ↓putO_no, init_zero, init_succ, Nat.reduceEqDiff, ↓reduceIte, *]; rfl)), hcell1, hm1, hrep1, HO.out.len, Same.refl _ _⟩ ?_
  clear hcell1 hm1 hrep1
  have hs1 := Hid.mk hs1
  rintro k s τ1 ⟨i, l, hi, hk, h32, h31, h30, hp0, hcell, hm, hrep, hlen, hsame⟩
  rcases Nat.lt_or_ge i ws.length with hlt | hge
  · obtain ⟨w, hw⟩ : ∃ w, ws[i]? = some w := ⟨_, List.getElem?_eq_getElem hlt⟩
    have hsub : Sub σ0 τ1 := hs1.out.same hsame fun k e => by rw [e]; exact HS0.out.2.2
    obtain ⟨b, off, e, hrd⟩ := (HV0.out.sub hsub).get hlt
    subst e
    rw [show ws[i] = w by rw [List.getElem?_eq_getElem hlt] at hw; exact Option.some.inj hw] at hrd
    have hd : decide ((i : Int) < (ws.length : Int)) = true := by simp; omega
    have e1 : IntKind.i64.wrap ((i : Int) + 1) = ((i + 1 : Nat) : Int) := by rw [wi64 (by omega)]; rfl
    obtain ⟨r, hr⟩ : ∃ r, r = (ws.take i).foldl (stepW S.most (S.last + 1)) S.row w.key := ⟨_, rfl⟩
    obtain ⟨sv, hsv, hrow⟩ := hrep w.key
    rw [← hr] at hsv hrow
    obtain ⟨ra, rc, rfl⟩ := hrow.slice
    unfold noRow at hsv
    have hrl : r.list.length ≤ S.most := by rw [hr]; exact hlen _
    have HR2 := Hid.mk (And.intro hrep (And.intro hlen (And.intro hsame (And.intro hw hsub))))
    have HROW := Hid.mk hrow
    have Hr := Hid.mk hr
    have hfold : (ws.take (i + 1)).foldl (stepW S.most (S.last + 1)) S.row = stepW S.most (S.last + 1) ((ws.take i).foldl (stepW S.most (S.last + 1)) S.row) w := by
      rw [List.take_add_one, hw, List.foldl_append]; rfl
    have hfold := Hid.mk hfold
    clear hr hrep hlen hsame hw hrow hsub
    have HC := Hid.mk (And.intro hcell hm)
    obtain ⟨τ2, rfl⟩ := open_2 hcell hm hgm
    clear hcell hm
    have hmost := HO.out.most
    (repeat' (first | (simp +contextual -dsimp only [*, Wr.cells, ↓reduceIte, ↓evP, evQ, splice, Nat.reduceAdd, Nat.reduceEqDiff, Nat.reduceLeDiff, Nat.reduceMul, reduceCtorEq, Int.reduceLT, Int.reduceLE, Int.reduceGT, Int.reduceGE, Int.reduceEq, Int.reduceNeg]) | (refine condF_split (fun hc => ?_) (fun hc => ?_) <;> (try simp only [Bool.not_eq_true', Bool.not_eq_false', Bool.and_eq_true, Bool.or_eq_false_iff] at hc)) | (intro _; intros) | (refine And.intro ?_ ?_; focus (first | omega | ((repeat (first | exact Sub.refl _ | (refine Sub.drop ?_ ?_; focus (simp only [evN, *]; done)) | refine Sub.both ?_)); done) | (simp_all; done) | (simp_all; omega)))))
    rename_i x x1 x1' x2 x2' x0 y y1 y1' y2 y2' y3 y3' y0
    obtain ⟨σb, hσb⟩ : ∃ σb, σb = upd (upd (upd (upd τ2 m (.mp l)) g (.cells [.map (some m), .int .i64 S.most, .int .i64 (S.last + 1 : Nat)] 100)) x (.cells [.string w.key, .bool w.has, .string w.data] 33)) y (.cells [.slice ra r.list.length rc, .bool r.dropped] 106) := ⟨_, rfl⟩
    have hnx : upd (upd τ2 m (.mp l)) g (.cells [.map (some m), .int .i64 S.most, .int .i64 (S.last + 1 : Nat)] 100) x = none := (by simp only [evN, *]; done)
    have hny : upd (upd (upd τ2 m (.mp l)) g (.cells [.map (some m), .int .i64 S.most, .int .i64 (S.last + 1 : Nat)] 100)) x (.cells [.string w.key, .bool w.has, .string w.data] 33) y = none := (by simp only [evN, *]; done)
    have hrowb : RowsOff 109 3 Ver.cells σb (.slice ra r.list.length rc) r.list := by rw [hσb]; exact (HROW.out.fresh hnx _).fresh hny _
    refine gcallF_first (clone42 (hσb ▸ hrowb) (by omega)) (fun v σ1 h => h.2.sub) ?_
    rintro v1 σc ⟨hr1, hm1⟩
    rw [← hσb] at hm1
    have H1 := Hid.mk (And.intro hr1 hm1)
    clear hr1 hm1
    (repeat' (first | (simp +contextual -dsimp only [*, Wr.cells, ↓reduceIte, ↓evP, evQ, splice, Nat.reduceAdd, Nat.reduceEqDiff, Nat.reduceLeDiff, Nat.reduceMul, reduceCtorEq, Int.reduceLT, Int.reduceLE, Int.reduceGT, Int.reduceGE, Int.reduceEq, Int.reduceNeg]) | (refine condF_split (fun hc => ?_) (fun hc => ?_) <;> (try simp only [Bool.not_eq_true', Bool.not_eq_false', Bool.and_eq_true, Bool.or_eq_false_iff] at hc)) | (intro _; intros) | (refine And.intro ?_ ?_; focus (first | omega | ((repeat (first | exact Sub.refl _ | (refine Sub.drop ?_ ?_; focus (simp only [evN, *]; done)) | refine Sub.both ?_)); done) | (simp_all; done) | (simp_all; omega)))))
    rename_i z z0
    refine app_row (ys := [w.ver (S.last + 1)]) Ver.cells_len (fun _ => rfl) (H1.out.1.fresh z0 _) (by first | (simp only [Nat.reduceMul, Nat.one_mul, Nat.zero_mul, rdn_row, rdn_same, rdn_ne, seg_zero, seg_cons, seg_skip, Option.map_some, not_false_eq_true, *]; done) | (simp only [Nat.reduceMul, Nat.one_mul, Nat.zero_mul, rdn_row, rdn_same, rdn_ne, seg_zero, seg_cons, seg_skip, Option.map_some, not_false_eq_true, *]; exact rfl)) rfl (by omega) (by omega) (by unfold maxLen; omega) ?_
    intro v2 σd hv2 hG
    have hMd := (H1.out.2.beside z0 _).grew hG
    have k1 : σd g = some (.cells [.map (some m), .int .i64 S.most, .int .i64 (S.last + 1 : Nat)] 100) := hMd.1.at (by rw [hσb]; simp only [upd_at, *, ↓reduceIte]) (fun x => x)
    have k2 : σd m = some (.mp l) := hMd.1.at (by rw [hσb]; simp only [upd_at, *, ↓reduceIte]) (fun x => x)
    have k3 : σd x = some (.cells [.string w.key, .bool w.has, .string w.data] 33) := hMd.1.at (by rw [hσb]; simp only [upd_at, *, ↓reduceIte]) (fun x => x)
    have k4 : σd y = some (.cells [.slice ra r.list.length rc, .bool r.dropped] 106) := hMd.1.at (by rw [hσb]; simp only [upd_at, *, ↓reduceIte]) (fun x => x)
    obtain ⟨b2, c2, rfl, hc2, hb2⟩ : ∃ b2 c2, v2 = .slice (some ⟨b2, 0, none⟩) (r.list.length + 1) c2 ∧ r.list.length + 1 ≤ c2 ∧ σd b2 = some (.row ((r.list ++ [w.ver (S.last + 1)]).flatMap Ver.cells) (c2 * 3) 109) := by
      rcases hv2 with ⟨_, e⟩ | ⟨b2, c2, e, h1, h2⟩
      · simp at e
      · rw [List.length_append] at e h1; exact ⟨b2, c2, e, h1, h2⟩
    have HD := Hid.mk (And.intro hv2 (And.intro hMd (And.intro k1 (And.intro k2 hb2))))
    have Hb := Hid.mk hσb
    have HRB := Hid.mk hrowb
    have hng : ∀ b2, σd b2 = some (.row ((r.list ++ [w.ver (S.last + 1)]).flatMap Ver.cells) (c2 * 3) 109) → ¬ b2 = g ∧ ¬ b2 = m ∧ ¬ b2 = x ∧ ¬ b2 = y := fun b h => ⟨(fun e => by rw [e, k1] at h; cases h), (fun e => by rw [e, k2] at h; cases h), (fun e => by rw [e, k3] at h; cases h), (fun e => by rw [e, k4] at h; cases h)⟩
    clear hv2 hG hMd hb2 hσb hrowb hrd
    obtain ⟨σe, hσe, hop⟩ := open_4 k1 k2 k3 k4
    rw [hop]
    have HE := Hid.mk (And.intro hσe hop)
    clear k1 k2 k3 k4 hσe hop
    (repeat' (first | (simp +contextual -dsimp only [*, Wr.cells, ↓reduceIte, ↓evP, evQ, splice, Nat.reduceAdd, Nat.reduceEqDiff, Nat.reduceLeDiff, Nat.reduceMul, reduceCtorEq, Int.reduceLT, Int.reduceLE, Int.reduceGT, Int.reduceGE, Int.reduceEq, Int.reduceNeg]) | (refine condF_split (fun hc => ?_) (fun hc => ?_) <;> (try simp only [Bool.not_eq_true', Bool.not_eq_false', Bool.and_eq_true, Bool.or_eq_false_iff] at hc)) | (intro _; intros) | (refine And.intro ?_ ?_; focus (first | omega | ((repeat (first | exact Sub.refl _ | (refine Sub.drop ?_ ?_; focus (simp only [evN, *]; done)) | refine Sub.both ?_)); done) | (simp_all; done) | (simp_all; omega)))))
    · have hgt : S.most < r.list.length + 1 := by have := of_decide_eq_true hc; omega
      have hsl : lf (.sll 3) [.slice (some ⟨b2, 0, none⟩) (r.list.length + 1) c2, .int .i64 (IntKind.i64.wrap (((r.list.length + 1 : Nat) : Int) - (S.most : Int)))] = some (.slice (some ⟨b2, (r.list.length + 1 - S.most) * 3, none⟩) (r.list.length + 1 - (r.list.length + 1 - S.most)) (c2 - (r.list.length + 1 - S.most))) := by
        rw [wi64 (by omega), show (((r.list.length + 1 : Nat) : Int) - (S.most : Int)) = ((r.list.length + 1 - S.most : Nat) : Int) by omega, sll_at 3 b2 0 _ c2 _ (by omega) (by omega), Nat.zero_add]
      (repeat' (first | (simp +contextual -dsimp only [*, Wr.cells, ↓reduceIte, ↓evP, evQ, splice, Nat.reduceAdd, Nat.reduceEqDiff, Nat.reduceLeDiff, Nat.reduceMul, reduceCtorEq, Int.reduceLT, Int.reduceLE, Int.reduceGT, Int.reduceGE, Int.reduceEq, Int.reduceNeg]) | (refine condF_split (fun hc => ?_) (fun hc => ?_) <;> (try simp only [Bool.not_eq_true', Bool.not_eq_false', Bool.and_eq_true, Bool.or_eq_false_iff] at hc)) | (intro _; intros) | (refine And.intro ?_ ?_; focus (first | omega | ((repeat (first | exact Sub.refl _ | (refine Sub.drop ?_ ?_; focus (simp only [evN, *]; done)) | refine Sub.both ?_)); done) | (simp_all; done) | (simp_all; omega)))))
      refine nextF_of (ws.length - (i + 1)) (by omega) (Sub.refl _) ⟨i + 1, _, by omega, rfl, (by first | rfl | (simp only [↓putO_get, ↓putO_no, init_zero, init_succ, Nat.reduceEqDiff, ↓reduceIte, *]; done) | (simp only [↓putO_get, ↓putO_no, init_zero, init_succ, Nat.reduceEqDiff, ↓reduceIte, *]; rfl)), (by first | rfl | (simp only [↓putO_get, ↓putO_no, init_zero, init_succ, Nat.reduceEqDiff, ↓reduceIte, *]; done) | (simp only [↓putO_get, ↓putO_no, init_zero, init_succ, Nat.reduceEqDiff, ↓reduceIte, *]; rfl)), (by first | rfl | (simp only [↓putO_get, ↓putO_no, init_zero, init_succ, Nat.reduceEqDiff, ↓reduceIte, *]; done) | (simp only [↓putO_get, ↓putO_no, init_zero, init_succ, Nat.reduceEqDiff, ↓reduceIte, *]; rfl)), (by first | rfl | (simp only [↓putO_get, ↓putO_no, init_zero, init_succ, Nat.reduceEqDiff, ↓reduceIte, *]; done) | (simp only [↓putO_get, ↓putO_no, init_zero, init_succ, Nat.reduceEqDiff, ↓reduceIte, *]; rfl)), (by first | (simp only [upd_at, *, ↓reduceIte]; done) | (simp only [upd_at, *, ↓reduceIte]; rfl)), (by first | (simp only [upd_at, *, ↓reduceIte]; done) | (simp only [upd_at, *, ↓reduceIte]; rfl)), ?_⟩
      obtain ⟨hv2, hMd, _, hdm, hb2⟩ := HD.out
      rw [hfold.out]
      refine commit_round (σd := σd) (y := y) HR2.out.1 HR2.out.2.1 HR2.out.2.2.1 (by first | (simp only [upd_at, *, ↓reduceIte]; done) | (simp only [upd_at, *, ↓reduceIte]; rfl)) (by simp only [evN, *]; done) ?_ ?_ ?_ ?_
      · have := hMd.1
        rw [Hb.out] at this
        exact (this.unUpd hny).unUpd hnx
      · conv => lhs; rw [HE.out.2]
        exact (by repeat (first | exact Same.refl _ _ | (refine Same.updNew ?_ ?_; focus (simp only [evN, *]; done)) | (refine Same.both ?_ ?_; focus (first | exact rfl | exact .inl rfl | exact .inr rfl)) | (refine Same.updIn ?_ ?_; focus (first | exact rfl | exact .inl rfl | exact .inr rfl)) | refine Same.eq ?_))
      · rw [← Hr.out]; unfold Row.push; rw [if_pos hgt]
      · rw [← Hr.out]; unfold Row.push; rw [if_pos hgt]
        have hq := (RowsOff.of hv2).drop Ver.cells_len (r.list.length + 1 - S.most) (by omega)
        rw [Nat.zero_add] at hq
        exact hq.keep fun k hk => by cases hk; simp only [upd_at, hng b2 hb2, ↓reduceIte]; rw [HE.out.1]
    · have hgt : ¬ S.most < r.list.length + 1 := by have := of_decide_eq_false hc; omega
      refine nextF_of (ws.length - (i + 1)) (by omega) (Sub.refl _) ⟨i + 1, _, by omega, rfl, (by first | rfl | (simp only [↓putO_get, ↓putO_no, init_zero, init_succ, Nat.reduceEqDiff, ↓reduceIte, *]; done) | (simp only [↓putO_get, ↓putO_no, init_zero, init_succ, Nat.reduceEqDiff, ↓reduceIte, *]; rfl)), (by first | rfl | (simp only [↓putO_get, ↓putO_no, init_zero, init_succ, Nat.reduceEqDiff, ↓reduceIte, *]; done) | (simp only [↓putO_get, ↓putO_no, init_zero, init_succ, Nat.reduceEqDiff, ↓reduceIte, *]; rfl)), (by first | rfl | (simp only [↓putO_get, ↓putO_no, init_zero, init_succ, Nat.reduceEqDiff, ↓reduceIte, *]; done) | (simp only [↓putO_get, ↓putO_no, init_zero, init_succ, Nat.reduceEqDiff, ↓reduceIte, *]; rfl)), (by first | rfl | (simp only [↓putO_get, ↓putO_no, init_zero, init_succ, Nat.reduceEqDiff, ↓reduceIte, *]; done) | (simp only [↓putO_get, ↓putO_no, init_zero, init_succ, Nat.reduceEqDiff, ↓reduceIte, *]; rfl)), (by first | (simp only [upd_at, *, ↓reduceIte]; done) | (simp only [upd_at, *, ↓reduceIte]; rfl)), (by first | (simp only [upd_at, *, ↓reduceIte]; done) | (simp only [upd_at, *, ↓reduceIte]; rfl)), ?_⟩
      obtain ⟨hv2, hMd, _, hdm, hb2⟩ := HD.out
      rw [hfold.out]
      refine commit_round (σd := σd) (y := y) HR2.out.1 HR2.out.2.1 HR2.out.2.2.1 (by first | (simp only [upd_at, *, ↓reduceIte]; done) | (simp only [upd_at, *, ↓reduceIte]; rfl)) (by simp only [evN, *]; done) ?_ ?_ ?_ ?_
      · have := hMd.1
        rw [Hb.out] at this
        exact (this.unUpd hny).unUpd hnx
      · conv => lhs; rw [HE.out.2]
        exact (by repeat (first | exact Same.refl _ _ | (refine Same.updNew ?_ ?_; focus (simp only [evN, *]; done)) | (refine Same.both ?_ ?_; focus (first | exact rfl | exact .inl rfl | exact .inr rfl)) | (refine Same.updIn ?_ ?_; focus (first | exact rfl | exact .inl rfl | exact .inr rfl)) | refine Same.eq ?_))
      · rw [← Hr.out]; unfold Row.push; rw [if_neg hgt]
      · rw [← Hr.out]; unfold Row.push; rw [if_neg hgt]
        have hq := RowsOff.of hv2
        exact hq.keep fun k hk => by cases hk; simp only [upd_at, hng b2 hb2, ↓reduceIte]; rw [HE.out.1]
  · have hd : decide ((i : Int) < (ws.length : Int)) = false := by simp; omega
    have HR2 := Hid.mk (And.intro hrep (And.intro hlen hsame))
    clear hrep hlen hsame
    have hrdl : rd τ1 g 2 = some (.int .i64 (S.last + 1 : Nat)) := by unfold rd; rw [hcell]; rfl
    (repeat' (first | (simp +contextual -dsimp only [*, Wr.cells, ↓reduceIte, ↓evP, evQ, splice, Nat.reduceAdd, Nat.reduceEqDiff, Nat.reduceLeDiff, Nat.reduceMul, reduceCtorEq, Int.reduceLT, Int.reduceLE, Int.reduceGT, Int.reduceGE, Int.reduceEq, Int.reduceNeg]) | (refine condF_split (fun hc => ?_) (fun hc => ?_) <;> (try simp only [Bool.not_eq_true', Bool.not_eq_false', Bool.and_eq_true, Bool.or_eq_false_iff] at hc)) | (intro _; intros) | (refine And.intro ?_ ?_; focus (first | omega | ((repeat (first | exact Sub.refl _ | (refine Sub.drop ?_ ?_; focus (simp only [evN, *]; done)) | refine Sub.both ?_)); done) | (simp_all; done) | (simp_all; omega)))))
    obtain ⟨hrep, hlen, hsame⟩ := HR2.out
    have e2 : ws.take i = ws := List.take_of_length_le hge
    rw [e2] at hrep
    refine endF_at (.inr ⟨hck.out, rfl, ⟨hcell, l, hm, hrep⟩, ?_⟩)
    exact (show Same (fun k => k = g ∨ k = m) σ σ1 from fun k hk h => h01 k hk fun e => h (.inl e)).trans hsame fun i _ h => .inr h
end Go.Proofs.Ytpnghjmphbhkjaa
