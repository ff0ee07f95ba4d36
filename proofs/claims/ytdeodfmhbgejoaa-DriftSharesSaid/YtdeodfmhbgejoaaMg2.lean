/- Greedy drifts find a sharing where there is one; the law DriftEither. -/
import Derived.Test.YtdeodfmhbgejoaaMg1
namespace Go.VE
open Go.RowKit Go.Proofs
set_option maxRecDepth 100000

/-! ### the plain law -/
def Mono (P : Claim → Int → Bool) : Prop := ∀ c w w', w ≤ w' → (vClaim c.family c.heads c.from_ c.to = true) → P c w = true → P c w' = true
theorem sum_nonneg : ∀ (l : List Cell), (∀ c ∈ l, 0 ≤ c.worth) → 0 ≤ (l.map Cell.worth).sum
  | [], _ => by simp
  | c :: l, h => by
    have := sum_nonneg l fun c hc => h c (by simp [hc])
    have := h c (by simp)
    simp only [List.map_cons, List.sum_cons]; omega
theorem worth_wide {cl : List Cell} (hc : okWorth cl) {a a' b : Int} (h : a' ≤ a) : worthV cl a b ≤ worthV cl a' b := by
  unfold worthV seg
  have e : (cl.take (b + 1).toNat).drop a'.toNat = ((cl.take (b + 1).toNat).drop a'.toNat).take (a.toNat - a'.toNat) ++ (cl.take (b + 1).toNat).drop a.toNat := by
    rw [show (cl.take (b + 1).toNat).drop a.toNat = ((cl.take (b + 1).toNat).drop a'.toNat).drop (a.toNat - a'.toNat) by rw [List.drop_drop]; congr 1; omega]
    rw [List.take_append_drop]
  rw [e]
  simp only [List.map_append, List.sum_append]
  have := sum_nonneg (((cl.take (b + 1).toNat).drop a'.toNat).take (a.toNat - a'.toNat)) fun c h => (hc.2 c (List.mem_of_mem_take (List.mem_of_mem_drop (List.mem_of_mem_take h)))).1
  omega
theorem ltr_find {P : Claim → Int → Bool} {cl : List Cell} {c : Claim} {fr t0 : Int} (hP : P c (worthV cl fr t0) = true) (h1 : t0 ≤ c.to) (h2 : t0 < cl.length) : ∀ (n : Nat) (t : Int), (t0 - t).toNat = n → t ≤ t0 → ∃ t1, ltr P cl c fr t = some t1 ∧ t1 ≤ t0
  | 0, t, hn, ht => by
    have : t = t0 := by omega
    subst this
    rw [ltr_in ⟨h1, h2⟩, if_pos hP]; exact ⟨t, rfl, Int.le_refl _⟩
  | n + 1, t, hn, ht => by
    rw [ltr_in ⟨by omega, by omega⟩]
    split
    · exact ⟨t, rfl, ht⟩
    · exact ltr_find hP h1 h2 n (t + 1) (by omega) (by omega)
theorem grd_complete {P : Claim → Int → Bool} {cl : List Cell} (hm : Mono P) (hc : okWorth cl) : ∀ {l : List Claim} {e : List Drift} {last a : Int} {ds : List Drift} {ss : List Int}, shr last e l = true → a ≤ last + 1 →
    (∀ c ∈ l, vClaim c.family c.heads c.from_ c.to = true ∧ c.to < cl.length) → (∀ p ∈ e.zip l, P p.2 (worthV cl p.1.fr p.1.to_) = true) → (grd P cl l a ds ss).2.2 = true
  | [], _, _, _, _, _, _, _, _, _ => rfl
  | c :: l, [], _, _, _, _, h, _, _, _ => by cases h
  | c :: l, d :: e, last, a, ds, ss, h, ha, hv, hp => by
    simp only [shr, Bool.and_eq_true, decide_eq_true_eq] at h
    have hvc := hv c (by simp)
    have hP := hp (d, c) (by simp)
    simp only at hP
    have hP2 := hm c _ _ (worth_wide hc (show max a c.from_ ≤ d.fr by omega)) hvc.1 hP
    obtain ⟨t, ht, hle⟩ := ltr_find hP2 h.1.2.2.1 (by omega) _ (max a c.from_) rfl (by omega)
    simp only [grd, ht]
    exact grd_complete hm hc h.2 (by omega) (fun c h => hv c (by simp [h])) (fun p h => hp p (by simp [h]))
theorem mono_any : Mono anyP := fun _ _ _ _ _ _ => rfl

/-! ### Share, Crowded -/
theorem s33t (n : Nat) (cs : List Chain) (cl : List Cell) (l : List Claim) (hok : cOK cs cl l = 0) {best : List Drift} {g : Int × Int} {x : D} {r : Rr} {b : D} (e : FN (n + 5) 68 [dChains cs, dCells cl, dClaims l] = some (0, [.d (dDrifts best), .d (il g.1), .d (il g.2), .d x, .r r, .d b, .d (bl true)])) :
    FN (n + 6) 33 [dChains cs, dCells cl, dClaims l] = some (0, [.d (dDrifts best), .d (il 0)]) := by
  rw [F33]
  simp only [G33, r_call, s67, hok, if_true, r_bnd0, r_ld0, r_lds, r_liti, r_neq, r_cond]
  rw [r_ptrW [dChains cs, dCells cl, dClaims l] 3 _ rfl]
  simp [e]
theorem s33f (n : Nat) (cs : List Chain) (cl : List Cell) (l : List Claim) (hok : cOK cs cl l = 0) {y a c x b : D} {r : Rr} (e : FN (n + 5) 68 [dChains cs, dCells cl, dClaims l] = some (0, [.d y, .d a, .d c, .d x, .r r, .d b, .d (bl false)])) :
    FN (n + 6) 33 [dChains cs, dCells cl, dClaims l] = some (0, [.d (.lit (.slice none 0 0)), .d (il 47)]) := by
  rw [F33]
  simp only [G33, r_call, s67, hok, if_true, r_bnd0, r_ld0, r_lds, r_liti, r_neq, r_cond]
  rw [r_ptrW [dChains cs, dCells cl, dClaims l] 3 _ rfl]
  simp [e]
theorem s34t (n : Nat) (cs : List Chain) (cl : List Cell) (l : List Claim) (hok : cOK cs cl l = 0) {ds : List Drift} {ss : List Int} (hg : grd anyP cl l 0 [] [] = (ds, ss, true)) :
    FN (n + 6) 34 [dChains cs, dCells cl, dClaims l] = some (0, [.d (il 0), .d (il 0), .d (il 48)]) := by
  obtain ⟨hgr, hl, hcl⟩ := cOK_in hok
  have hvv : ∀ c ∈ l, vClaim c.family c.heads c.from_ c.to = true := fun c hc => (okClaims_mem hcl c hc).1
  have e := s74 (n + 2) anyP (.fn 75 []) (dChains cs) cl l (okG_worth hgr) hvv hl (c75 (n + 3)) hg
  rw [F34]
  simp only [G34, r_call, s67, hok, if_true, r_bnd0, r_ld0, r_lds, r_liti, r_neq, r_cond]
  rw [r_ptrW [dChains cs, dCells cl, dClaims l] 3 _ rfl]
  simp [e]
theorem s34f (n : Nat) (cs : List Chain) (cl : List Cell) (l : List Claim) (hok : cOK cs cl l = 0) {ds : List Drift} {ss : List Int} (hg : grd anyP cl l 0 [] [] = (ds, ss, false)) :
    ∃ a b : Int, FN (n + 6) 34 [dChains cs, dCells cl, dClaims l] = some (0, [.d (il a), .d (il b), .d (il 0)]) ∧ crd l a b = true := by
  obtain ⟨hgr, hl, hcl⟩ := cOK_in hok
  have hv := okClaims_mem hcl
  have hvv : ∀ c ∈ l, vClaim c.family c.heads c.from_ c.to = true := fun c hc => (hv c hc).1
  have e := s74 (n + 2) anyP (.fn 75 []) (dChains cs) cl l (okG_worth hgr) hvv hl (c75 (n + 3)) hg
  obtain ⟨e', he, h2, h3, h4, h5, h6⟩ := grd_any (fun c hc => (hv c hc).2) hg
  simp only [List.nil_append] at he
  subst he
  obtain ⟨a, b, e34, hc⟩ := s34loop (n + 5) cl l ss (dsD ds) (bl false) (il 0) (il 0) hv hl.2 h2 h3 h4 h5 h6
  refine ⟨a, b, ?_, hc⟩
  have w : IntKind.i64.wrap ((ss.length : Int) - 1) = (ss.length : Int) - 1 := wrap_id (by omega) (by omega)
  rw [F34]
  simp only [G34, r_call, s67, hok, if_true, r_bnd0, r_ld0, r_lds, r_liti, r_neq, r_cond]
  rw [r_ptrW [dChains cs, dCells cl, dClaims l] 3 _ rfl]
  simp [e, rI_len, w, e34]

end Go.VE
/- Walls: what shows that nobody gets more. -/
namespace Go.VE
open Go.RowKit Go.Proofs
set_option maxRecDepth 100000

theorem ltr_least {P : Claim → Int → Bool} {cl : List Cell} {c : Claim} {fr : Int} : ∀ (n : Nat) {to t : Int}, ltry P cl c fr n to = some t → ∀ u, to ≤ u → u < t → P c (worthV cl fr u) = false
  | 0, _, _, h, _, _, _ => by cases h
  | n + 1, to, t, h, u, h1, h2 => by
    simp only [ltry] at h
    split at h
    · split at h
      · cases h; omega
      · rename_i hp
        by_cases hu : u = to
        · subst hu; simpa using hp
        · exact ltr_least n h u (by omega) h2
    · cases h
theorem ltr_none {P : Claim → Int → Bool} {cl : List Cell} {c : Claim} {fr to u : Int} (h : ltr P cl c fr to = none) (h1 : to ≤ u) (h2 : u ≤ c.to) (h3 : u < cl.length) : P c (worthV cl fr u) = false := by
  cases hP : P c (worthV cl fr u) with
  | false => rfl
  | true =>
    obtain ⟨t, ht, _⟩ := ltr_find hP h2 h3 _ to rfl h1
    rw [h] at ht; cases ht
theorem grd_false {P : Claim → Int → Bool} {cl : List Cell} : ∀ {l : List Claim} {a : Int} {ds ds' : List Drift} {ss ss' : List Int}, (∀ c ∈ l, 0 ≤ c.from_ ∧ c.from_ ≤ c.to ∧ c.to < 24) → 0 ≤ a → a ≤ 24 → grd P cl l a ds ss = (ds', ss', false) →
    ∃ e : List Int, ss' = ss ++ e ∧ 1 ≤ e.length ∧ e.length ≤ l.length ∧ e[0]? = some a ∧ (∀ x ∈ e, 0 ≤ x ∧ x ≤ 24) ∧ (∀ (i : Nat) x y c, e[i]? = some x → e[i + 1]? = some y → l[i]? = some c → ltr P cl c (max x c.from_) (max x c.from_) = some (y - 1)) ∧ (∀ x c, e[e.length - 1]? = some x → l[e.length - 1]? = some c → ltr P cl c (max x c.from_) (max x c.from_) = none)
  | [], a, ds, ds', ss, ss', _, _, _, h => by simp [grd] at h
  | c :: l, a, ds, ds', ss, ss', hc, ha, ha2, h => by
    simp only [grd] at h
    have hcc := hc c (by simp)
    split at h
    · rename_i t ht
      have hb := ltr_bnd _ ht
      obtain ⟨e, h1, h2, h3, h4, h4b, h5, h6⟩ := grd_false (fun c h => hc c (by simp [h])) (by omega) (by omega) h
      refine ⟨a :: e, by simp [h1], by simp, by simp; omega, rfl, ?_, ?_, ?_⟩
      · intro x hx
        rcases List.mem_cons.1 hx with rfl | hx
        · omega
        · exact h4b x hx
      · intro i x y d hx hy hd
        cases i with
        | zero =>
          simp at hx hd
          subst hx hd
          rw [show (0 : Nat) + 1 = 1 from rfl, List.getElem?_cons_succ, h4] at hy
          cases hy
          rw [ht]; congr 1; omega
        | succ i => exact h5 i x y d (by simpa using hx) (by simpa using hy) (by simpa using hd)
      · intro x d hx hd
        have e1 : (a :: e).length - 1 = (e.length - 1) + 1 := by simp; omega
        rw [e1] at hx hd
        exact h6 x d (by simpa using hx) (by simpa using hd)
    · rename_i hn
      simp only [Prod.mk.injEq] at h
      refine ⟨[a], h.2.1.symm, by simp, by simp, rfl, ?_, ?_, ?_⟩
      · intro x hx; simp at hx; subst hx; omega
      · intro i x y d hx hy hd; cases i <;> simp at hy
      · intro x d hx hd
        simp at hx hd
        subst hx hd
        exact hn

/-- A wall from claims on: each start, the next ones. -/
def shw (cl : List Cell) (g : Int × Int) : List Claim → List Int → Bool
  | c :: l, x :: y :: ss => decide (max x c.from_ < y) && !aboveP g c (worthV cl (max x c.from_) (y - 2)) && shw cl g l (y :: ss)
  | _, [_] => true
  | _, _ => false
def lastOK : List Claim → List Int → Bool
  | c :: _, [_, y] => decide (c.to < y - 1)
  | _ :: l, _ :: y :: z :: ss => lastOK l (y :: z :: ss)
  | _, _ => false
def inW (n : Int) : Bool := decide (0 ≤ n ∧ n ≤ 25)
/-- What the program asks of a wall. -/
def wallOK (cl : List Cell) (l : List Claim) (f : Int) (ss : List Int) (g : Int × Int) : Bool :=
  decide (1 ≤ (ss.length : Int) - 1 ∧ 0 ≤ f ∧ f ≤ l.length - ((ss.length : Int) - 1)) && decide (ss.head? = (l[f.toNat]?).map (·.from_)) && ss.all inW && shw cl g (l.drop f.toNat) ss && lastOK (l.drop f.toNat) ss

/-! ### the plain law: a wall shows it -/
theorem worth_empty {cl : List Cell} {a b : Int} (h : b < a) (ha : 0 ≤ a) : worthV cl a b = 0 := by
  have : seg cl a b = [] := by unfold seg; simp; omega
  simp [worthV, this]
/-- The wall that the search leads to. -/
def wallV (l : List Claim) (ss : List Int) : List Int :=
  let s1 := ss.set 0 ((l.headD ⟨0, 0, 0, 0⟩).from_)
  let c := l.getD (ss.length - 1) ⟨0, 0, 0, 0⟩
  let fr := max (s1.getD (ss.length - 1) 0) c.from_
  s1 ++ [max (fr + 1) (c.to + 2)]
theorem shw_snoc {cl : List Cell} (hc : okWorth cl) {g : Int × Int} (hg : 0 ≤ g.1 ∧ 0 ≤ g.2) : ∀ {l : List Claim} {ss : List Int} (z : Int), 1 ≤ ss.length → ss.length ≤ l.length →
    (∀ (i : Nat) x y c, ss[i]? = some x → ss[i + 1]? = some y → l[i]? = some c → max x c.from_ < y ∧ aboveP g c (worthV cl (max x c.from_) (y - 2)) = false) →
    (∀ x c, ss[ss.length - 1]? = some x → l[ss.length - 1]? = some c → max x c.from_ < z ∧ aboveP g c (worthV cl (max x c.from_) (z - 2)) = false ∧ c.to < z - 1) →
    shw cl g l (ss ++ [z]) = true ∧ lastOK l (ss ++ [z]) = true
  | _, [], _, h, _, _, _ => by simp at h
  | [], _ :: _, _, _, h, _, _ => by simp at h
  | c :: l, [x], z, _, _, _, h => by
    have := h x c rfl rfl
    refine ⟨?_, by simp [lastOK]; omega⟩
    simp only [List.cons_append, List.nil_append, shw, Bool.and_eq_true, decide_eq_true_eq, this.2.1]
    refine ⟨⟨this.1, rfl⟩, ?_⟩
    cases l <;> trivial
  | c :: l, x :: y :: ss, z, _, hl, h1, h2 => by
    have h0 := h1 0 x y c rfl rfl rfl
    have ih := shw_snoc hc hg (l := l) (ss := y :: ss) z (by simp) (by simpa using hl) (fun i x' y' c' hx hy hd => h1 (i + 1) x' y' c' (by simpa using hx) (by simpa using hy) (by simpa using hd)) (fun x' c' hx hd => h2 x' c' (by simpa using hx) (by simpa using hd))
    have e : ∃ q qs, ss ++ [z] = q :: qs := by cases ss with | nil => exact ⟨z, [], rfl⟩ | cons a b => exact ⟨a, b ++ [z], rfl⟩
    obtain ⟨q, qs, e⟩ := e
    simp only [List.cons_append, e] at ih ⊢
    simp only [shw, Bool.and_eq_true, decide_eq_true_eq, h0.2, lastOK]
    exact ⟨⟨⟨h0.1, rfl⟩, ih.1⟩, ih.2⟩
theorem wallV_ok {cl : List Cell} {l : List Claim} {g : Int × Int} {mds : List Drift} {mss : List Int} (hc : okWorth cl) (hg : 0 ≤ g.1 ∧ 0 ≤ g.2) (hv : ∀ c ∈ l, vClaim c.family c.heads c.from_ c.to = true ∧ c.to < cl.length) (h : grd (aboveP g) cl l 0 [] [] = (mds, mss, false)) :
    wallOK cl l 0 (wallV l mss) g = true ∧ 1 ≤ mss.length ∧ mss.length ≤ l.length ∧ ∀ x ∈ mss, 0 ≤ x ∧ x ≤ 24 := by
  have hcl := hc.1
  have hct : ∀ c ∈ l, 0 ≤ c.from_ ∧ c.from_ ≤ c.to ∧ c.to < 24 := fun c h => by
    have := (hv c h).1; simp only [vClaim, decide_eq_true_eq] at this; omega
  obtain ⟨e, he, h1, h2, h3, h4, h5, h6⟩ := grd_false hct (by omega) (by omega) h
  simp only [List.nil_append] at he
  subst he
  refine ⟨?_, h1, h2, h4⟩
  obtain ⟨c0, l', rfl⟩ : ∃ c r, l = c :: r := by
    cases l with
    | nil => simp only [List.length_nil] at h2; omega
    | cons c r => exact ⟨c, r, rfl⟩
  have hc0 := hct c0 (by simp)
  -- the starts with the first one set
  have hset : ∀ (i : Nat) x, (mss.set 0 c0.from_)[i]? = some x → ∃ x', mss[i]? = some x' ∧ ∀ c, (c0 :: l')[i]? = some c → max x c.from_ = max x' c.from_ := by
    intro i x hx
    cases i with
    | zero =>
      refine ⟨0, h3, fun c hcc => ?_⟩
      simp at hcc; subst hcc
      rw [List.getElem?_set_self (by omega)] at hx
      cases hx; omega
    | succ i =>
      rw [List.getElem?_set_ne (by omega)] at hx
      exact ⟨x, hx, fun _ _ => rfl⟩
  have hlast : mss.length - 1 < (c0 :: l').length := by omega
  have hcL : (c0 :: l')[mss.length - 1]? = some (c0 :: l')[mss.length - 1] := by simp [hlast]
  have hL : (mss.set 0 c0.from_)[mss.length - 1]? = some ((mss.set 0 c0.from_).getD (mss.length - 1) 0) := getD_some 0 (by simp; omega)
  have hvL := hct _ (List.getElem_mem hlast)
  have hvL2 := (hv _ (List.getElem_mem hlast)).2
  have hgd : (c0 :: l').getD (mss.length - 1) ⟨0, 0, 0, 0⟩ = (c0 :: l')[mss.length - 1] := by simp [List.getD_eq_getElem?_getD, hcL]
  unfold wallV
  simp only [List.headD_cons, hgd]
  generalize (c0 :: l')[mss.length - 1] = cL at hcL hvL hvL2
  generalize (mss.set 0 c0.from_).getD (mss.length - 1) 0 = xL at hL
  have key := shw_snoc hc hg (l := c0 :: l') (ss := mss.set 0 c0.from_) (max (max xL cL.from_ + 1) (cL.to + 2)) (by simp; omega) (by simp; simp at h2; omega) ?_ ?_
  · have hb : ∀ x ∈ mss.set 0 c0.from_, 0 ≤ x ∧ x ≤ 24 := fun x hx => by
      rcases List.mem_or_eq_of_mem_set hx with hx | rfl
      · exact h4 x hx
      · omega
    have hxL := hb xL (List.mem_of_getElem? hL)
    unfold wallOK
    simp only [Bool.and_eq_true, decide_eq_true_eq, List.length_append, List.length_set, List.length_singleton, Int.toNat_zero, List.drop_zero, key.1, key.2, List.all_append, List.all_cons, List.all_nil, Bool.and_true, and_true]
    refine ⟨⟨by simp only [List.length_cons] at h2 ⊢; omega, ?_⟩, ?_, by simp only [inW, decide_eq_true_eq]; omega⟩
    · cases mss with
      | nil => simp at h1
      | cons m ms => simp
    · rw [List.all_eq_true]
      intro x hx
      have := hb x hx
      simp only [inW, decide_eq_true_eq]; omega
  · intro i x y c hx hy hcc
    obtain ⟨x', hx', hm⟩ := hset i x hx
    rw [List.getElem?_set_ne (by omega)] at hy
    have hltr := h5 i x' y c hx' hy hcc
    rw [hm c hcc]
    have hb := ltr_bnd _ hltr
    refine ⟨by omega, ?_⟩
    have hcb := hct c (List.mem_of_getElem? hcc)
    rcases Int.lt_or_le (y - 2) (max x' c.from_) with hlt | hge
    · rw [worth_empty hlt (by omega)]
      have hvc := (hv c (List.mem_of_getElem? hcc)).1
      simp only [vClaim, decide_eq_true_eq] at hvc
      have : 0 ≤ g.1 * c.heads := Int.mul_nonneg hg.1 (by omega)
      simp [aboveP]; omega
    · exact ltr_least _ hltr _ hge (by omega)
  · intro x c hx hcc
    rw [List.length_set] at hx hcc
    rw [hL] at hx; cases hx
    rw [hcL] at hcc; cases hcc
    obtain ⟨x', hx', hm⟩ := hset _ _ hL
    have hltr := h6 x' cL hx' hcL
    have hmm := hm cL hcL
    rw [hmm]
    refine ⟨by omega, ?_, by omega⟩
    rcases Int.lt_or_le cL.to (max x' cL.from_) with hlt | hge
    · rw [worth_empty (by omega) (by omega)]
      have hvc := (hv cL (List.mem_of_getElem? hcL)).1
      simp only [vClaim, decide_eq_true_eq] at hvc
      have : 0 ≤ g.1 * cL.heads := Int.mul_nonneg hg.1 (by omega)
      simp [aboveP]; omega
    · rw [show max (max x' cL.from_ + 1) (cL.to + 2) - 2 = cL.to by omega]
      exact ltr_none hltr hge (Int.le_refl _) hvL2
end Go.VE
/- Least, Wall, CheckWall, Gains. -/
namespace Go.VE
open Go.RowKit Go.Proofs
set_option maxRecDepth 100000

theorem s27t (n : Nat) (cs : List Chain) (cl : List Cell) (l : List Claim) (hok : cOK cs cl l = 0) {y x b : D} {g : Int × Int} {r : Rr} (e : FN (n + 5) 68 [dChains cs, dCells cl, dClaims l] = some (0, [.d y, .d (il g.1), .d (il g.2), .d x, .r r, .d b, .d (bl true)])) :
    FN (n + 6) 27 [dChains cs, dCells cl, dClaims l] = some (0, [.d (il g.1), .d (il g.2), .d (il 0)]) := by
  rw [F27]
  simp only [G27, r_call, s67, hok, if_true, r_bnd0, r_ld0, r_lds, r_liti, r_neq, r_cond]
  rw [r_ptrW [dChains cs, dCells cl, dClaims l] 3 _ rfl]
  simp [e]
theorem s27f (n : Nat) (cs : List Chain) (cl : List Cell) (l : List Claim) (hok : cOK cs cl l = 0) {y a c x b : D} {r : Rr} (e : FN (n + 5) 68 [dChains cs, dCells cl, dClaims l] = some (0, [.d y, .d a, .d c, .d x, .r r, .d b, .d (bl false)])) :
    FN (n + 6) 27 [dChains cs, dCells cl, dClaims l] = some (0, [.d (il 0), .d (il 0), .d (il 47)]) := by
  rw [F27]
  simp only [G27, r_call, s67, hok, if_true, r_bnd0, r_ld0, r_lds, r_liti, r_neq, r_cond]
  rw [r_ptrW [dChains cs, dCells cl, dClaims l] 3 _ rfl]
  simp [e]
theorem s43f (n : Nat) (cs : List Chain) (cl : List Cell) (l : List Claim) (hok : cOK cs cl l = 0) {y a c x b : D} {r : Rr} (e : FN (n + 5) 68 [dChains cs, dCells cl, dClaims l] = some (0, [.d y, .d a, .d c, .d x, .r r, .d b, .d (bl false)])) :
    FN (n + 6) 43 [dChains cs, dCells cl, dClaims l] = some (0, [.d (il 0), .d (.lit (.slice none 0 0)), .d (il 47)]) := by
  rw [F43]
  simp only [G43, r_call, s67, hok, if_true, r_bnd0, r_ld0, r_lds, r_liti, r_neq, r_cond]
  rw [r_ptrW [dChains cs, dCells cl, dClaims l] 3 _ rfl]
  simp [e]
theorem s43t (n : Nat) (cs : List Chain) (cl : List Cell) (l : List Claim) (hok : cOK cs cl l = 0) {y a c x b : D} {mss : List Int} (h1 : 1 ≤ mss.length) (h2 : mss.length ≤ l.length) (h3 : ∀ x ∈ mss, 0 ≤ x ∧ x ≤ 24)
    (e : FN (n + 5) 68 [dChains cs, dCells cl, dClaims l] = some (0, [.d y, .d a, .d c, .d x, .r (rI mss), .d b, .d (bl true)])) :
    FN (n + 6) 43 [dChains cs, dCells cl, dClaims l] = some (0, [.d (il 0), .d (dI (wallV l mss)), .d (il 0)]) := by
  obtain ⟨hgr, hl, hcl⟩ := cOK_in hok
  have hv := okClaims_mem hcl
  have hct : ∀ c ∈ l, 0 ≤ c.from_ ∧ c.from_ ≤ c.to ∧ c.to < 24 := fun c h => by
    have := (hv c h).1; simp only [vClaim, decide_eq_true_eq] at this; omega
  obtain ⟨c0, l', hl0⟩ : ∃ c r, l = c :: r := by
    cases l with
    | nil => simp only [List.length_nil] at hl; omega
    | cons c r => exact ⟨c, r, rfl⟩
  have hc0 : l[0]? = some c0 := by rw [hl0]; rfl
  have hb0 := hct c0 (List.mem_of_getElem? hc0)
  have hlast : mss.length - 1 < l.length := by omega
  have hcL : l[mss.length - 1]? = some l[mss.length - 1] := by simp [hlast]
  have hbL := hct _ (List.getElem_mem hlast)
  have hgd : l.getD (mss.length - 1) ⟨0, 0, 0, 0⟩ = l[mss.length - 1] := by simp [List.getD_eq_getElem?_getD, hcL]
  have hL : (mss.set 0 c0.from_)[mss.length - 1]? = some ((mss.set 0 c0.from_).getD (mss.length - 1) 0) := getD_some 0 (by simp; omega)
  have hbs : ∀ x ∈ mss.set 0 c0.from_, 0 ≤ x ∧ x ≤ 24 := fun x hx => by
    rcases List.mem_or_eq_of_mem_set hx with hx | rfl
    · exact h3 x hx
    · omega
  have hxL := hbs _ (List.mem_of_getElem? hL)
  have hm0 : mss[0]? = some mss[0] := by simp [show 0 < mss.length by omega]
  generalize mss[0] = m0 at hm0
  have hw : wallV l mss = mss.set 0 c0.from_ ++ [max (max ((mss.set 0 c0.from_).getD (mss.length - 1) 0) l[mss.length - 1].from_ + 1) (l[mss.length - 1].to + 2)] := by
    unfold wallV
    have hhd : l.headD ⟨0, 0, 0, 0⟩ = c0 := by rw [hl0]; rfl
    simp only [hgd, hhd]
  rw [hw]
  generalize l[mss.length - 1] = cL at hcL hbL
  generalize (mss.set 0 c0.from_).getD (mss.length - 1) 0 = xL at hL hxL
  have hr0 := rI_at hm0
  have hrL := rI_at hL
  rw [rI_set] at hrL
  have w1 : IntKind.i64.wrap ((mss.length : Int) - 1) = (mss.length : Int) - 1 := wrap_id (by omega) (by omega)
  have w2 : IntKind.i64.wrap (max xL cL.from_ + 1) = max xL cL.from_ + 1 := wrap_id (by omega) (by omega)
  have w3 : IntKind.i64.wrap (cL.to + 2) = cL.to + 2 := wrap_id (by omega) (by omega)
  have ht : ((mss.length : Int) - 1).toNat = mss.length - 1 := by omega
  have hi1 : (0 : Int) ≤ (mss.length : Int) - 1 ∧ (mss.length : Int) - 1 < (mss.length : Int) := by omega
  have hi0 : (0 : Int) ≤ 0 ∧ (0 : Int) < (mss.length : Int) := by omega
  have hf : (mss.length + 1) * 8 ≤ 140737488355328 ∧ mss.length + 1 ≤ 9223372036854775807 := by omega
  have hn0 : (0 : Int) ≤ (mss.length : Int) - 1 := by omega
  rw [F43]
  simp only [G43, r_call, s67, hok, if_true, r_bnd0, r_ld0, r_lds, r_liti, r_neq, r_cond]
  rw [r_ptrW [dChains cs, dCells cl, dClaims l] 3 _ rfl]
  simp only [ne_eq, not_true_eq_false, decide_false, Bool.false_eq_true, if_false, r_cell0, r_cells, e, r_bnd0, r_ld0, r_lds, r_lrs, r_lr0, r_not, Bool.not_true, r_cond]
  simp only [dClaims]
  rw [r_rowD 4 _ 0 _ (rClaim c0) (Int.le_refl _) (by simp [hc0]) rfl]
  simp only [r_eqN, if_true, r_len, rI_len, r_inxg, hi0, and_self, r_rowAtg, Int.toNat_zero, hr0, List.length_cons, List.length_nil, r_natD, r_sub, w1, r_setR, List.length_set, hi1, ht, rClaim, r_cell0, r_cells, hrL]
  rw [r_rowD 4 _ _ _ (rClaim cL) hn0 (by rw [ht]; simp [hcL]) rfl]
  simp only [rClaim, r_cell0, r_cells, r_mm, if_true, r_add, w2]
  rw [r_rowD 4 _ _ _ (rClaim cL) hn0 (by rw [ht]; simp [hcL]) rfl]
  simp only [rClaim, r_cell0, r_cells, r_mm, if_true, r_add, w3, r_natN, r_rows, List.length_cons, List.length_nil, r_addN, r_seg0, r_app]
  rw [r_fitsg, if_pos (by simp; omega)]
  simp [dI, rI, List.map_set]
  exact List.take_of_length_le (by simp)

theorem c100 (n : Nat) (z : Int) : FnDof (cf3 tb Try.prog) (FN (n + 2)) (.fn 100 []) [.one] [il z] = some (0, [.d (bl (!inW z))]) := by
  have e : FN (n + 2) 100 [il z] = some (0, [.d (bl (!inW z))]) := by
    rw [F100]; simp only [G100, r_call, s59, r_bnd0, r_ld0, r_liti, r_not, r_out]; rfl
  simp only [FnDof, vdsOf, flatV, cf3, tb, ashT, rskT, isOneD, Option.map_some, List.map_nil, List.append_nil, e]
  simp [D.isLit, bl]
theorem s99 (n : Nat) (ss : List Int) (hl : ss.length ≤ 140737488355328) : FN (n + 4) 99 [dI ss, .fn 100 []] = some (0, [.d (bl (!(ss.all inW)))]) := by
  rw [F99]
  simp only [G99, r_call]
  rw [F109]
  have key := range_loop (β := Unit) ss (by omega) (L109_0 (RP (n + 2))) (fun i _ => [.d (dI ss), .d (.fn 100 []), .d (il ss.length), .d (il (i : Int))]) (fun _ _ => True)
    (fun i r _ => match r.findIdx? (fun n => !inW n) with | some j => some (0, [.d (il ((i + j : Nat) : Int))]) | none => some (1, [])) ?_ ?_ M0 () trivial (M0_big (by omega))
  · simp only [dI, Int.cast_ofNat_Int] at key
    simp only [G109, dI, r_lenD, rI_len, r_loop, r_liti, key]
    cases h2 : List.findIdx? (fun n => !inW n) ss with
    | none =>
      have : (ss.all inW) = true := by
        rw [List.findIdx?_eq_none_iff] at h2
        rw [List.all_eq_true]; intro x hx; simpa using h2 x hx
      rw [this]; simp
    | some j =>
      obtain ⟨hj, hp, _⟩ := List.findIdx?_eq_some_iff_getElem.1 h2
      have : (ss.all inW) = false := by
        rw [List.all_eq_false]; exact ⟨ss[j], List.getElem_mem hj, by simpa using hp⟩
      rw [this]; simp
  · intro _ k _; simp [L109_0]
  · intro i z r _ k hz hd hi hw _ ih
    have ih' := ih () trivial
    have e := c100 n z
    simp only [dI, Int.natCast_add, Int.cast_ofNat_Int] at ih'
    simp only [L109_0, r_ld0, r_lds, r_lss, r_cond, Int.ofNat_lt, hi, decide_true, if_true, dI, r_rowDg, Int.natCast_nonneg, and_self, Int.toNat_natCast, rI_at hz, List.length_cons, List.length_nil, r_cell0, r_callD, e, r_bnd0, r_out, r_add, hw, r_liti, List.findIdx?_cons]
    cases h : (!inW z) with
    | true => simp
    | false =>
      simp
      rw [ih']
      cases h2 : List.findIdx? (fun n => !inW n) r with
      | none => simp
      | some j => simp; omega
theorem lastOK_at : ∀ {l : List Claim} {ss : List Int} (m : Nat), ss.length = m + 2 → m + 1 ≤ l.length → ∀ x c, ss[m + 1]? = some x → l[m]? = some c → lastOK l ss = decide (c.to < x - 1)
  | [], _, m, _, h, _, _, _, _ => by simp at h
  | _ :: _, [], m, h, _, _, _, _, _ => by simp at h
  | _ :: _, [_], m, h, _, _, _, _, _ => by simp at h
  | c :: l, [x, y], m, h, _, z, d, hz, hd => by
    have : m = 0 := by simp at h; omega
    subst this
    simp at hz hd; subst hz hd; rfl
  | c :: l, x :: y :: z :: ss, m, h, hl, u, d, hu, hd => by
    obtain ⟨k, rfl⟩ : ∃ k, m = k + 1 := ⟨m - 1, by simp at h; omega⟩
    have := lastOK_at (l := l) (ss := y :: z :: ss) k (by simp at h ⊢; omega) (by simpa using hl) u d (by simpa using hu) (by simpa using hd)
    simpa [lastOK] using this

set_option maxHeartbeats 1000000 in
theorem s84 (n : Nat) (ch : D) (cl : List Cell) (l : List Claim) (f : Int) (ss : List Int) (g : Int × Int) (hc : okWorth cl) (hv : ∀ c ∈ l, vClaim c.family c.heads c.from_ c.to = true) (hl : 1 ≤ l.length ∧ l.length ≤ 12) (hs : ss.length ≤ 140737488355328) (hg : 0 ≤ g.1 ∧ g.1 ≤ 1000000 ∧ 0 ≤ g.2 ∧ g.2 ≤ 1000000) :
    FN (n + 5) 84 [ch, dCells cl, dClaims l, il f, dI ss, il g.1, il g.2] = some (0, [.d (bl (wallOK cl l f ss g))]) := by
  rw [F84]
  have w1 : IntKind.i64.wrap ((ss.length : Int) - 1) = (ss.length : Int) - 1 := wrap_id (by omega) (by omega)
  have w2 : IntKind.i64.wrap ((l.length : Int) - ((ss.length : Int) - 1)) = (l.length : Int) - ((ss.length : Int) - 1) := wrap_id (by omega) (by omega)
  simp only [G84, dI, r_lenD, rI_len, r_liti, r_litb, r_sub, w1, r_lss, r_cond, decide_eq_true_eq, r_out, dClaims, List.length_map, w2, r_gtr]
  by_cases c1 : (ss.length : Int) - 1 < 1
  · have : wallOK cl l f ss g = false := by
      unfold wallOK
      rw [show decide (1 ≤ (ss.length : Int) - 1 ∧ 0 ≤ f ∧ f ≤ l.length - ((ss.length : Int) - 1)) = false by simp; omega]; simp
    rw [if_pos c1, this]
  rw [if_neg c1]
  by_cases c2 : f < 0
  · have : wallOK cl l f ss g = false := by
      unfold wallOK
      rw [show decide (1 ≤ (ss.length : Int) - 1 ∧ 0 ≤ f ∧ f ≤ l.length - ((ss.length : Int) - 1)) = false by simp; omega]; simp
    rw [if_pos c2, this]
  rw [if_neg c2]
  by_cases c3 : (l.length : Int) - ((ss.length : Int) - 1) < f
  · have : wallOK cl l f ss g = false := by
      unfold wallOK
      rw [show decide (1 ≤ (ss.length : Int) - 1 ∧ 0 ≤ f ∧ f ≤ l.length - ((ss.length : Int) - 1)) = false by simp; omega]; simp
    rw [if_pos c3, this]
  rw [if_neg c3]
  obtain ⟨F, rfl⟩ : ∃ F : Nat, f = F := ⟨f.toNat, by omega⟩
  obtain ⟨m, hm⟩ : ∃ m, ss.length = m + 2 := ⟨ss.length - 2, by omega⟩
  have hFl : F < l.length := by omega
  have hx0 : ss[0]? = some ss[0] := by simp [show 0 < ss.length by omega]
  have hcF : l[F]? = some l[F] := by simp [hFl]
  have hd0 : decide (1 ≤ (ss.length : Int) - 1 ∧ 0 ≤ (F : Int) ∧ (F : Int) ≤ l.length - ((ss.length : Int) - 1)) = true := by simp; omega
  have hh : ss.head? = some ss[0] := by rw [List.head?_eq_getElem?]; exact hx0
  have hwall : wallOK cl l (F : Int) ss g = (decide (ss[0] = l[F].from_) && (ss.all inW) && shw cl g (l.drop F) ss && lastOK (l.drop F) ss) := by
    unfold wallOK
    rw [hd0, Int.toNat_natCast, hcF, hh]
    simp
  rw [hwall]
  generalize ss[0] = x0 at hx0
  generalize l[F] = cF at hcF
  have hr0 := rI_at hx0
  simp only [r_rowDg, Int.le_refl, and_self, if_true, Int.toNat_zero, hr0, List.length_cons, List.length_nil, Int.natCast_nonneg, Int.toNat_natCast, List.getElem?_map, hcF, Option.map_some, rClaim, r_cell0, r_cells, r_neq, r_cond, decide_eq_true_eq, r_out]
  by_cases c4 : x0 = cF.from_
  case neg => simp [c4]
  simp only [c4, ne_eq, not_true_eq_false, if_false, decide_true, Bool.true_and, r_call, r_fnD, r_loop]
  have e99 := s99 n ss hs
  simp only [dI] at e99
  rw [e99]
  simp only [r_bnd0, r_ld0, r_cond]
  cases hall : (ss.all inW) with
  | false => simp
  | true =>
    simp only [Bool.not_true, Bool.false_eq_true, if_false, Bool.true_and]
    have hbd : ∀ x ∈ ss, 0 ≤ x ∧ x ≤ 25 := fun x hx => by simpa [inW] using List.all_eq_true.1 hall x hx
    have key := loop_ms (σ := Nat) [L84_0 (RP (n + 4))] (fun i => (0, [.d ch, .d (dCells cl), .d (dClaims l), .d (il ((ss.length : Int) - 1)), .d (il ((ss.length : Int) - 1)), .d (il (i : Int)), .d (il g.1), .d (il g.2), .d (il (F : Int)), .d (dI ss)])) (fun i => m + 1 - i) (fun i => i ≤ m + 1)
      (fun i => match shw cl g (l.drop (F + i)) (ss.drop i) with | true => some (1, [.d ch, .d (dCells cl), .d (dClaims l), .d (il ((ss.length : Int) - 1)), .d (il (F : Int)), .d (dI ss)]) | false => some (0, [.d (bl false)])) ?_ M0 0 (by omega) (M0_big (by omega))
    · simp only [Int.cast_ofNat_Int, List.drop_zero, Nat.add_zero, dI, dClaims] at key
      rw [key]
      cases hsh : shw cl g (l.drop F) ss with
      | false => simp
      | true =>
        have hxm : ss[m + 1]? = some ss[m + 1] := by simp [show m + 1 < ss.length by omega]
        have hcm : l[F + m]? = some l[F + m] := by simp [show F + m < l.length by omega]
        have hla := lastOK_at (l := l.drop F) (ss := ss) m hm (by simp; omega) _ l[F + m] hxm (by simp [hcm])
        rw [hla]
        have hbx := hbd _ (List.mem_of_getElem? hxm)
        generalize ss[m + 1] = xm at hxm hbx
        generalize l[F + m] = cm at hcm
        have hrm := rI_at hxm
        have t1 : ((ss.length : Int) - 1).toNat = m + 1 := by omega
        have t2 : (0 : Int) ≤ (ss.length : Int) - 1 := by omega
        have w3 : IntKind.i64.wrap (xm - 1) = xm - 1 := wrap_id (by omega) (by omega)
        have w4 : IntKind.i64.wrap ((F : Int) + ((ss.length : Int) - 1)) = (F : Int) + ((ss.length : Int) - 1) := wrap_id (by omega) (by omega)
        have w5 : IntKind.i64.wrap ((F : Int) + ((ss.length : Int) - 1) - 1) = ((F + m : Nat) : Int) := by rw [wrap_id (by omega) (by omega)]; omega
        simp only [r_bnd1, r_ld0, r_lds, r_rowDg, t1, t2, and_self, if_true, hrm, List.length_cons, List.length_nil, r_cell0, r_sub, w3, r_add, w4, w5, Int.natCast_nonneg, Int.toNat_natCast, List.getElem?_map, hcm, Option.map_some, rClaim, r_cells, r_gtr, r_out, r_liti, Bool.true_and]
    · intro i k hi ih
      refine ⟨_, rfl, ?_⟩
      by_cases hlt : i < m + 1
      · have hxi : ss[i]? = some ss[i] := by simp [show i < ss.length by omega]
        have hyi : ss[i + 1]? = some ss[i + 1] := by simp [show i + 1 < ss.length by omega]
        have hci : l[F + i]? = some l[F + i] := by simp [show F + i < l.length by omega]
        have d1 : ss.drop i = ss[i] :: ss.drop (i + 1) := List.drop_eq_getElem_cons (by omega)
        have d2 : ss.drop (i + 1) = ss[i + 1] :: ss.drop (i + 1 + 1) := List.drop_eq_getElem_cons (by omega)
        have d3 : l.drop (F + i) = l[F + i] :: l.drop (F + i + 1) := List.drop_eq_getElem_cons (by omega)
        have hbx := hbd _ (List.mem_of_getElem? hxi)
        have hby := hbd _ (List.mem_of_getElem? hyi)
        have hvc := hv _ (List.mem_of_getElem? hci)
        have ih' := ih (i + 1) (by omega) (by omega)
        simp only at ih'
        rw [d2, show F + (i + 1) = F + i + 1 by omega] at ih'
        simp only
        rw [d1, d2, d3]
        simp only [shw]
        generalize ss[i] = x at hxi hbx
        generalize ss[i + 1] = y at hyi hby ih'
        generalize l[F + i] = c at hci hvc
        have hvc' := hvc
        simp only [vClaim, decide_eq_true_eq] at hvc'
        have hrx := rI_at hxi
        have hry := rI_at hyi
        have hi1 : (i : Int) < (ss.length : Int) - 1 := by omega
        have v1 : IntKind.i64.wrap ((F : Int) + i) = ((F + i : Nat) : Int) := by rw [wrap_id (by omega) (by omega)]; simp
        have v2 : IntKind.i64.wrap ((i : Int) + 1) = ((i + 1 : Nat) : Int) := by rw [wrap_id (by omega) (by omega)]; simp
        have v3 : IntKind.i64.wrap (y - 2) = y - 2 := wrap_id (by omega) (by omega)
        have e81 := s81 (n + 2) cl (max x c.from_) (y - 2) ch hc (by omega) (by omega)
        have hw := seg_worth hc (max x c.from_) (y - 2)
        have ec := c105 n g hg c (worthV cl (max x c.from_) (y - 2)) hvc hw.1 hw.2
        have e92 := s92 (n + 3) g.1 g.2
        simp only [L84_0, r_ld0, r_lds, r_lss, hi1, decide_true, r_cond, if_true, r_add, v1, dClaims, r_rowDg, Int.natCast_nonneg, and_self, Int.toNat_natCast, List.getElem?_map, hci, Option.map_some, rClaim, List.length_cons, List.length_nil, r_liti, v2, dI, hry, hrx, r_cell0, r_cells, r_mm, r_leq, r_call, e92, r_bnd0, r_sub, v3, e81, r_callD, ec, r_out, r_litb, decide_eq_true_eq]
        by_cases g1 : y ≤ max x c.from_
        · have : ¬ max x c.from_ < y := by omega
          simp [g1, this]
        · have g2 : max x c.from_ < y := by omega
          rw [if_neg g1]
          cases hab : aboveP g c (worthV cl (max x c.from_) (y - 2)) with
          | true => simp
          | false =>
            simp only [dClaims, dI] at ih'
            simp only [g2, decide_true, Bool.not_false, Bool.true_and, Bool.false_eq_true, if_false]
            exact ih'
      · have he : i = m + 1 := by omega
        subst he
        have hi1 : ¬ ((m + 1 : Nat) : Int) < (ss.length : Int) - 1 := by omega
        have d1 : ∃ z, ss.drop (m + 1) = [z] := by
          refine ⟨ss[m + 1], ?_⟩
          rw [List.drop_eq_getElem_cons (by omega), List.drop_eq_nil_of_le (by omega)]
        obtain ⟨z, d1⟩ := d1
        have : shw cl g (l.drop (F + (m + 1))) [z] = true := by cases l.drop (F + (m + 1)) <;> rfl
        simp only [d1, this]
        simp only [L84_0, r_ld0, r_lds, r_lss, hi1, decide_false, r_cond, Bool.false_eq_true, if_false, r_out]

def cwErr (cs : List Chain) (cl : List Cell) (l : List Claim) (f : Int) (ss : List Int) (g : Int × Int) : Int := if cOK cs cl l = 0 then (if isG g.1 g.2 then (if wallOK cl l f ss g then 0 else 49) else 1) else cOK cs cl l
theorem s44 (n : Nat) (cs : List Chain) (cl : List Cell) (l : List Claim) (f : Int) (ss : List Int) (g : Int × Int) (hs : ss.length ≤ 140737488355328) :
    FN (n + 6) 44 [dChains cs, dCells cl, dClaims l, il f, dI ss, il g.1, il g.2] = some (0, [.d (il (cwErr cs cl l f ss g))]) := by
  rw [F44]
  simp only [G44, r_call, s67, s69, r_bnd0, r_ld0, r_lds, r_liti, r_neq, r_cond, r_not, r_out, cwErr]
  by_cases h : cOK cs cl l = 0
  · obtain ⟨hgr, hl, hcl⟩ := cOK_in h
    rw [if_neg (by simp [h]), if_pos h]
    by_cases h2 : isG g.1 g.2 = true
    · have h2' := h2
      simp only [isG, decide_eq_true_eq] at h2'
      have e := s84 n (dChains cs) cl l f ss g (okG_worth hgr) (fun c hc => (okClaims_mem hcl c hc).1) hl hs (by omega)
      rw [if_neg (by simp [h2]), if_pos h, if_pos h2, r_ptrW [dChains cs, dCells cl, dClaims l] 3 _ rfl]
      simp only [r_cell0, r_cells, e, r_bnd0, r_ld0, r_not, r_cond, r_out]
      cases wallOK cl l f ss g <;> simp
    · simp [h, h2]
  · simp [h]
theorem s45 (n : Nat) (cs : List Chain) (cl : List Cell) (l : List Claim) (ds : List Drift) (hd : ds.length ≤ 140737488355328) :
    FN (n + 7) 45 [dChains cs, dCells cl, dClaims l, dDrifts ds] = if cOK cs cl l = 0 then (if shr (-1) ds l = true then some (0, [.d (dGains (gainsL cl l ds)), .d (il 0)]) else some (0, [.d (.lit (.slice none 0 0)), .d (il 46)])) else some (0, [.d (.lit (.slice none 0 0)), .d (il (cOK cs cl l))]) := by
  rw [F45]
  simp only [G45, r_call, s36 _ _ _ _ _ hd, r_bnd0, r_ld0, r_liti, r_litNil, r_neq, r_cond, r_out]
  by_cases h : cOK cs cl l = 0
  · obtain ⟨hgr, hl, hcl⟩ := cOK_in h
    have hv := okClaims_mem hcl
    have hct : ∀ c ∈ l, 0 ≤ c.from_ ∧ c.to < 24 := fun c h => by
      have := (hv c h).1; simp only [vClaim, decide_eq_true_eq] at this; omega
    simp only [h, if_true]
    cases hs : shr (-1) ds l with
    | false => simp
    | true =>
      have e := s85 (n + 3) cl l ds (dChains cs) (okG_worth hgr) (fun c hc => (hv c hc).1) hl (shr_len hs) (fun d hd => by have := shr_in hs hct d hd; omega)
      have hlits : (((gainsL cl l ds).map rG).all fun r => r.all D.isLit) = true := by
        simp [rG, isLit_il]
      simp only [if_true, ne_eq, not_true_eq_false, decide_false, Bool.false_eq_true, if_false, e, r_bnd0, r_lr0, r_litsg, List.all_cons, List.all_nil, ynLit, hlits, Bool.and_self, r_eqN, r_len, r_slD, r_seg0, List.take_length, dGains]
  · simp [h]
end Go.VE
/- The plain law of Least: nothing lies above the least gain of the best sharing; a wall shows it. -/
namespace Go.VE
open Go.RowKit Go.Proofs
set_option maxRecDepth 100000

def gLe (a b : Int × Int) : Prop := a.1 * b.2 ≤ b.1 * a.2
theorem gLe_refl (a : Int × Int) : gLe a a := Int.le_refl _
theorem gLe_trans {a b c : Int × Int} (ha : 1 ≤ a.2) (hb : 1 ≤ b.2) (hc : 1 ≤ c.2) (h1 : gLe a b) (h2 : gLe b c) : gLe a c := by
  unfold gLe at *
  have e1 := Int.mul_le_mul_of_nonneg_right h1 (show 0 ≤ c.2 by omega)
  have e2 := Int.mul_le_mul_of_nonneg_right h2 (show 0 ≤ a.2 by omega)
  have : a.1 * c.2 * b.2 ≤ c.1 * a.2 * b.2 := by
    have x1 : a.1 * c.2 * b.2 = a.1 * b.2 * c.2 := by simp [Int.mul_comm, Int.mul_left_comm]
    have x2 : b.1 * a.2 * c.2 = b.1 * c.2 * a.2 := by simp [Int.mul_comm, Int.mul_left_comm]
    have x3 : c.1 * b.2 * a.2 = c.1 * a.2 * b.2 := by simp [Int.mul_comm, Int.mul_left_comm]
    omega
  exact Int.le_of_mul_le_mul_right this (by omega)
theorem gLt_iff {a b : Int × Int} : gLt a b = true ↔ ¬ gLe b a := by
  simp only [gLt, gLe, decide_eq_true_eq]; omega
theorem minFrom_le : ∀ (gs : List (Int × Int)) (m : Int × Int), (∀ p ∈ m :: gs, 1 ≤ p.2) → ∀ x ∈ m :: gs, gLe (minFrom m gs) x
  | [], m, _, x, hx => by
    simp only [List.mem_singleton] at hx; subst hx; exact gLe_refl _
  | y :: r, m, h, x, hx => by
    have hy := h y (by simp)
    have hm := h m (by simp)
    have hr : ∀ p ∈ r, 1 ≤ p.2 := fun p hp => h p (by simp [hp])
    simp only [minFrom]
    split
    · rename_i hlt
      have h' : ∀ p ∈ y :: r, 1 ≤ p.2 := fun p hp => h p (by simp only [List.mem_cons] at hp ⊢; exact .inr hp)
      have ih := minFrom_le r y h'
      have hmin := h' _ (minFrom_ok r y)
      rcases List.mem_cons.1 hx with rfl | hx
      · refine gLe_trans hmin hy hm (ih y (by simp)) ?_
        have := gLt_iff.1 hlt
        unfold gLe at *; omega
      · exact ih x hx
    · rename_i hlt
      have h' : ∀ p ∈ m :: r, 1 ≤ p.2 := fun p hp => by
        rcases List.mem_cons.1 hp with rfl | hp
        · exact hm
        · exact hr p hp
      have ih := minFrom_le r m h'
      have hmin := h' _ (minFrom_ok r m)
      rcases List.mem_cons.1 hx with rfl | hx
      · exact ih x (by simp)
      · rcases List.mem_cons.1 hx with rfl | hx
        · refine gLe_trans hmin hm hy (ih m (by simp)) ?_
          have : ¬ gLt x m = true := hlt
          rw [gLt_iff] at this
          exact Classical.byContradiction this
        · exact ih x (by simp [hx])
theorem minL_le {l : List (Int × Int)} (h : ∀ p ∈ l, 1 ≤ p.2) : ∀ x ∈ l, gLe (minL l) x := by
  cases l with
  | nil => intro x hx; cases hx
  | cons g gs => exact minFrom_le gs g h
theorem all_above {cl : List Cell} {l : List Claim} {e : List Drift} {g : Int × Int} (hc : okWorth cl) (hv : ∀ c ∈ l, vClaim c.family c.heads c.from_ c.to = true) (hg : 1 ≤ g.2) (h : gLt g (minL (gainsL cl l e)) = true) :
    ∀ p ∈ e.zip l, aboveP g p.2 (worthV cl p.1.fr p.1.to_) = true := by
  rintro ⟨d, c⟩ hp
  have hok := gains_ok (ds := e) hc hv
  have hvc := hv c (List.of_mem_zip hp).2
  simp only [vClaim, decide_eq_true_eq] at hvc
  have hq : gainOf cl d c ∈ gainsL cl l e := by
    simp only [gainsL, List.mem_map]; exact ⟨(d, c), hp, rfl⟩
  have hne : gainsL cl l e ≠ [] := fun h0 => by rw [h0] at hq; cases hq
  have hm := (hok _ (minL_mem hne)).2.2
  have hle := minL_le (fun q h => (hok q h).2.2.1) _ hq
  have hqo := hok _ hq
  have hlt : gLt g (gainOf cl d c) = true := by
    rw [gLt_iff]
    intro hle2
    exact gLt_iff.1 h (gLe_trans (by omega) hqo.2.2.1 hg hle hle2)
  obtain ⟨_, _, _, _, k, hk, h1, h2⟩ := lowI_ok (a := worthV cl d.fr d.to_) (b := c.heads) (seg_worth hc _ _).1 (by omega)
  simp only [gainOf] at hlt
  generalize lowI (worthV cl d.fr d.to_) c.heads = q at *
  have hlt' : g.1 * q.2 < q.1 * g.2 := of_decide_eq_true hlt
  have := Int.mul_lt_mul_of_pos_right hlt' hk
  have x1 : g.1 * c.heads = g.1 * q.2 * k := by rw [← h2, Int.mul_assoc]
  have x2 : worthV cl d.fr d.to_ * g.2 = q.1 * g.2 * k := by rw [← h1]; simp [Int.mul_comm, Int.mul_left_comm]
  exact decide_eq_true (by show g.1 * c.heads < worthV cl d.fr d.to_ * g.2; omega)
theorem mono_above {g : Int × Int} (hg : 0 ≤ g.2) : Mono (aboveP g) := by
  intro c w w' h _ hp
  simp only [aboveP, decide_eq_true_eq] at hp ⊢
  have := Int.mul_le_mul_of_nonneg_right h hg
  omega
/-- No sharing has a greater least gain. -/
theorem fair_best {cl : List Cell} {l : List Claim} {best mds : List Drift} {mss : List Int} {g : Int × Int} (hf : Fair cl l best g mds mss) (hc : okWorth cl) (hv : ∀ c ∈ l, vClaim c.family c.heads c.from_ c.to = true ∧ c.to < cl.length) (hg : 1 ≤ g.2) {e : List Drift} (he : shr (-1) e l = true) :
    gLt g (minL (gainsL cl l e)) = false := by
  cases h : gLt g (minL (gainsL cl l e)) with
  | false => rfl
  | true =>
    have := grd_complete (ds := []) (ss := []) (mono_above (g := g) (by omega)) hc he (show (0 : Int) ≤ -1 + 1 by omega) hv (all_above hc (fun c h => (hv c h).1) hg h)
    rw [hf.more] at this; cases this
end Go.VE
/- The plain law of the reference's least gain: by claims from the last one on. -/
namespace Go.VE
open Go.RowKit Go.Proofs
set_option maxRecDepth 100000

def low1 (p : Int × Int) : Prop := 0 ≤ p.1 ∧ p.1 ≤ 1000000 ∧ 1 ≤ p.2 ∧ p.2 ≤ 1000000 ∧ Int.gcd p.1 p.2 = 1
theorem low1_eq {p q : Int × Int} (hp : low1 p) (hq : low1 q) (h1 : gLe p q) (h2 : gLe q p) : p = q := by
  obtain ⟨a, b⟩ := p
  obtain ⟨c, d⟩ := q
  obtain ⟨p1, _, p2, _, p3⟩ := hp
  obtain ⟨q1, _, q2, _, q3⟩ := hq
  simp only at *
  obtain ⟨a, rfl⟩ : ∃ n : Nat, a = n := ⟨a.toNat, by omega⟩
  obtain ⟨b, rfl⟩ : ∃ n : Nat, b = n := ⟨b.toNat, by omega⟩
  obtain ⟨c, rfl⟩ : ∃ n : Nat, c = n := ⟨c.toNat, by omega⟩
  obtain ⟨d, rfl⟩ : ∃ n : Nat, d = n := ⟨d.toNat, by omega⟩
  simp only [gLe] at h1 h2
  have e : a * d = c * b := by
    have : ((a : Int) * d) = c * b := by omega
    exact_mod_cast this
  rw [Int.gcd_natCast_natCast] at p3 q3
  have d1 : b ∣ d := Nat.Coprime.dvd_of_dvd_mul_left (k := b) (m := a) (by rw [Nat.Coprime, Nat.gcd_comm]; exact p3) ⟨c, by rw [e, Nat.mul_comm]⟩
  have d2 : d ∣ b := Nat.Coprime.dvd_of_dvd_mul_left (k := d) (m := c) (by rw [Nat.Coprime, Nat.gcd_comm]; exact q3) ⟨a, by rw [← e, Nat.mul_comm]⟩
  have hbd := Nat.dvd_antisymm d1 d2
  subst hbd
  have : a = c := Nat.eq_of_mul_eq_mul_right (by omega) e
  subst this; rfl
theorem lowI_low1 {a b : Int} (ha : 0 ≤ a ∧ a ≤ 1000000) (hb : 1 ≤ b ∧ b ≤ 1000000) : low1 (lowI a b) := by
  have := lowI_ok ha.1 hb.1
  refine ⟨this.1, by omega, this.2.2.1, by omega, ?_⟩
  exact Int.gcd_ediv_gcd_ediv_gcd (Int.gcd_pos_of_ne_zero_right _ (by omega))
theorem gainOf_low1 {cl : List Cell} {c : Claim} {d : Drift} (hc : okWorth cl) (hv : vClaim c.family c.heads c.from_ c.to = true) : low1 (gainOf cl d c) := by
  have hw := seg_worth hc d.fr d.to_
  simp only [vClaim, decide_eq_true_eq] at hv
  exact lowI_low1 (by omega) (by omega)
def minG (cl : List Cell) : List Claim → List Drift → Int × Int
  | c :: l, d :: e => if gLt (minG cl l e) (gainOf cl d c) then minG cl l e else gainOf cl d c
  | _, _ => (1000000, 1)
theorem minG_low {cl : List Cell} (hc : okWorth cl) : ∀ {l : List Claim} {e : List Drift}, (∀ c ∈ l, vClaim c.family c.heads c.from_ c.to = true) → low1 (minG cl l e)
  | [], e, _ => by unfold minG; exact ⟨by decide, by decide, by decide, by decide, by decide⟩
  | c :: l, [], _ => by unfold minG; exact ⟨by decide, by decide, by decide, by decide, by decide⟩
  | c :: l, d :: e, h => by
    simp only [minG]
    split
    · exact minG_low hc fun c h' => h c (by simp [h'])
    · exact gainOf_low1 hc (h c (by simp))
def Opt (S : List Drift → Prop) (v : List Drift → Int × Int) (r : Int × Int) : Prop :=
  (r = (0, 0) ∧ ∀ e, ¬ S e) ∨ (low1 r ∧ (∃ e, S e ∧ v e = r) ∧ ∀ e, S e → gLe (v e) r)
theorem Opt_den {S : List Drift → Prop} {v : List Drift → Int × Int} {r : Int × Int} (h : Opt S v r) : 0 ≤ r.1 ∧ r.1 ≤ 1000000 ∧ 0 ≤ r.2 ∧ r.2 ≤ 1000000 := by
  rcases h with ⟨rfl, _⟩ | ⟨h, _⟩
  · simp
  · obtain ⟨a, b, c, d, _⟩ := h; omega
theorem Opt_uniq {S : List Drift → Prop} {v : List Drift → Int × Int} {r t : Int × Int} (h : Opt S v r) (h' : Opt S v t) : r = t := by
  rcases h with ⟨rfl, h⟩ | ⟨hr, ⟨e, he, hv⟩, hle⟩
  · rcases h' with ⟨rfl, _⟩ | ⟨_, ⟨e, he, _⟩, _⟩
    · rfl
    · exact (h e he).elim
  · rcases h' with ⟨rfl, h⟩ | ⟨ht, ⟨e', he', hv'⟩, hle'⟩
    · exact (h e he).elim
    · exact low1_eq hr ht (by rw [← hv]; exact hle' e he) (by rw [← hv']; exact hle e' he')
theorem Opt_congr {S T : List Drift → Prop} {v : List Drift → Int × Int} {r : Int × Int} (h : Opt S v r) (hst : ∀ e, S e ↔ T e) : Opt T v r := by
  rcases h with ⟨rfl, h⟩ | ⟨hr, ⟨e, he, hv⟩, hle⟩
  · exact .inl ⟨rfl, fun e he => h e ((hst e).2 he)⟩
  · exact .inr ⟨hr, ⟨e, (hst e).1 he, hv⟩, fun e he => hle e ((hst e).2 he)⟩
def joinG (r t : Int × Int) : Int × Int := if t.2 = 0 then r else if r.2 = 0 then t else if gLt r t then t else r
theorem Opt_union {S T U : List Drift → Prop} {v : List Drift → Int × Int} {r t : Int × Int} (hS : Opt S v r) (hT : Opt T v t) (hv : ∀ e, low1 (v e)) (hU : ∀ e, U e ↔ S e ∨ T e) : Opt U v (joinG r t) := by
  unfold joinG
  rcases hT with ⟨rfl, hT⟩ | ⟨ht, ⟨e, he, hve⟩, hle⟩
  · rw [if_pos rfl]
    exact Opt_congr hS fun e => ⟨fun h => (hU e).2 (.inl h), fun h => ((hU e).1 h).elim id fun h => (hT e h).elim⟩
  · have ht2 := ht.2.2.1
    rw [if_neg (by omega)]
    rcases hS with ⟨rfl, hS⟩ | ⟨hr, ⟨e', he', hve'⟩, hle'⟩
    · rw [if_pos rfl]
      exact .inr ⟨ht, ⟨e, (hU e).2 (.inr he), hve⟩, fun x hx => ((hU x).1 hx).elim (fun h => (hS x h).elim) (hle x)⟩
    · have hr2 := hr.2.2.1
      rw [if_neg (by omega)]
      by_cases hlt : gLt r t = true
      · rw [if_pos hlt]
        have hrt : gLe r t := by simp only [gLt, decide_eq_true_eq] at hlt; unfold gLe; omega
        exact .inr ⟨ht, ⟨e, (hU e).2 (.inr he), hve⟩, fun x hx => ((hU x).1 hx).elim (fun h => gLe_trans (hv x).2.2.1 hr2 ht2 (hle' x h) hrt) (hle x)⟩
      · rw [if_neg hlt]
        have htr : gLe t r := by rw [gLt_iff] at hlt; exact Classical.byContradiction hlt
        exact .inr ⟨hr, ⟨e', (hU e').2 (.inl he'), hve'⟩, fun x hx => ((hU x).1 hx).elim (hle' x) fun h => gLe_trans (hv x).2.2.1 ht2 hr2 (hle x h) htr⟩
/-- The first drift, and then the best of the rest. -/
def stepG (x nx : Int × Int) : Int × Int := if nx.2 = 0 then (0, 0) else if gLt nx x then nx else x
theorem Opt_cons {cl : List Cell} {c : Claim} {l : List Claim} {fr to : Int} {nx : Int × Int} (hc : okWorth cl) (hv : ∀ c' ∈ c :: l, vClaim c'.family c'.heads c'.from_ c'.to = true) (h : Opt (fun e => shr to e l = true) (minG cl l) nx) :
    Opt (fun e => ∃ e', e = ⟨fr, to⟩ :: e' ∧ shr to e' l = true) (minG cl (c :: l)) (stepG (gainOf cl ⟨fr, to⟩ c) nx) := by
  have hx := gainOf_low1 (d := ⟨fr, to⟩) hc (hv c (by simp))
  have hl : ∀ e, low1 (minG cl l e) := fun e => minG_low hc fun c h => hv c (by simp [h])
  generalize hg : gainOf cl ⟨fr, to⟩ c = x at hx
  unfold stepG
  rcases h with ⟨rfl, h⟩ | ⟨hn, ⟨e, he, hve⟩, hle⟩
  · rw [if_pos rfl]
    exact .inl ⟨rfl, fun e ⟨e', _, h'⟩ => h e' h'⟩
  · have hn2 := hn.2.2.1
    rw [if_neg (by omega)]
    have hmin : ∀ e', minG cl (c :: l) (⟨fr, to⟩ :: e') = if gLt (minG cl l e') x then minG cl l e' else x := fun e' => by rw [minG, hg]
    refine .inr ⟨?_, ⟨_, ⟨e, rfl, he⟩, by rw [hmin, hve]⟩, ?_⟩
    · split
      · exact hn
      · exact hx
    · rintro _ ⟨e', rfl, h'⟩
      rw [hmin]
      have hle' := hle e' h'
      have hme := (hl e').2.2.1
      have hx2 := hx.2.2.1
      by_cases h1 : gLt (minG cl l e') x = true
      · rw [if_pos h1]
        by_cases h2 : gLt nx x = true
        · rw [if_pos h2]; exact hle'
        · rw [if_neg h2]; simp only [gLt, decide_eq_true_eq] at h1; unfold gLe; omega
      · rw [if_neg h1]
        have hxm : gLe x (minG cl l e') := by rw [gLt_iff] at h1; exact Classical.byContradiction h1
        have hxn := gLe_trans hx2 hme hn2 hxm hle'
        by_cases h2 : gLt nx x = true
        · exact (gLt_iff.1 h2 hxn).elim
        · rw [if_neg h2]; exact gLe_refl _
/-- What is best from a cell on. -/
def RowOK (cl : List Cell) (l : List Claim) (a : Int) (r : Int × Int) : Prop := Opt (fun e => shr (a - 1) e l = true) (minG cl l) r
theorem Row_nil (cl : List Cell) (a : Int) : RowOK cl [] a (1000000, 1) := .inr ⟨⟨by decide, by decide, by decide, by decide, by decide⟩, ⟨[], rfl, rfl⟩, fun e h => by
  cases e with
  | nil => exact gLe_refl _
  | cons d e => cases h⟩
theorem Row_end {cl : List Cell} {c : Claim} {l : List Claim} {a : Int} (h : c.to < a) : RowOK cl (c :: l) a (0, 0) := .inl ⟨rfl, fun e he => by
  cases e with
  | nil => cases he
  | cons d e =>
    simp only [shr, Bool.and_eq_true, decide_eq_true_eq] at he; omega⟩
theorem Row_skip {cl : List Cell} {c : Claim} {l : List Claim} {a : Int} {r : Int × Int} (h : a < c.from_) (hr : RowOK cl (c :: l) (a + 1) r) : RowOK cl (c :: l) a r := Opt_congr hr fun e => by
  cases e with
  | nil => exact ⟨fun h => (by cases h), fun h => (by cases h)⟩
  | cons d e =>
    simp only [shr, Bool.and_eq_true, decide_eq_true_eq]
    exact ⟨fun h => ⟨by omega, h.2⟩, fun h => ⟨by omega, h.2⟩⟩
/-- Within the inner loop: drifts from later on, or from here to before a cell. -/
def InOK (cl : List Cell) (c : Claim) (l : List Claim) (fr to : Int) (r : Int × Int) : Prop :=
  Opt (fun e => shr fr e (c :: l) = true ∨ ∃ t e', fr ≤ t ∧ t < to ∧ e = ⟨fr, t⟩ :: e' ∧ shr t e' l = true) (minG cl (c :: l)) r
theorem In_start {cl : List Cell} {c : Claim} {l : List Claim} {fr : Int} {r : Int × Int} (h : RowOK cl (c :: l) (fr + 1) r) : InOK cl c l fr fr r := Opt_congr h fun e => by
  rw [show fr + 1 - 1 = fr by omega]
  exact ⟨.inl, fun h => h.elim id fun ⟨t, e', h1, h2, _⟩ => by omega⟩
theorem In_step {cl : List Cell} {c : Claim} {l : List Claim} {fr to : Int} {r nx : Int × Int} (hc : okWorth cl) (hv : ∀ c' ∈ c :: l, vClaim c'.family c'.heads c'.from_ c'.to = true) (hf : fr ≤ to) (h : InOK cl c l fr to r) (hn : RowOK cl l (to + 1) nx) :
    InOK cl c l fr (to + 1) (joinG r (stepG (gainOf cl ⟨fr, to⟩ c) nx)) := by
  unfold RowOK at hn
  rw [show to + 1 - 1 = to by omega] at hn
  refine Opt_union h (Opt_cons (fr := fr) hc hv hn) (fun e => minG_low hc hv) fun e => ?_
  constructor
  · rintro (h | ⟨t, e', h1, h2, h3, h4⟩)
    · exact .inl (.inl h)
    · by_cases ht : t < to
      · exact .inl (.inr ⟨t, e', h1, ht, h3, h4⟩)
      · have : t = to := by omega
        subst this
        exact .inr ⟨e', h3, h4⟩
  · rintro ((h | ⟨t, e', h1, h2, h3, h4⟩) | ⟨e', h3, h4⟩)
    · exact .inl h
    · exact .inr ⟨t, e', h1, by omega, h3, h4⟩
    · exact .inr ⟨to, e', hf, by omega, h3, h4⟩
theorem In_end {cl : List Cell} {c : Claim} {l : List Claim} {fr to : Int} {r : Int × Int} (hf : c.from_ ≤ fr) (ht : c.to < to) (hm : to ≤ max fr (c.to + 1)) (h : InOK cl c l fr to r) : RowOK cl (c :: l) fr r := Opt_congr h fun e => by
  cases e with
  | nil =>
    exact ⟨fun h => h.elim (fun h => (by cases h)) fun ⟨t, e', _, _, h, _⟩ => (by cases h), fun h => (by cases h)⟩
  | cons d e =>
    simp only [shr, Bool.and_eq_true, decide_eq_true_eq]
    constructor
    · rintro (h | ⟨t, e', h1, h2, h3, h4⟩)
      · exact ⟨by omega, h.2⟩
      · simp only [List.cons.injEq] at h3
        obtain ⟨rfl, rfl⟩ := h3
        exact ⟨by simp only; omega, h4⟩
    · rintro ⟨h1, h2⟩
      by_cases hd : fr < d.fr
      · exact .inl ⟨by omega, h2⟩
      · have : d.fr = fr := by omega
        obtain ⟨x, y⟩ := d
        simp only at *
        subst this
        exact .inr ⟨y, e, h1.2.1, by omega, rfl, h2⟩
/-! ### the program's least gain is this optimum -/
theorem minG_le {cl : List Cell} (hc : okWorth cl) : ∀ {l : List Claim} {e : List Drift}, (∀ c ∈ l, vClaim c.family c.heads c.from_ c.to = true) → ∀ q ∈ gainsL cl l e, gLe (minG cl l e) q
  | [], e, _, q, hq => by cases e <;> simp [gainsL] at hq
  | c :: l, [], _, q, hq => by simp [gainsL] at hq
  | c :: l, d :: e, h, q, hq => by
    have hl := fun c hc => h c (List.mem_cons_of_mem _ hc)
    have m := minG_low hc (e := e) hl
    have x := gainOf_low1 (d := d) hc (h c (by simp))
    simp only [gainsL, List.zip_cons_cons, List.map_cons, List.mem_cons] at hq
    simp only [minG]
    rcases hq with rfl | hq
    · split
      · rename_i h1; simp only [gLt, decide_eq_true_eq] at h1; unfold gLe; omega
      · exact gLe_refl _
    · have ih := minG_le hc hl q hq
      split
      · exact ih
      · rename_i h1
        rw [gLt_iff] at h1
        have hq1 : 1 ≤ q.2 := (gains_ok (ds := e) hc hl q hq).2.2.1
        exact gLe_trans x.2.2.1 m.2.2.1 hq1 (Classical.byContradiction h1) ih
theorem minG_mem {cl : List Cell} (hc : okWorth cl) : ∀ {l : List Claim} {e : List Drift}, e.length = l.length → l ≠ [] → (∀ c ∈ l, vClaim c.family c.heads c.from_ c.to = true) → minG cl l e ∈ gainsL cl l e
  | [], e, _, h, _ => absurd rfl h
  | c :: l, [], h, _, _ => by simp at h
  | c :: l, d :: e, hl, _, h => by
    have hl' := fun c hc => h c (List.mem_cons_of_mem _ hc)
    simp only [minG, gainsL, List.zip_cons_cons, List.map_cons, List.mem_cons]
    by_cases h0 : l = []
    · subst h0
      left
      rw [if_neg]
      have x := gains_ok (cl := cl) (l := [c]) (ds := [d]) hc h (gainOf cl d c) (by simp [gainsL])
      cases e with
      | cons _ _ => simp at hl
      | nil =>
        intro h1
        have h1' : 1000000 * (gainOf cl d c).2 < (gainOf cl d c).1 * 1 := of_decide_eq_true h1
        omega
    · split
      · exact .inr (minG_mem hc (by simpa using hl) h0 hl')
      · exact .inl rfl
theorem fair_opt {cl : List Cell} {l : List Claim} {best mds : List Drift} {mss : List Int} {g : Int × Int} (hf : Fair cl l best g mds mss) (hc : okWorth cl) (hv : ∀ c ∈ l, vClaim c.family c.heads c.from_ c.to = true ∧ c.to < cl.length) (hl : l ≠ []) : RowOK cl l 0 g := by
  have hvv : ∀ c ∈ l, vClaim c.family c.heads c.from_ c.to = true := fun c h => (hv c h).1
  have hne : ∀ {e}, shr (-1) e l = true → gainsL cl l e ≠ [] := fun {e} he h => by
    have hlen : (gainsL cl l e).length = l.length := by simp [gainsL, shr_len he]
    rw [h] at hlen
    exact hl (List.eq_nil_of_length_eq_zero hlen.symm)
  have hgm := minL_mem (hne hf.shr_)
  rw [← hf.low] at hgm
  have hg1 : low1 g := by
    simp only [gainsL, List.mem_map] at hgm
    obtain ⟨⟨d, c⟩, hp, rfl⟩ := hgm
    exact gainOf_low1 hc (hvv c (List.of_mem_zip hp).2)
  have up : ∀ e, shr (-1) e l = true → gLe (minG cl l e) g := fun e he => by
    have hm := minL_mem (hne he)
    have h1 := minG_le hc hvv _ hm
    have h2 := fair_best hf hc hv hg1.2.2.1 he
    have h3 : gLe (minL (gainsL cl l e)) g := Classical.byContradiction fun h => by rw [gLt_iff.2 h] at h2; cases h2
    exact gLe_trans (minG_low hc hvv).2.2.1 (gains_ok hc hvv _ hm).2.2.1 hg1.2.2.1 h1 h3
  refine .inr ⟨hg1, ⟨best, hf.shr_, ?_⟩, up⟩
  refine low1_eq (minG_low hc hvv) hg1 (up best hf.shr_) ?_
  rw [hf.low]
  exact minL_le (fun q h => (gains_ok hc hvv q h).2.2.1) _ (minG_mem hc (shr_len hf.shr_) hl hvv)
end Go.VE
/- The reference: gains, sharings, crowds, the same lists. -/
namespace Go.VE
open Go.RowKit Go.Proofs
set_option maxRecDepth 100000

theorem s86 (n : Nat) (a b : Int) (ha : 0 ≤ a ∧ a ≤ 1000000000) (hb : 1 ≤ b ∧ b ≤ 1000000000) : FN (n + 1) 86 [il a, il b] = some (0, [.d (il (lowI a b).1), .d (il (lowI a b).2)]) := by
  rw [F86, show G86 (RP n) (il a) (il b) = G101 (RP n) (il a) (il b) from rfl, ← F101]
  exact s101 n a b ha hb
theorem s88 (n : Nat) (ch : D) (cl : List Cell) (l : List Claim) (ds : List Drift) (hl : l.length ≤ 12) (hv : ∀ c ∈ l, 0 ≤ c.from_ ∧ c.to < cl.length) (hd : ds.length ≤ 140737488355328) : FN (n + 3) 88 [ch, dCells cl, dClaims l, dDrifts ds] = some (0, [.d (bl (shr (-1) ds l))]) := by
  rw [F88]
  simp only [G88, dClaims, dDrifts, r_lenD, List.length_map, r_neq, r_cond]
  by_cases h : ds.length = l.length
  · have key := range_loop (β := Int) ds (by omega) (L88_0 (RP (n + 2))) (fun i _ => [.d (dClaims l), .d (dDrifts ds), .d (il (i : Int)), .d ch, .d (dCells cl)]) (fun i p => (i = 0 → p = -1) ∧ (0 < i → ∃ d, ds[i - 1]? = some d ∧ p = d.to_))
      (fun i r p => match shr p r (l.drop i) with | true => some (1, []) | false => some (0, [.d (bl false)])) ?_ ?_ M0 (-1) ⟨fun _ => rfl, fun h => by omega⟩ (M0_big (by omega))
    · simp only [dClaims, dDrifts, Int.cast_ofNat_Int, List.drop_zero] at key
      simp only [h, ne_eq, not_true_eq_false, decide_false, Bool.false_eq_true, if_false, r_loop, r_liti] at key ⊢
      rw [key]
      cases shr (-1) ds l <;> simp
    · intro p k _
      simp [L88_0, h, shr, dClaims]
    · intro i d r p k hdi hdr hi hw hI ih
      have hli : i < l.length := by omega
      have hci : l[i]? = some l[i] := by simp [hli]
      have hvc := hv l[i] (List.getElem_mem hli)
      have hdl := List.drop_eq_getElem_cons hli
      generalize l[i] = c at hci hdl hvc
      have ih' := ih d.to_ ⟨fun h => by omega, fun _ => ⟨d, by simpa using hdi, rfl⟩⟩
      simp only [dClaims, dDrifts, Int.natCast_add, Int.cast_ofNat_Int] at ih'
      have e77 := s77 n ch cl d.fr d.to_
      simp only [L88_0, r_ld0, r_lds, r_lenD, List.length_map, r_lss, r_cond, Int.ofNat_lt, hi, hli, decide_true, if_true, dDrifts, dClaims, r_rowDg, Int.toNat_natCast, List.getElem?_map, hdi, hci, Option.map_some, rDrift, rClaim, r_cell0, r_cells, r_gtr, r_leq, r_geq, r_out, r_litb, r_liti, r_add, hw, hdl, shr, decide_eq_true_eq, r_call, e77, r_bnd0, r_not]
      cases hD : isD cl d.fr d.to_ with
      | false =>
        have : ¬ (c.from_ ≤ d.fr ∧ d.fr ≤ d.to_ ∧ d.to_ ≤ c.to ∧ p < d.fr) := fun h => by
          simp only [isD, decide_eq_false_iff_not] at hD; omega
        simp [this]
      | true =>
        simp only [isD, decide_eq_true_eq] at hD
        by_cases h1 : d.fr < c.from_
        · have : ¬ c.from_ ≤ d.fr := by omega
          simp [h1, this]
        · by_cases h3 : c.to < d.to_
          · have : ¬ d.to_ ≤ c.to := by omega
            simp [h1, h3, this]
          · by_cases hi0 : i = 0
            · have hp := hI.1 hi0
              subst hp
              subst hi0
              have e : decide (c.from_ ≤ d.fr ∧ d.fr ≤ d.to_ ∧ d.to_ ≤ c.to ∧ (-1 : Int) < d.fr) = true := by simp; omega
              simp only [h1, h3, if_false, e, Bool.true_and]
              simp
              simpa [rDrift, rClaim, dCells] using ih'
            · obtain ⟨d0, hd0, rfl⟩ := hI.2 (by omega)
              have wm : IntKind.i64.wrap ((i : Int) - 1) = ((i - 1 : Nat) : Int) := by rw [wrap_id (by omega) (by omega)]; omega
              have hip : (0 : Int) < (i : Int) := by omega
              by_cases h4 : d.fr ≤ d0.to_
              · have : ¬ d0.to_ < d.fr := by omega
                simp [h1, h3, hip, show 0 < i by omega, wm, hd0, rDrift, h4, this, -getElem?_pos, List.getElem?_cons_zero, List.getElem?_cons_succ]
              · have e : decide (c.from_ ≤ d.fr ∧ d.fr ≤ d.to_ ∧ d.to_ ≤ c.to ∧ d0.to_ < d.fr) = true := by simp; omega
                simp only [h1, h3, if_false, e, Bool.true_and]
                simp [hip, show 0 < i by omega, wm, hd0, rDrift, h4, -getElem?_pos, List.getElem?_cons_zero, List.getElem?_cons_succ]
                simpa [rDrift, rClaim, dCells] using ih'
  · have h' : ¬ (ds.length : Int) = (l.length : Int) := by omega
    have : shr (-1) ds l = false := by
      cases hs : shr (-1) ds l with
      | false => rfl
      | true => exact absurd (shr_len hs) h
    simp [h', this]
theorem s52 (n : Nat) (cs : List Chain) (cl : List Cell) (l : List Claim) (ds : List Drift) (hd : ds.length ≤ 140737488355328) (hl : l.length ≤ 9223372036854775806) :
    FN (n + 5) 52 [dChains cs, dCells cl, dClaims l, dDrifts ds] = some (0, [.d (il (if cOK cs cl l = 0 then (if shr (-1) ds l then 0 else 46) else cOK cs cl l))]) := by
  rw [F52]
  simp only [G52, r_call, s18 _ _ _ _ hl, r_bnd0, r_ld0, r_lds, r_liti, r_eql, r_cond, r_out]
  by_cases h : cOK cs cl l = 0
  · obtain ⟨hgr, hl, hcl⟩ := cOK_in h
    have hv := okClaims_mem hcl
    have e := s88 (n + 1) (dChains cs) cl l ds hl.2 (fun c hc => by have h1 := hv c hc; simp only [vClaim, decide_eq_true_eq] at h1; exact ⟨by omega, h1.2⟩) hd
    simp only [h, e]
    cases shr (-1) ds l <;> simp [h]
  · simp [h]
theorem s53 (n : Nat) (cs : List Chain) (cl : List Cell) (l : List Claim) (a b : Int) (hl : l.length ≤ 9223372036854775806) :
    FN (n + 6) 53 [dChains cs, dCells cl, dClaims l, il a, il b] = some (0, [.d (il (if cOK cs cl l = 0 then (if crd l a b then 0 else 48) else cOK cs cl l))]) := by
  rw [F53]
  simp only [G53, r_call, s18 _ _ _ _ hl, r_bnd0, r_ld0, r_lds, r_liti, r_neq, r_cond, r_out, s61, r_not]
  by_cases h : cOK cs cl l = 0
  · obtain ⟨hgr, hl, hcl⟩ := cOK_in h
    rw [if_neg (by simp [h]), if_pos h]
    by_cases h1 : 0 ≤ a ∧ a ≤ b
    · simp only [h1, and_self, decide_true, Bool.not_true, Bool.false_eq_true, if_false, dClaims, r_lenD, List.length_map, r_geq, r_cond, decide_eq_true_eq]
      by_cases h3 : (l.length : Int) ≤ b
      · have : crd l a b = false := by simp [crd]; omega
        simp [h3, this]
      · have hb : b.toNat < l.length := by omega
        have ha : a.toNat < l.length := by omega
        have eb : l[b.toNat]? = some l[b.toNat] := by simp [hb]
        have ea : l[a.toNat]? = some l[a.toNat] := by simp [ha]
        have vb := (okClaims_mem hcl _ (List.getElem_mem hb)).1
        have va := (okClaims_mem hcl _ (List.getElem_mem ha)).1
        simp only [vClaim, decide_eq_true_eq] at vb va
        generalize l[b.toNat] = y at eb vb
        generalize l[a.toNat] = x at ea va
        have w1 : IntKind.i64.wrap (y.to - x.from_) = y.to - x.from_ := wrap_id (by omega) (by omega)
        have w2 : IntKind.i64.wrap (y.to - x.from_ + 1) = y.to - x.from_ + 1 := wrap_id (by omega) (by omega)
        have w3 : IntKind.i64.wrap (b - a) = b - a := wrap_id (by omega) (by omega)
        have w4 : IntKind.i64.wrap (b - a + 1) = b - a + 1 := wrap_id (by omega) (by omega)
        have hc : crd l a b = decide (max 0 (y.to - x.from_ + 1) ≤ b - a) := by
          unfold crd
          rw [eb, ea]
          simp only [show (0 ≤ a ∧ a ≤ b ∧ b < l.length) by omega, and_self, decide_true, Bool.true_and]
        rw [if_neg h3]
        simp only [r_rowDg, show (0 : Int) ≤ b by omega, show (0 : Int) ≤ a by omega, and_self, if_true, List.getElem?_map, eb, ea, Option.map_some, rClaim, List.length_cons, List.length_nil, r_cell0, r_cells, r_sub, w1, r_add, w2, w3, w4, r_mm, r_geq, r_cond, decide_eq_true_eq, hc, r_liti]
        by_cases h4 : b - a + 1 ≤ max 0 (y.to - x.from_ + 1)
        · have : ¬ max 0 (y.to - x.from_ + 1) ≤ b - a := by omega
          simp [h4, this]
        · have : max 0 (y.to - x.from_ + 1) ≤ b - a := by omega
          simp [h4, this]
    · have : crd l a b = false := by simp [crd]; omega
      simp [h1, this]
  · simp [h]
theorem s50 (n : Nat) (A B : List (Int × Int)) (hA : A.length ≤ 140737488355328) (hB : B = A) : FN (n + 1) 50 [dGains A, dGains B] = some (0, [.d (bl true)]) := by
  subst hB
  rw [F50]
  have key := range_loop (β := Unit) B (by omega) (L50_0 (RP n)) (fun i _ => [.d (dGains B), .d (dGains B), .d (bl true), .d (il (i : Int))]) (fun _ _ => True)
    (fun _ _ _ => some (0, [.d (bl true)])) ?_ ?_ M0 () trivial (M0_big (by omega))
  · simp only [Int.cast_ofNat_Int] at key
    simp only [dGains] at key
    simp [G50, dGains]
    simp [key]
  · intro _ k _; simp [L50_0, dGains]
  · intro i p r _ k hp hr hi hw _ ih
    have ih' := ih () trivial
    simp only [Int.natCast_add, Int.cast_ofNat_Int, dGains] at ih'
    simp [L50_0, dGains, hi, hp, rG, hw, -getElem?_pos, List.getElem?_cons_zero, List.getElem?_cons_succ]
    simpa [rG] using ih'
theorem s51 (n : Nat) (A B : List Int) (hA : A.length ≤ 140737488355328) (hB : B = A) : FN (n + 1) 51 [dI A, dI B] = some (0, [.d (bl true)]) := by
  subst hB
  rw [F51]
  have key := range_loop (β := Unit) B (by omega) (L51_0 (RP n)) (fun i _ => [.d (dI B), .d (dI B), .d (bl true), .d (il (i : Int))]) (fun _ _ => True)
    (fun _ _ _ => some (0, [.d (bl true)])) ?_ ?_ M0 () trivial (M0_big (by omega))
  · simp only [Int.cast_ofNat_Int] at key
    simp only [dI] at key
    simp [G51, dI]
    simp [key]
  · intro _ k _; simp [L51_0, dI, rI]
  · intro i p r _ k hp hr hi hw _ ih
    have ih' := ih () trivial
    simp only [Int.natCast_add, Int.cast_ofNat_Int, dI] at ih'
    simp [L51_0, dI, hi, hp, rI, hw, -getElem?_pos, List.getElem?_cons_zero, List.getElem?_cons_succ]
    simpa [rI] using ih'
end Go.VE
