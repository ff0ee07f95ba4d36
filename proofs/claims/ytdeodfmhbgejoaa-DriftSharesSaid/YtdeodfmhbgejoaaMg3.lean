/- The reference: walls, gains. -/
import Derived.Test.YtdeodfmhbgejoaaMg2
namespace Go.VE
open Go.RowKit Go.Proofs
set_option maxRecDepth 100000

theorem low_lt {a b w : Int} (ha : 0 ≤ a) (hb : 1 ≤ b) (hw : 0 ≤ w) : gLt (lowI a b) (lowI w 1) = decide (a < w * b) := by
  obtain ⟨_, _, _, _, k, hk, e1, e2⟩ := lowI_ok ha hb
  obtain ⟨_, _, _, _, j, hj, e3, e4⟩ := lowI_ok (a := w) (b := 1) hw (by omega)
  generalize lowI a b = p at *
  generalize lowI w 1 = q at *
  have hkj : 0 < k * j := Int.mul_pos hk hj
  have x1 : p.1 * q.2 * (k * j) = a := by
    have : p.1 * q.2 * (k * j) = (p.1 * k) * (q.2 * j) := by simp [Int.mul_comm, Int.mul_left_comm]
    rw [this, e1, e4, Int.mul_one]
  have x2 : q.1 * p.2 * (k * j) = w * b := by
    have : q.1 * p.2 * (k * j) = (q.1 * j) * (p.2 * k) := by simp [Int.mul_comm, Int.mul_left_comm]
    rw [this, e3, e2]
  unfold gLt
  rw [Bool.eq_iff_iff]
  simp only [decide_eq_true_eq]
  constructor
  · intro h
    have := Int.mul_lt_mul_of_pos_right h hkj
    omega
  · intro h
    rw [← x1, ← x2] at h
    exact Int.lt_of_mul_lt_mul_right h (by omega)
def refw (cl : List Cell) (g : Int × Int) : List Claim → List Int → Bool
  | c :: l, x :: y :: ss => decide (max x c.from_ + 1 ≤ y ∧ y ≤ 25) && !aboveP g c (worthV cl (max x c.from_) (y - 2)) && refw cl g l (y :: ss)
  | _, [_] => true
  | _, _ => false
theorem refw_eq {cl : List Cell} {g : Int × Int} : ∀ {l : List Claim} {x : Int} {ss : List Int}, (∀ c ∈ l, 0 ≤ c.from_) → refw cl g l (x :: ss) = (ss.all inW && shw cl g l (x :: ss))
  | [], x, [], _ => rfl
  | _ :: _, x, [], _ => rfl
  | [], x, y :: ss, _ => by simp [refw, shw]
  | c :: l, x, y :: ss, h => by
    have hc := h c (by simp)
    have ih := refw_eq (cl := cl) (g := g) (x := y) (ss := ss) fun d hd => h d (List.mem_cons_of_mem _ hd)
    simp only [refw, shw, ih, List.all_cons]
    have e : decide (max x c.from_ + 1 ≤ y ∧ y ≤ 25) = (inW y && decide (max x c.from_ < y)) := by
      unfold inW
      rw [Bool.eq_iff_iff]; simp only [decide_eq_true_eq, Bool.and_eq_true]; omega
    rw [e]
    cases inW y <;> cases decide (max x c.from_ < y) <;> cases aboveP g c (worthV cl (max x c.from_) (y - 2)) <;> cases ss.all inW <;> simp
set_option maxHeartbeats 1000000 in
theorem s54 (n : Nat) (cs : List Chain) (cl : List Cell) (l : List Claim) (f : Int) (ss : List Int) (g : Int × Int) (hs : ss.length ≤ 140737488355328) (hll : l.length ≤ 9223372036854775806) :
    FN (n + 6) 54 [dChains cs, dCells cl, dClaims l, il f, dI ss, il g.1, il g.2] = some (0, [.d (il (cwErr cs cl l f ss g))]) := by
  rw [F54]
  simp only [G54, r_call, s18 _ _ _ _ hll, r_bnd0, r_ld0, r_lds, r_liti, r_neq, r_cond, r_out, s83, r_not, cwErr]
  by_cases h : cOK cs cl l = 0
  case neg => simp [h]
  obtain ⟨hgr, hl, hcl⟩ := cOK_in h
  have hv0 := okClaims_mem hcl
  have hv : ∀ c ∈ l, vClaim c.family c.heads c.from_ c.to = true := fun c hc => (hv0 c hc).1
  have hc := okG_worth hgr
  rw [if_neg (by simp [h]), if_pos h]
  by_cases h2 : isG g.1 g.2 = true
  case neg => simp [h2]
  have h2' := h2
  simp only [isG, decide_eq_true_eq] at h2'
  rw [if_pos h2, h2]
  have w1 : IntKind.i64.wrap ((ss.length : Int) - 1) = (ss.length : Int) - 1 := wrap_id (by omega) (by omega)
  have w2 : IntKind.i64.wrap ((l.length : Int) - ((ss.length : Int) - 1)) = (l.length : Int) - ((ss.length : Int) - 1) := wrap_id (by omega) (by omega)
  simp only [dI, r_lenD, rI_len, r_sub, w1, r_lss, r_cond, decide_eq_true_eq, r_out, dClaims, List.length_map, w2, r_gtr, Bool.not_true, Bool.false_eq_true, if_false, r_liti]
  by_cases c1 : (ss.length : Int) - 1 < 1
  · have : wallOK cl l f ss g = false := by
      unfold wallOK
      rw [show decide (1 ≤ (ss.length : Int) - 1 ∧ 0 ≤ f ∧ f ≤ l.length - ((ss.length : Int) - 1)) = false by simp; omega]; simp
    rw [if_pos c1, this]; rfl
  rw [if_neg c1]
  by_cases c3 : (l.length : Int) < (ss.length : Int) - 1
  · have : wallOK cl l f ss g = false := by
      unfold wallOK
      rw [show decide (1 ≤ (ss.length : Int) - 1 ∧ 0 ≤ f ∧ f ≤ l.length - ((ss.length : Int) - 1)) = false by simp; omega]; simp
    rw [if_pos c3, this]; rfl
  rw [if_neg c3]
  simp only [r_call, s61, r_bnd0, r_ld0, r_not, r_cond]
  by_cases c2 : 0 ≤ f ∧ f ≤ (l.length : Int) - ((ss.length : Int) - 1)
  case neg =>
    have : wallOK cl l f ss g = false := by
      unfold wallOK
      rw [show decide (1 ≤ (ss.length : Int) - 1 ∧ 0 ≤ f ∧ f ≤ l.length - ((ss.length : Int) - 1)) = false by simp; omega]; simp
    simp [c2, this]
  simp only [c2, and_self, decide_true, Bool.not_true, Bool.false_eq_true, if_false]
  obtain ⟨F, rfl⟩ : ∃ F : Nat, f = F := ⟨f.toNat, by omega⟩
  obtain ⟨m, hm⟩ : ∃ m, ss.length = m + 2 := ⟨ss.length - 2, by omega⟩
  have hFl : F < l.length := by omega
  have hx0 : ss[0]? = some ss[0] := by simp [show 0 < ss.length by omega]
  have hcF : l[F]? = some l[F] := by simp [hFl]
  have hd0 : decide (1 ≤ (ss.length : Int) - 1 ∧ 0 ≤ (F : Int) ∧ (F : Int) ≤ l.length - ((ss.length : Int) - 1)) = true := by simp; omega
  have hh : ss.head? = some ss[0] := by rw [List.head?_eq_getElem?]; exact hx0
  have hwall : wallOK cl l (F : Int) ss g = (decide (ss[0] = l[F].from_) && (ss.all inW) && shw cl g (l.drop F) ss && lastOK (l.drop F) ss) := by
    unfold wallOK
    rw [hd0, Int.toNat_natCast, hcF, hh]
    simp
  rw [hwall]
  have hcons : ss = ss[0] :: ss.tail := by
    cases ss with
    | nil => simp at hm
    | cons x r => rfl
  have hvF := hv l[F] (List.getElem_mem hFl)
  simp only [vClaim, decide_eq_true_eq] at hvF
  have href : decide (ss[0] = l[F].from_) = true → ((ss.all inW) && shw cl g (l.drop F) ss) = refw cl g (l.drop F) ss := fun h0 => by
    have h0' := of_decide_eq_true h0
    have := refw_eq (cl := cl) (g := g) (l := l.drop F) (x := ss[0]) (ss := ss.tail) fun c hc => by
      have := hv c (List.mem_of_mem_drop hc); simp only [vClaim, decide_eq_true_eq] at this; omega
    rw [← hcons] at this
    rw [this]
    congr 1
    conv => lhs; rw [hcons]
    rw [List.all_cons, show inW ss[0] = true by unfold inW; simp; omega, Bool.true_and]
  rw [Bool.and_assoc (decide (ss[0] = l[F].from_))]
  generalize ss[0] = x0 at hx0 href
  generalize l[F] = cF at hcF href hvF
  have hr0 := rI_at hx0
  simp only [r_rowDg, Int.le_refl, and_self, if_true, Int.toNat_zero, hr0, List.length_cons, List.length_nil, Int.natCast_nonneg, Int.toNat_natCast, List.getElem?_map, hcF, Option.map_some, rClaim, r_cell0, r_cells, r_neq, r_cond, decide_eq_true_eq, r_out]
  by_cases c4 : x0 = cF.from_
  case neg => simp [c4]
  have href' := href (decide_eq_true c4)
  simp only [c4, ne_eq, not_true_eq_false, if_false, decide_true, Bool.true_and, r_loop, href']
  have key := loop_ms (σ := Nat) [L54_0 (RP (n + 5))] (fun i => (0, [.d (dClaims l), .d (il ((ss.length : Int) - 1)), .d (il (i : Int)), .d (il (F : Int)), .d (dI ss), .d (il (F : Int)), .d (dI ss), .d (il g.1), .d (il g.2), .d (dChains cs), .d (dCells cl)])) (fun i => m + 1 - i) (fun i => i ≤ m + 1 ∧ ∀ x, ss[i]? = some x → 0 ≤ x ∧ x ≤ 25)
      (fun i => match refw cl g (l.drop (F + i)) (ss.drop i) with | true => (if ∀ x, ss[m + 1]? = some x → 0 ≤ x ∧ x ≤ 25 then some (1, [.d (dClaims l), .d (il ((ss.length : Int) - 1)), .d (il (F : Int)), .d (dI ss)]) else none) | false => some (0, [.d (il 49)])) ?_ M0 0 ⟨by omega, fun x hx => by rw [hx0] at hx; cases hx; omega⟩ (M0_big (by omega))
  · simp only [Int.cast_ofNat_Int, List.drop_zero, Nat.add_zero, dI, dClaims] at key
    rw [key]
    cases hsh : refw cl g (l.drop F) ss with
    | false => simp
    | true =>
      have hxm : ss[m + 1]? = some ss[m + 1] := by simp [show m + 1 < ss.length by omega]
      have hcm : l[F + m]? = some l[F + m] := by simp [show F + m < l.length by omega]
      have hla := lastOK_at (l := l.drop F) (ss := ss) m hm (by simp; omega) _ l[F + m] hxm (by simp [hcm])
      rw [hla]
      have hbx : 0 ≤ ss[m + 1] ∧ ss[m + 1] ≤ 25 := by
        have ha : ss.all inW = true := by
          rw [hsh] at href'
          simp only [Bool.and_eq_true] at href'; exact href'.1
        simpa [inW] using List.all_eq_true.1 ha _ (List.mem_of_getElem? hxm)
      generalize ss[m + 1] = xm at hxm hbx
      generalize l[F + m] = cm at hcm
      have hrm := rI_at hxm
      have t1 : ((ss.length : Int) - 1).toNat = m + 1 := by omega
      have t2 : (0 : Int) ≤ (ss.length : Int) - 1 := by omega
      have w3 : IntKind.i64.wrap (xm - 1) = xm - 1 := wrap_id (by omega) (by omega)
      have w4 : IntKind.i64.wrap ((F : Int) + ((ss.length : Int) - 1)) = (F : Int) + ((ss.length : Int) - 1) := wrap_id (by omega) (by omega)
      have w5 : IntKind.i64.wrap ((F : Int) + ((ss.length : Int) - 1) - 1) = ((F + m : Nat) : Int) := by rw [wrap_id (by omega) (by omega)]; omega
      rw [if_pos (fun x hx => by rw [hxm] at hx; cases hx; exact hbx)]
      simp only [r_bnd1, r_ld0, r_lds, r_rowDg, t1, t2, and_self, if_true, hrm, List.length_cons, List.length_nil, r_cell0, r_sub, w3, r_add, w4, w5, Int.natCast_nonneg, Int.toNat_natCast, List.getElem?_map, hcm, Option.map_some, rClaim, r_cells, r_leq, r_out, r_liti, Bool.true_and, r_cond, decide_eq_true_eq]
      by_cases hq : cm.to < xm - 1
      · have : ¬ xm - 1 ≤ cm.to := by omega
        simp [hq, this]
      · have : xm - 1 ≤ cm.to := by omega
        simp [hq, this]
  · rintro i k ⟨hi, hbx⟩ ih
    refine ⟨_, rfl, ?_⟩
    by_cases hlt : i < m + 1
    · have hxi : ss[i]? = some ss[i] := by simp [show i < ss.length by omega]
      have hyi : ss[i + 1]? = some ss[i + 1] := by simp [show i + 1 < ss.length by omega]
      have hci : l[F + i]? = some l[F + i] := by simp [show F + i < l.length by omega]
      have d1 : ss.drop i = ss[i] :: ss.drop (i + 1) := List.drop_eq_getElem_cons (by omega)
      have d2 : ss.drop (i + 1) = ss[i + 1] :: ss.drop (i + 1 + 1) := List.drop_eq_getElem_cons (by omega)
      have d3 : l.drop (F + i) = l[F + i] :: l.drop (F + i + 1) := List.drop_eq_getElem_cons (by omega)
      have hbx' := hbx _ hxi
      have hvc := hv _ (List.mem_of_getElem? hci)
      have ih' := fun hb => ih (i + 1) ⟨by omega, hb⟩ (by omega)
      simp only at ih'
      rw [d2, show F + (i + 1) = F + i + 1 by omega] at ih'
      simp only
      rw [d1, d2, d3]
      simp only [refw]
      generalize ss[i] = x at hxi hbx'
      generalize ss[i + 1] = y at hyi ih'
      generalize l[F + i] = c at hci hvc
      have hvc' := hvc
      simp only [vClaim, decide_eq_true_eq] at hvc'
      have hrx := rI_at hxi
      have hry := rI_at hyi
      have hi1 : (i : Int) < (ss.length : Int) - 1 := by omega
      have v1 : IntKind.i64.wrap ((F : Int) + i) = ((F + i : Nat) : Int) := by rw [wrap_id (by omega) (by omega)]; simp
      have v2 : IntKind.i64.wrap ((i : Int) + 1) = ((i + 1 : Nat) : Int) := by rw [wrap_id (by omega) (by omega)]; simp
      have v4 : IntKind.i64.wrap (max x c.from_ + 1) = max x c.from_ + 1 := wrap_id (by omega) (by omega)
      simp only [L54_0, r_ld0, r_lds, r_lss, hi1, decide_true, r_cond, if_true, r_add, v1, dClaims, r_rowDg, Int.natCast_nonneg, and_self, Int.toNat_natCast, List.getElem?_map, hci, Option.map_some, rClaim, List.length_cons, List.length_nil, r_liti, v2, dI, hry, hrx, r_cell0, r_cells, r_mm, v4, r_call, s61, r_bnd0, r_not]
      by_cases g1 : max x c.from_ + 1 ≤ y ∧ y ≤ 25
      case neg => simp [g1]
      have v3 : IntKind.i64.wrap (y - 2) = y - 2 := wrap_id (by omega) (by omega)
      have hmb : 0 ≤ c.heads * g.1 ∧ c.heads * g.1 ≤ 20000000 := by
        have := mul_bnd (z := c.heads) (c := g.1) (A := 20) (B := 1000000) (by omega) (by omega) (by omega) (by omega) (by omega)
        have := Int.mul_nonneg (show 0 ≤ c.heads by omega) h2'.1
        omega
      have v5 : IntKind.i64.wrap (c.heads * g.1) = c.heads * g.1 := wrap_id (by omega) (by omega)
      have e82 := s82 (n + 4) cl (max x c.from_) (y - 2) (dChains cs) hc (by omega) (by omega) (by omega)
      have hw := seg_worth hc (max x c.from_) (y - 2)
      have o1 := lowI_ok hmb.1 h2'.2.2.1
      have o2 := lowI_ok (a := worthV cl (max x c.from_) (y - 2)) (b := 1) hw.1 (by omega)
      have e86a := s86 (n + 4) (c.heads * g.1) g.2 (by omega) (by omega)
      have e86b := s86 (n + 4) (worthV cl (max x c.from_) (y - 2)) 1 (by omega) (by omega)
      have e56 := s56 (n + 4) (lowI (c.heads * g.1) g.2).1 (lowI (c.heads * g.1) g.2).2 (lowI (worthV cl (max x c.from_) (y - 2)) 1).1 (lowI (worthV cl (max x c.from_) (y - 2)) 1).2 (by omega) (by omega) (by omega) (by omega)
      have elt : decide ((lowI (c.heads * g.1) g.2).1 * (lowI (worthV cl (max x c.from_) (y - 2)) 1).2 < (lowI (worthV cl (max x c.from_) (y - 2)) 1).1 * (lowI (c.heads * g.1) g.2).2) = aboveP g c (worthV cl (max x c.from_) (y - 2)) := by
        have := low_lt hmb.1 h2'.2.2.1 hw.1
        unfold gLt at this
        rw [this]; unfold aboveP; rw [Int.mul_comm c.heads]
      rw [elt] at e56
      simp only [g1, and_self, decide_true, Bool.not_true, Bool.false_eq_true, if_false, r_mul, v5, e86a, e86b, r_bnd0, r_ld0, r_lds, r_rowDg, Int.natCast_nonneg, Int.toNat_natCast, hry, List.length_cons, List.length_nil, if_true, r_cell0, r_sub, v3, e82, e56, r_cond, r_out, Bool.true_and]
      cases hab : aboveP g c (worthV cl (max x c.from_) (y - 2)) with
      | true => simp
      | false =>
        have ih'' := ih' (fun z hz => by rw [hyi] at hz; cases hz; omega)
        simp only [dClaims, dI] at ih''
        simp only [Bool.not_false, Bool.true_and, Bool.false_eq_true, if_false]
        exact ih''
    · have he : i = m + 1 := by omega
      subst he
      have hi1 : ¬ ((m + 1 : Nat) : Int) < (ss.length : Int) - 1 := by omega
      have d1 : ∃ z, ss.drop (m + 1) = [z] := by
        refine ⟨ss[m + 1], ?_⟩
        rw [List.drop_eq_getElem_cons (by omega), List.drop_eq_nil_of_le (by omega)]
      obtain ⟨z, d1⟩ := d1
      have : refw cl g (l.drop (F + (m + 1))) [z] = true := by cases l.drop (F + (m + 1)) <;> rfl
      simp only [d1, this, if_pos hbx]
      simp only [L54_0, r_ld0, r_lds, r_lss, hi1, decide_false, r_cond, Bool.false_eq_true, if_false, r_out]
end Go.VE
/- The reference's gains; Least, Share, Wall, Crowded of claims that are not valid. -/
namespace Go.VE
open Go.RowKit Go.Proofs
set_option maxRecDepth 100000

theorem gains_at {cl : List Cell} {l : List Claim} {ds : List Drift} {i : Nat} {c : Claim} {d : Drift} (hc : l[i]? = some c) (hd : ds[i]? = some d) : (gainsL cl l ds)[i]? = some (gainOf cl d c) := by
  have hz : (ds.zip l)[i]? = some (d, c) := List.getElem?_zip_eq_some.2 ⟨hd, hc⟩
  rw [gainsL, List.getElem?_map, hz]; rfl
theorem s46 (n : Nat) (cs : List Chain) (cl : List Cell) (l : List Claim) (ds : List Drift) (hd : ds.length ≤ 140737488355328) (hll : l.length ≤ 9223372036854775806) :
    FN (n + 6) 46 [dChains cs, dCells cl, dClaims l, dDrifts ds] = if cOK cs cl l = 0 then (if shr (-1) ds l = true then some (0, [.d (dGains (gainsL cl l ds)), .d (il 0)]) else some (0, [.d (.lit (.slice none 0 0)), .d (il 46)])) else some (0, [.d (.lit (.slice none 0 0)), .d (il (cOK cs cl l))]) := by
  rw [F46]
  simp only [G46, r_call, s52 _ _ _ _ _ hd hll, r_bnd0, r_ld0, r_liti, r_litNil, r_neq, r_cond, r_out]
  by_cases h : cOK cs cl l = 0
  case neg => simp [h]
  obtain ⟨hgr, hl, hcl⟩ := cOK_in h
  have hv := okClaims_mem hcl
  have hc := okG_worth hgr
  have hct : ∀ c ∈ l, 0 ≤ c.from_ ∧ c.to < 24 := fun c h => by
    have := (hv c h).1; simp only [vClaim, decide_eq_true_eq] at this; omega
  simp only [h, if_true]
  cases hs : shr (-1) ds l with
  | false => simp
  | true =>
    have hlen := shr_len hs
    have hgl : (gainsL cl l ds).length = l.length := by simp [gainsL, hlen]
    have hdd := shr_in hs hct
    have round : ∀ i : Nat, i < l.length → ∃ c d, l[i]? = some c ∧ ds[i]? = some d ∧ FN (n + 5) 82 [dChains cs, dCells cl, il d.fr, il d.to_] = some (0, [.d (il (worthV cl d.fr d.to_))]) ∧ FN (n + 5) 86 [il (worthV cl d.fr d.to_), il c.heads] = some (0, [.d (il (gainOf cl d c).1), .d (il (gainOf cl d c).2)]) ∧ (gainsL cl l ds)[i]? = some (gainOf cl d c) := fun i hi => by
      have h1 : l[i]? = some l[i] := by simp [hi]
      have h2 : ds[i]? = some ds[i] := by simp [show i < ds.length by omega]
      have b := hdd _ (List.mem_of_getElem? h2)
      have v := (hv _ (List.mem_of_getElem? h1)).1
      simp only [vClaim, decide_eq_true_eq] at v
      have hw := seg_worth hc ds[i].fr ds[i].to_
      exact ⟨_, _, h1, h2, s82 (n + 4) cl _ _ _ hc (by omega) (by omega) (by omega), s86 (n + 4) _ _ (by omega) (by omega), gains_at h1 h2⟩
    have key : loopR [L46_0 (RP (n + 5)), L46_1 (RP (n + 5))] M0 0 [.d (dClaims l), .d (dDrifts ds), .d (il 0), .d (dChains cs), .d (dCells cl)] = some (1, [.n l.length, .n l.length, .r ((gainsL cl l ds).map rG)]) := by
      refine loop_acc (α := Int × Int) (L46_0 (RP (n + 5))) (L46_1 (RP (n + 5))) _ (fun acc => [.d (dClaims l), .d (dDrifts ds), .n acc.length, .n acc.length, .d (il acc.length), .r (acc.map rG), .d (dChains cs), .d (dCells cl)]) l.length (fun acc => acc = (gainsL cl l ds).take acc.length)
        (fun o => o = some (1, [.n l.length, .n l.length, .r ((gainsL cl l ds).map rG)])) rfl ?_ ?_ M0 (M0_big (by omega))
      · intro k ih
        obtain ⟨c, d, h1, h2, e82, e86, hg⟩ := round 0 (by omega)
        have w1 : IntKind.i64.wrap 1 = 1 := rfl
        have ih' := ih (gainOf cl d c) (by simp [List.take_one, List.head?_eq_getElem?, hg]) hl.1
        simp only [dClaims, dDrifts] at ih' ⊢
        simp [L46_0, show (0 : Int) < (l.length : Int) by omega, show 0 < l.length by omega, h1, h2, rDrift, rClaim, e82, e86, w1, -getElem?_pos, List.getElem?_cons_zero, List.getElem?_cons_succ]
        simpa [rG] using ih'
      · intro acc k hI hne hlt ih
        by_cases hi : acc.length < l.length
        · obtain ⟨c, d, h1, h2, e82, e86, hg⟩ := round acc.length hi
          have w1 : IntKind.i64.wrap ((acc.length : Int) + 1) = (acc.length : Int) + 1 := wrap_id (by omega) (by omega)
          have hf : (acc.length + 1) * 16 ≤ 140737488355328 ∧ acc.length ≤ 9223372036854775806 := by omega
          have ih' := ih (gainOf cl d c) (by
            rw [List.length_append, List.length_singleton, List.take_add_one, hg, ← hI]; rfl) hi
          simp only [dClaims, dDrifts] at ih' ⊢
          simp [L46_1, hi, h1, h2, rDrift, rClaim, e82, e86, w1, hf, -getElem?_pos, List.getElem?_cons_zero, List.getElem?_cons_succ]
          simpa [rG] using ih'
        · have he : acc.length = l.length := by omega
          have : acc = gainsL cl l ds := by rw [hI]; exact List.take_of_length_le (by omega)
          simp only [he]
          rw [this]
          simp [L46_1, dClaims]
    simp only [r_loop, key, if_true, ne_eq, not_true_eq_false, decide_false, Bool.false_eq_true, if_false, r_bnd1, r_ln0, r_lns, r_lrs, r_lr0, r_len, List.length_map, hgl, r_eqN, r_slD, r_seg0, r_out]
    rw [show (List.map rG (gainsL cl l ds)).take l.length = List.map rG (gainsL cl l ds) from List.take_of_length_le (by simp [hgl])]
    rfl

theorem s27e (n : Nat) (cs : List Chain) (cl : List Cell) (l : List Claim) (h : cOK cs cl l ≠ 0) : FN (n + 6) 27 [dChains cs, dCells cl, dClaims l] = some (0, [.d (il 0), .d (il 0), .d (il (cOK cs cl l))]) := by
  rw [F27]; simp [G27, s67, h]
theorem s33e (n : Nat) (cs : List Chain) (cl : List Cell) (l : List Claim) (h : cOK cs cl l ≠ 0) : FN (n + 6) 33 [dChains cs, dCells cl, dClaims l] = some (0, [.d (.lit (.slice none 0 0)), .d (il (cOK cs cl l))]) := by
  rw [F33]; simp [G33, s67, h]
theorem s34e (n : Nat) (cs : List Chain) (cl : List Cell) (l : List Claim) (h : cOK cs cl l ≠ 0) : FN (n + 6) 34 [dChains cs, dCells cl, dClaims l] = some (0, [.d (il 0), .d (il 0), .d (il (cOK cs cl l))]) := by
  rw [F34]; simp [G34, s67, h]
theorem s43e (n : Nat) (cs : List Chain) (cl : List Cell) (l : List Claim) (h : cOK cs cl l ≠ 0) : FN (n + 6) 43 [dChains cs, dCells cl, dClaims l] = some (0, [.d (il 0), .d (.lit (.slice none 0 0)), .d (il (cOK cs cl l))]) := by
  rw [F43]; simp [G43, s67, h]
theorem s48e (n : Nat) (cs : List Chain) (cl : List Cell) (l : List Claim) (h : cOK cs cl l ≠ 0) : FN (n + 6) 48 [dChains cs, dCells cl, dClaims l] = some (0, [.d (.lit (.slice none 0 0)), .d (il (cOK cs cl l))]) := by
  rw [F48]; simp [G48, s67, h]
theorem s49e (n : Nat) (cs : List Chain) (cl : List Cell) (l : List Claim) (hl : l.length ≤ 9223372036854775806) (h : cOK cs cl l ≠ 0) : FN (n + 6) 49 [dChains cs, dCells cl, dClaims l] = some (0, [.d (.lit (.slice none 0 0)), .d (il (cOK cs cl l))]) := by
  rw [F49]; simp [G49, s18 _ _ _ _ hl, h]
theorem s47e (n : Nat) (cs : List Chain) (cl : List Cell) (l : List Claim) (hl : l.length ≤ 9223372036854775806) (h : cOK cs cl l ≠ 0) : FN (n + 6) 47 [dChains cs, dCells cl, dClaims l] = some (0, [.d (il 0), .d (il 0), .d (il (cOK cs cl l))]) := by
  rw [F47]; simp [G47, s18 _ _ _ _ hl, h]
end Go.VE
/- The reference's table: one row more. -/
namespace Go.VE
open Go.RowKit Go.Proofs
set_option maxRecDepth 100000

def RowsOK (cl : List Cell) (l : List Claim) (R : List (Int × Int)) : Prop := R.length = cl.length + 1 ∧ ∀ (j : Nat) r, R[j]? = some r → RowOK cl l j r
theorem map_rG_at {R : List (Int × Int)} {j : Nat} {r : Int × Int} (h : R[j]? = some r) : (R.map rG)[j]? = some [il r.1, il r.2] := by rw [List.getElem?_map, h]; rfl
theorem set_rG (B : List (Int × Int)) (i : Nat) (x y : Int × Int) : ((B.set i x).map rG).set i [il y.1, il y.2] = (B.set i y).map rG := by
  rw [show [il y.1, il y.2] = rG y from rfl, ← List.map_set, List.set_set]
theorem joinG_skip (r x : Int × Int) {nx : Int × Int} (h : nx.2 = 0) : joinG r (stepG x nx) = r := by simp [stepG, h, joinG]
set_option maxHeartbeats 1000000 in
theorem l102_1 (n : Nat) (cl : List Cell) (c : Claim) (l : List Claim) (N : List (Int × Int)) (hN : RowsOK cl l N) (hc : okWorth cl) (hv : ∀ c' ∈ c :: l, vClaim c'.family c'.heads c'.from_ c'.to = true) (hto : c.to < cl.length) (table ch fam : D) (B : List (Int × Int)) (hB : B.length = cl.length + 1) (fr : Nat) (hfr : fr < cl.length) (hcf : c.from_ ≤ fr)
    (r : Int × Int) (hr : InOK cl c l fr fr r) :
    ∃ r', loopR [L102_1 (RP (n + 1))] M0 0 [.d table, .d (dGains N), .n (cl.length + 1), .n (cl.length + 1), .d (il (fr : Int)), .d (il (fr : Int)), .r ((B.set fr r).map rG), .d fam, .d (il c.heads), .d (il c.from_), .d (il c.to), .d ch, .d (dCells cl)] =
      some (0, [.d table, .d (dGains N), .n (cl.length + 1), .n (cl.length + 1), .d (il (fr : Int)), .r ((B.set fr r').map rG), .d fam, .d (il c.heads), .d (il c.from_), .d (il c.to), .d ch, .d (dCells cl)]) ∧ RowOK cl (c :: l) fr r' := by
  have hvc := hv c (by simp)
  simp only [vClaim, decide_eq_true_eq] at hvc
  have hcl := hc.1
  refine loop_pr (σ := Nat × (Int × Int)) [L102_1 (RP (n + 1))] (fun s => (0, [.d table, .d (dGains N), .n (cl.length + 1), .n (cl.length + 1), .d (il (fr : Int)), .d (il (s.1 : Int)), .r ((B.set fr s.2).map rG), .d fam, .d (il c.heads), .d (il c.from_), .d (il c.to), .d ch, .d (dCells cl)]))
    (fun s => 100 - s.1) (fun s => fr ≤ s.1 ∧ (s.1 : Int) ≤ max (fr : Int) (c.to + 1) ∧ InOK cl c l fr s.1 s.2)
    (fun o => ∃ r', o = some (0, [.d table, .d (dGains N), .n (cl.length + 1), .n (cl.length + 1), .d (il (fr : Int)), .r ((B.set fr r').map rG), .d fam, .d (il c.heads), .d (il c.from_), .d (il c.to), .d ch, .d (dCells cl)]) ∧ RowOK cl (c :: l) fr r') ?_ M0 (fr, r) ⟨by simp, by simp only; omega, hr⟩ (M0_big (by simp only; omega))
  rintro ⟨t, r⟩ k ⟨h1, h2, h3⟩ ih
  refine ⟨_, rfl, ?_⟩
  simp only at h1 h2 h3 ⊢
  by_cases ht : (t : Int) ≤ c.to
  · have htl : t + 1 < N.length := by rw [hN.1]; omega
    have hNx : N[t + 1]? = some N[t + 1] := by simp [htl]
    have hrow := hN.2 (t + 1) _ hNx
    generalize N[t + 1] = nx at hNx hrow
    have hnb := Opt_den hrow
    have hrb := Opt_den h3
    have ih' := ih (t + 1, joinG r (stepG (gainOf cl ⟨fr, t⟩ c) nx)) ⟨by simp only; omega, by simp only; omega, In_step hc hv (by omega) h3 hrow⟩ (by simp only; omega)
    have w1 : IntKind.i64.wrap ((t : Int) + 1) = ((t + 1 : Nat) : Int) := wrap_id (by omega) (by omega)
    have hrn := map_rG_at hNx
    have hrd : ∀ K, (RP (n + 1)).rowD 2 (dGains N) (il ((t + 1 : Nat) : Int)) K = K [il nx.1, il nx.2] := fun K => r_rowDn 2 (N.map rG) (t + 1) K _ hrn rfl
    have hBl : ∀ x, (List.map rG (B.set fr x)).length = cl.length + 1 := fun x => by simp [hB]
    have hBx : ∀ x : Int × Int, (List.map rG (B.set fr x))[fr]? = some [il x.1, il x.2] := fun x => map_rG_at (by rw [List.getElem?_set_self (by omega)])
    have hrt : ∀ (x : Int × Int) K, (RP (n + 1)).rowAt 2 (List.map rG (B.set fr x)) fr K = K [il x.1, il x.2] := fun x K => r_rowAt 2 _ fr K _ (hBx x) rfl
    have hix : ∀ K, (RP (n + 1)).inx (il (fr : Int)) (cl.length + 1) K = K fr := fun K => by rw [r_inx _ _ _ (by omega), Int.toNat_natCast]
    have hw := seg_worth hc fr t
    have e82 := s82 n cl fr t ch hc (by omega) (by omega) (by omega)
    have e86 := s86 n (worthV cl fr t) c.heads (by omega) (by omega)
    have hx := gainOf_low1 (d := ⟨fr, t⟩) hc (hv c (by simp))
    have hxe : gainOf cl ⟨fr, t⟩ c = lowI (worthV cl fr t) c.heads := rfl
    rw [← hxe] at e86
    generalize gainOf cl ⟨fr, t⟩ c = x at hx e86 ih'
    obtain ⟨x1, x2, x3, x4, _⟩ := hx
    have e56a := s56 n nx.1 nx.2 x.1 x.2 (by omega) (by omega) (by omega) (by omega)
    simp only [L102_1, r_ld0, r_lds, r_leq, ht, decide_true, r_cond, if_true, r_add, r_liti, w1, hrd, r_cell0, r_cells, r_eql, decide_eq_true_eq]
    by_cases hn0 : nx.2 = 0
    · rw [if_pos hn0]
      rw [joinG_skip _ _ hn0] at ih'
      simp only [r_ln0, r_lns, r_lr0, r_lrs]
      exact ih'
    · rw [if_neg hn0]
      have st : stepG x nx = if gLt nx x then nx else x := by rw [stepG, if_neg hn0]
      rw [st] at ih'
      have hlt : decide (nx.1 * x.2 < x.1 * nx.2) = gLt nx x := rfl
      rw [hlt] at e56a
      obtain ⟨y, hy⟩ : ∃ y, y = if gLt nx x = true then nx else x := ⟨_, rfl⟩
      rw [← hy] at ih'
      have hyb : 0 ≤ y.1 ∧ y.1 ≤ 1000000 ∧ 1 ≤ y.2 ∧ y.2 ≤ 1000000 := by rw [hy]; split <;> omega
      have e56b := s56 n r.1 r.2 y.1 y.2 (by omega) (by omega) (by omega) (by omega)
      have hlt2 : decide (r.1 * y.2 < y.1 * r.2) = gLt r y := rfl
      rw [hlt2] at e56b
      have hy0 : ¬ y.2 = 0 := by omega
      rw [joinG, if_neg hy0] at ih'
      cases hg : gLt nx x
      all_goals
        rw [hg] at e56a hy
        simp only [Bool.false_eq_true, if_false, if_true] at hy
        subst hy
        simp only [r_call, e82, r_bnd0, r_ld0, r_lds, e86, r_add, w1, hrd, r_cell0, r_cells, e56a, r_cond, Bool.false_eq_true, if_false, if_true, r_out, r_ln0, r_lns, r_lr0, r_lrs, r_len, hBl, r_eqN, hix, hrt, r_eql, decide_eq_true_eq, r_setR, set_rG, r_liti]
        by_cases hr0 : r.2 = 0
        · rw [if_pos hr0] at ih' ⊢
          exact ih'
        · rw [if_neg hr0] at ih' ⊢
          simp only [r_call, e56b, r_bnd0, r_ld0, r_cond]
          generalize hg2 : gLt r _ = b2 at ih' ⊢
          cases b2 with
          | false =>
            simp only [Bool.false_eq_true, if_false] at ih' ⊢
            exact ih'
          | true =>
            simp only [if_true, r_len, hBl, r_eqN, hix, hrt, r_out, set_rG, r_add, r_liti, w1, r_setR] at ih' ⊢
            exact ih'
  · refine ⟨r, ?_, In_end hcf (by omega) h2 h3⟩
    simp [L102_1, ht]
set_option maxHeartbeats 1000000 in
theorem l102_3 (n : Nat) (cl : List Cell) (c : Claim) (l : List Claim) (N : List (Int × Int)) (hN : RowsOK cl l N) (hc : okWorth cl) (hv : ∀ c' ∈ c :: l, vClaim c'.family c'.heads c'.from_ c'.to = true) (hto : c.to < cl.length) (table ch fam : D) (B : List (Int × Int)) (hB : B.length = cl.length + 1) (fr : Nat) (hfr : fr < cl.length) (hcf : c.from_ ≤ fr)
    (r : Int × Int) (hr : InOK cl c l fr fr r) :
    ∃ r', loopR [L102_3 (RP (n + 1))] M0 0 [.d table, .n (cl.length + 1), .n (cl.length + 1), .n (cl.length + 1), .n (cl.length + 1), .d (il (fr : Int)), .d (il (fr : Int)), .r ((B.set fr r).map rG), .d fam, .d (il c.heads), .d (il c.from_), .d (il c.to), .r (N.map rG), .d ch, .d (dCells cl)] =
      some (0, [.d table, .n (cl.length + 1), .n (cl.length + 1), .n (cl.length + 1), .n (cl.length + 1), .d (il (fr : Int)), .r ((B.set fr r').map rG), .d fam, .d (il c.heads), .d (il c.from_), .d (il c.to), .r (N.map rG), .d ch, .d (dCells cl)]) ∧ RowOK cl (c :: l) fr r' := by
  have hvc := hv c (by simp)
  simp only [vClaim, decide_eq_true_eq] at hvc
  have hcl := hc.1
  refine loop_pr (σ := Nat × (Int × Int)) [L102_3 (RP (n + 1))] (fun s => (0, [.d table, .n (cl.length + 1), .n (cl.length + 1), .n (cl.length + 1), .n (cl.length + 1), .d (il (fr : Int)), .d (il (s.1 : Int)), .r ((B.set fr s.2).map rG), .d fam, .d (il c.heads), .d (il c.from_), .d (il c.to), .r (N.map rG), .d ch, .d (dCells cl)]))
    (fun s => 100 - s.1) (fun s => fr ≤ s.1 ∧ (s.1 : Int) ≤ max (fr : Int) (c.to + 1) ∧ InOK cl c l fr s.1 s.2)
    (fun o => ∃ r', o = some (0, [.d table, .n (cl.length + 1), .n (cl.length + 1), .n (cl.length + 1), .n (cl.length + 1), .d (il (fr : Int)), .r ((B.set fr r').map rG), .d fam, .d (il c.heads), .d (il c.from_), .d (il c.to), .r (N.map rG), .d ch, .d (dCells cl)]) ∧ RowOK cl (c :: l) fr r') ?_ M0 (fr, r) ⟨by simp, by simp only; omega, hr⟩ (M0_big (by simp only; omega))
  rintro ⟨t, r⟩ k ⟨h1, h2, h3⟩ ih
  refine ⟨_, rfl, ?_⟩
  simp only at h1 h2 h3 ⊢
  by_cases ht : (t : Int) ≤ c.to
  · have htl : t + 1 < N.length := by rw [hN.1]; omega
    have hNx : N[t + 1]? = some N[t + 1] := by simp [htl]
    have hrow := hN.2 (t + 1) _ hNx
    generalize N[t + 1] = nx at hNx hrow
    have hnb := Opt_den hrow
    have hrb := Opt_den h3
    have ih' := ih (t + 1, joinG r (stepG (gainOf cl ⟨fr, t⟩ c) nx)) ⟨by simp only; omega, by simp only; omega, In_step hc hv (by omega) h3 hrow⟩ (by simp only; omega)
    have w1 : IntKind.i64.wrap ((t : Int) + 1) = ((t + 1 : Nat) : Int) := wrap_id (by omega) (by omega)
    have hrn := map_rG_at hNx
    have hrd : ∀ K, (RP (n + 1)).rowAt 2 (N.map rG) (t + 1) K = K [il nx.1, il nx.2] := fun K => r_rowAt 2 (N.map rG) (t + 1) K _ hrn rfl
    have hNl : (N.map rG).length = cl.length + 1 := by rw [List.length_map, hN.1]
    have hix1 : ∀ K, (RP (n + 1)).inx (il ((t + 1 : Nat) : Int)) (cl.length + 1) K = K (t + 1) := fun K => by rw [r_inx _ _ _ (by have := hN.1; omega), Int.toNat_natCast]
    have hBl : ∀ x, (List.map rG (B.set fr x)).length = cl.length + 1 := fun x => by simp [hB]
    have hBx : ∀ x : Int × Int, (List.map rG (B.set fr x))[fr]? = some [il x.1, il x.2] := fun x => map_rG_at (by rw [List.getElem?_set_self (by omega)])
    have hrt : ∀ (x : Int × Int) K, (RP (n + 1)).rowAt 2 (List.map rG (B.set fr x)) fr K = K [il x.1, il x.2] := fun x K => r_rowAt 2 _ fr K _ (hBx x) rfl
    have hix : ∀ K, (RP (n + 1)).inx (il (fr : Int)) (cl.length + 1) K = K fr := fun K => by rw [r_inx _ _ _ (by omega), Int.toNat_natCast]
    have hw := seg_worth hc fr t
    have e82 := s82 n cl fr t ch hc (by omega) (by omega) (by omega)
    have e86 := s86 n (worthV cl fr t) c.heads (by omega) (by omega)
    have hx := gainOf_low1 (d := ⟨fr, t⟩) hc (hv c (by simp))
    have hxe : gainOf cl ⟨fr, t⟩ c = lowI (worthV cl fr t) c.heads := rfl
    rw [← hxe] at e86
    generalize gainOf cl ⟨fr, t⟩ c = x at hx e86 ih'
    obtain ⟨x1, x2, x3, x4, _⟩ := hx
    have e56a := s56 n nx.1 nx.2 x.1 x.2 (by omega) (by omega) (by omega) (by omega)
    simp only [L102_3, r_ld0, r_lds, r_leq, ht, decide_true, r_cond, if_true, r_add, r_liti, w1, r_ln0, r_lns, r_lr0, r_lrs, r_len, hNl, r_eqN, hix1, hrd, r_cell0, r_cells, r_eql, decide_eq_true_eq]
    by_cases hn0 : nx.2 = 0
    · rw [if_pos hn0]
      rw [joinG_skip _ _ hn0] at ih'
      exact ih'
    · rw [if_neg hn0]
      have st : stepG x nx = if gLt nx x then nx else x := by rw [stepG, if_neg hn0]
      rw [st] at ih'
      have hlt : decide (nx.1 * x.2 < x.1 * nx.2) = gLt nx x := rfl
      rw [hlt] at e56a
      obtain ⟨y, hy⟩ : ∃ y, y = if gLt nx x = true then nx else x := ⟨_, rfl⟩
      rw [← hy] at ih'
      have hyb : 0 ≤ y.1 ∧ y.1 ≤ 1000000 ∧ 1 ≤ y.2 ∧ y.2 ≤ 1000000 := by rw [hy]; split <;> omega
      have e56b := s56 n r.1 r.2 y.1 y.2 (by omega) (by omega) (by omega) (by omega)
      have hlt2 : decide (r.1 * y.2 < y.1 * r.2) = gLt r y := rfl
      rw [hlt2] at e56b
      have hy0 : ¬ y.2 = 0 := by omega
      rw [joinG, if_neg hy0] at ih'
      cases hg : gLt nx x
      all_goals
        rw [hg] at e56a hy
        simp only [Bool.false_eq_true, if_false, if_true] at hy
        subst hy
        simp only [r_call, e82, r_bnd0, r_ld0, r_lds, e86, r_add, w1, r_len, hNl, hix1, hrd, r_cell0, r_cells, e56a, r_cond, Bool.false_eq_true, if_false, if_true, r_out, r_ln0, r_lns, r_lr0, r_lrs, r_len, hBl, r_eqN, hix, hrt, r_eql, decide_eq_true_eq, r_setR, set_rG, r_liti]
        by_cases hr0 : r.2 = 0
        · rw [if_pos hr0] at ih' ⊢
          exact ih'
        · rw [if_neg hr0] at ih' ⊢
          simp only [r_call, e56b, r_bnd0, r_ld0, r_cond]
          generalize hg2 : gLt r _ = b2 at ih' ⊢
          cases b2 with
          | false =>
            simp only [Bool.false_eq_true, if_false] at ih' ⊢
            exact ih'
          | true =>
            simp only [if_true, r_len, hBl, r_eqN, hix, hrt, r_out, set_rG, r_add, r_liti, w1, r_setR] at ih' ⊢
            exact ih'
  · refine ⟨r, ?_, In_end hcf (by omega) h2 h3⟩
    simp [L102_3, ht]
end Go.VE
/- The reference's table: a row from its end. -/
namespace Go.VE
open Go.RowKit Go.Proofs
set_option maxRecDepth 100000

theorem set_rG0 (B : List (Int × Int)) (i : Nat) (y : Int × Int) : (B.map rG).set i [il y.1, il y.2] = (B.set i y).map rG := by
  rw [show [il y.1, il y.2] = rG y from rfl, ← List.map_set]
theorem set_rows {cl : List Cell} {l : List Claim} {R : List (Int × Int)} {k : Nat} {r : Int × Int} (h : ∀ (j : Nat) r, k + 1 ≤ j → R[j]? = some r → RowOK cl l j r) (hr : RowOK cl l k r) : ∀ (j : Nat) x, k ≤ j → (R.set k r)[j]? = some x → RowOK cl l j x := by
  intro j x hj hx
  by_cases he : j = k
  · subst he
    have hl : j < R.length := by
      have := (List.getElem?_eq_some_iff.1 hx).1; simpa using this
    rw [List.getElem?_set_self hl] at hx
    cases hx; exact hr
  · rw [List.getElem?_set_ne (by omega)] at hx
    exact h j x (by omega) hx
set_option maxHeartbeats 1000000 in
theorem l102_2 (n : Nat) (cl : List Cell) (c : Claim) (l : List Claim) (N : List (Int × Int)) (hN : RowsOK cl l N) (hc : okWorth cl) (hv : ∀ c' ∈ c :: l, vClaim c'.family c'.heads c'.from_ c'.to = true) (hto : c.to < cl.length) (table ch fam : D) :
    ∃ R, loopR [L102_2 (RP (n + 1))] M0 0 [.d table, .d (dGains N), .n (cl.length + 1), .n (cl.length + 1), .d (il ((cl.length : Int) - 1)), .r ((List.replicate (cl.length + 1) ((0 : Int), (0 : Int))).map rG), .d fam, .d (il c.heads), .d (il c.from_), .d (il c.to), .d ch, .d (dCells cl)] =
      some (0, [.d table, .n (cl.length + 1), .n (cl.length + 1), .r (R.map rG)]) ∧ RowsOK cl (c :: l) R := by
  have hcl := hc.1
  have hvc := hv c (by simp)
  simp only [vClaim, decide_eq_true_eq] at hvc
  refine loop_pr (σ := Nat × List (Int × Int)) [L102_2 (RP (n + 1))] (fun s => (0, [.d table, .d (dGains N), .n (cl.length + 1), .n (cl.length + 1), .d (il ((s.1 : Int) - 1)), .r (s.2.map rG), .d fam, .d (il c.heads), .d (il c.from_), .d (il c.to), .d ch, .d (dCells cl)]))
    (fun s => s.1) (fun s => s.1 ≤ cl.length ∧ s.2.length = cl.length + 1 ∧ ∀ (j : Nat) r, s.1 ≤ j → s.2[j]? = some r → RowOK cl (c :: l) j r)
    (fun o => ∃ R, o = some (0, [.d table, .n (cl.length + 1), .n (cl.length + 1), .r (R.map rG)]) ∧ RowsOK cl (c :: l) R) ?_ M0 (cl.length, List.replicate (cl.length + 1) (0, 0)) ⟨Nat.le_refl _, by simp, fun j r hj hr => ?_⟩ (M0_big (by simp only; omega))
  · rintro ⟨k, R⟩ K ⟨h1, h2, h3⟩ ih
    refine ⟨_, rfl, ?_⟩
    simp only at h1 h2 h3 ⊢
    cases k with
    | zero =>
      refine ⟨R, ?_, h2, fun j r hr => h3 j r (Nat.zero_le _) hr⟩
      simp [L102_2]
    | succ k =>
      have hk1 : R[k + 1]? = some R[k + 1] := by simp [show k + 1 < R.length by omega]
      have hk0 : R[k]? = some R[k] := by simp [show k < R.length by omega]
      have hr1 := h3 (k + 1) _ (Nat.le_refl _) hk1
      generalize R[k + 1] = r1 at hk1 hr1
      generalize R[k] = r0 at hk0
      have hm1 := map_rG_at hk1
      have hm0 := map_rG_at hk0
      have hRl : (R.map rG).length = cl.length + 1 := by simp [h2]
      have e1 : ((k + 1 : Nat) : Int) - 1 = (k : Int) := by omega
      have w1 : IntKind.i64.wrap ((k : Int) + 1) = ((k + 1 : Nat) : Int) := wrap_id (by omega) (by omega)
      have w2 : IntKind.i64.wrap ((k : Int) - 1) = (k : Int) - 1 := wrap_id (by omega) (by omega)
      have hix1 : ∀ K, (RP (n + 1)).inx (il ((k + 1 : Nat) : Int)) (cl.length + 1) K = K (k + 1) := fun K => by rw [r_inx _ _ _ (by omega), Int.toNat_natCast]
      have hix0 : ∀ K, (RP (n + 1)).inx (il (k : Int)) (cl.length + 1) K = K k := fun K => by rw [r_inx _ _ _ (by omega), Int.toNat_natCast]
      have ha1 : ∀ K, (RP (n + 1)).rowAt 2 (R.map rG) (k + 1) K = K [il r1.1, il r1.2] := fun K => r_rowAt 2 _ _ K _ hm1 rfl
      have ha0 : ∀ K, (RP (n + 1)).rowAt 2 (R.map rG) k K = K [il r0.1, il r0.2] := fun K => r_rowAt 2 _ _ K _ hm0 rfl
      have hge : (0 : Int) ≤ (k : Int) := by omega
      simp only [e1]
      simp only [L102_2, r_ld0, r_lds, r_geq, r_liti, hge, decide_true, r_cond, if_true, r_add, w1, r_lns, r_ln0, r_lrs, r_lr0, r_len, hRl, r_eqN, hix1, hix0, ha1, ha0, r_lss, decide_eq_true_eq, r_setR, r_cell0, r_cells, set_rG0, r_sub, w2, r_loop]
      by_cases hf : (k : Int) < c.from_
      · rw [if_pos hf]
        have ih' := ih (k, R.set k r1) ⟨by simp only; omega, by simp [h2], set_rows h3 (Row_skip hf (by have := hr1; rw [show ((k + 1 : Nat) : Int) = (k : Int) + 1 by omega] at this; exact this))⟩ (by simp only; omega)
        exact ih'
      · rw [if_neg hf]
        obtain ⟨r', e, hr'⟩ := l102_1 n cl c l N hN hc hv hto table ch fam R h2 k (by omega) (by omega) r1 (In_start (by have := hr1; rw [show ((k + 1 : Nat) : Int) = (k : Int) + 1 by omega] at this; exact this))
        rw [e]
        have ih' := ih (k, R.set k r') ⟨by simp only; omega, by simp [h2], set_rows h3 hr'⟩ (by simp only; omega)
        simp only [r_bnd0, r_ld0, r_lds, r_sub, r_liti, w2, r_lns, r_ln0, r_lrs, r_lr0]
        exact ih'
  · have hjl : j < cl.length + 1 := by
      have := (List.getElem?_eq_some_iff.1 hr).1; simpa using this
    have : r = (0, 0) := by
      rw [List.getElem?_replicate] at hr
      simp only [hjl, if_true, Option.some.injEq] at hr; exact hr.symm
    subst this
    exact Row_end (by simp only at hj; omega)
set_option maxHeartbeats 1000000 in
theorem l102_4 (n : Nat) (cl : List Cell) (c : Claim) (l : List Claim) (N : List (Int × Int)) (hN : RowsOK cl l N) (hc : okWorth cl) (hv : ∀ c' ∈ c :: l, vClaim c'.family c'.heads c'.from_ c'.to = true) (hto : c.to < cl.length) (table ch fam : D) :
    ∃ R, loopR [L102_4 (RP (n + 1))] M0 0 [.d table, .n (cl.length + 1), .n (cl.length + 1), .n (cl.length + 1), .n (cl.length + 1), .d (il ((cl.length : Int) - 1)), .r ((List.replicate (cl.length + 1) ((0 : Int), (0 : Int))).map rG), .d fam, .d (il c.heads), .d (il c.from_), .d (il c.to), .r (N.map rG), .d ch, .d (dCells cl)] =
      some (0, [.d table, .n (cl.length + 1), .n (cl.length + 1), .r (R.map rG)]) ∧ RowsOK cl (c :: l) R := by
  have hcl := hc.1
  have hvc := hv c (by simp)
  simp only [vClaim, decide_eq_true_eq] at hvc
  refine loop_pr (σ := Nat × List (Int × Int)) [L102_4 (RP (n + 1))] (fun s => (0, [.d table, .n (cl.length + 1), .n (cl.length + 1), .n (cl.length + 1), .n (cl.length + 1), .d (il ((s.1 : Int) - 1)), .r (s.2.map rG), .d fam, .d (il c.heads), .d (il c.from_), .d (il c.to), .r (N.map rG), .d ch, .d (dCells cl)]))
    (fun s => s.1) (fun s => s.1 ≤ cl.length ∧ s.2.length = cl.length + 1 ∧ ∀ (j : Nat) r, s.1 ≤ j → s.2[j]? = some r → RowOK cl (c :: l) j r)
    (fun o => ∃ R, o = some (0, [.d table, .n (cl.length + 1), .n (cl.length + 1), .r (R.map rG)]) ∧ RowsOK cl (c :: l) R) ?_ M0 (cl.length, List.replicate (cl.length + 1) (0, 0)) ⟨Nat.le_refl _, by simp, fun j r hj hr => ?_⟩ (M0_big (by simp only; omega))
  · rintro ⟨k, R⟩ K ⟨h1, h2, h3⟩ ih
    refine ⟨_, rfl, ?_⟩
    simp only at h1 h2 h3 ⊢
    cases k with
    | zero =>
      refine ⟨R, ?_, h2, fun j r hr => h3 j r (Nat.zero_le _) hr⟩
      simp [L102_4]
    | succ k =>
      have hk1 : R[k + 1]? = some R[k + 1] := by simp [show k + 1 < R.length by omega]
      have hk0 : R[k]? = some R[k] := by simp [show k < R.length by omega]
      have hr1 := h3 (k + 1) _ (Nat.le_refl _) hk1
      generalize R[k + 1] = r1 at hk1 hr1
      generalize R[k] = r0 at hk0
      have hm1 := map_rG_at hk1
      have hm0 := map_rG_at hk0
      have hRl : (R.map rG).length = cl.length + 1 := by simp [h2]
      have e1 : ((k + 1 : Nat) : Int) - 1 = (k : Int) := by omega
      have w1 : IntKind.i64.wrap ((k : Int) + 1) = ((k + 1 : Nat) : Int) := wrap_id (by omega) (by omega)
      have w2 : IntKind.i64.wrap ((k : Int) - 1) = (k : Int) - 1 := wrap_id (by omega) (by omega)
      have hix1 : ∀ K, (RP (n + 1)).inx (il ((k + 1 : Nat) : Int)) (cl.length + 1) K = K (k + 1) := fun K => by rw [r_inx _ _ _ (by omega), Int.toNat_natCast]
      have hix0 : ∀ K, (RP (n + 1)).inx (il (k : Int)) (cl.length + 1) K = K k := fun K => by rw [r_inx _ _ _ (by omega), Int.toNat_natCast]
      have ha1 : ∀ K, (RP (n + 1)).rowAt 2 (R.map rG) (k + 1) K = K [il r1.1, il r1.2] := fun K => r_rowAt 2 _ _ K _ hm1 rfl
      have ha0 : ∀ K, (RP (n + 1)).rowAt 2 (R.map rG) k K = K [il r0.1, il r0.2] := fun K => r_rowAt 2 _ _ K _ hm0 rfl
      have hge : (0 : Int) ≤ (k : Int) := by omega
      simp only [e1]
      simp only [L102_4, r_ld0, r_lds, r_geq, r_liti, hge, decide_true, r_cond, if_true, r_add, w1, r_lns, r_ln0, r_lrs, r_lr0, r_len, hRl, r_eqN, hix1, hix0, ha1, ha0, r_lss, decide_eq_true_eq, r_setR, r_cell0, r_cells, set_rG0, r_sub, w2, r_loop]
      by_cases hf : (k : Int) < c.from_
      · rw [if_pos hf]
        have ih' := ih (k, R.set k r1) ⟨by simp only; omega, by simp [h2], set_rows h3 (Row_skip hf (by have := hr1; rw [show ((k + 1 : Nat) : Int) = (k : Int) + 1 by omega] at this; exact this))⟩ (by simp only; omega)
        exact ih'
      · rw [if_neg hf]
        obtain ⟨r', e, hr'⟩ := l102_3 n cl c l N hN hc hv hto table ch fam R h2 k (by omega) (by omega) r1 (In_start (by have := hr1; rw [show ((k + 1 : Nat) : Int) = (k : Int) + 1 by omega] at this; exact this))
        rw [e]
        have ih' := ih (k, R.set k r') ⟨by simp only; omega, by simp [h2], set_rows h3 hr'⟩ (by simp only; omega)
        simp only [r_bnd0, r_ld0, r_lds, r_sub, r_liti, w2, r_lns, r_ln0, r_lrs, r_lr0]
        exact ih'
  · have hjl : j < cl.length + 1 := by
      have := (List.getElem?_eq_some_iff.1 hr).1; simpa using this
    have : r = (0, 0) := by
      rw [List.getElem?_replicate] at hr
      simp only [hjl, if_true, Option.some.injEq] at hr; exact hr.symm
    subst this
    exact Row_end (by simp only at hj; omega)
def dTab (T : List (List (Int × Int))) : D := .sl 1 (T.map fun R => [dGains R])
theorem l102_0 (n : Nat) (cl : List Cell) (hcl : cl.length ≤ 24) (x y ch : D) :
    ∃ R, loopR [L102_0 (RP n)] M0 0 [.d x, .d y, .n (cl.length + 1), .n (cl.length + 1), .d (il 0), .r ((List.replicate (cl.length + 1) ((0 : Int), (0 : Int))).map rG), .d ch, .d (dCells cl)] =
      some (0, [.d x, .d y, .n (cl.length + 1), .n (cl.length + 1), .r (R.map rG), .d ch, .d (dCells cl)]) ∧ RowsOK cl [] R := by
  refine loop_pr (σ := Nat × List (Int × Int)) [L102_0 (RP n)] (fun s => (0, [.d x, .d y, .n (cl.length + 1), .n (cl.length + 1), .d (il (s.1 : Int)), .r (s.2.map rG), .d ch, .d (dCells cl)]))
    (fun s => 100 - s.1) (fun s => s.1 ≤ cl.length + 1 ∧ s.2.length = cl.length + 1 ∧ ∀ (j : Nat) r, j < s.1 → s.2[j]? = some r → r = (1000000, 1))
    (fun o => ∃ R, o = some (0, [.d x, .d y, .n (cl.length + 1), .n (cl.length + 1), .r (R.map rG), .d ch, .d (dCells cl)]) ∧ RowsOK cl [] R) ?_ M0 (0, List.replicate (cl.length + 1) (0, 0)) ⟨by simp, by simp, fun j r hj _ => by simp at hj⟩ (M0_big (by simp only; omega))
  rintro ⟨i, R⟩ K ⟨h1, h2, h3⟩ ih
  refine ⟨_, rfl, ?_⟩
  simp only at h1 h2 h3 ⊢
  by_cases hi : (i : Int) ≤ (cl.length : Int)
  · have hk0 : R[i]? = some R[i] := by simp [show i < R.length by omega]
    generalize R[i] = r0 at hk0
    have hm0 := map_rG_at hk0
    have hRl : (R.map rG).length = cl.length + 1 := by simp [h2]
    have w1 : IntKind.i64.wrap ((i : Int) + 1) = ((i + 1 : Nat) : Int) := wrap_id (by omega) (by omega)
    have hix0 : ∀ K, (RP n).inx (il (i : Int)) (cl.length + 1) K = K i := fun K => by rw [r_inx _ _ _ (by omega), Int.toNat_natCast]
    have ha0 : ∀ K, (RP n).rowAt 2 (R.map rG) i K = K [il r0.1, il r0.2] := fun K => r_rowAt 2 _ _ K _ hm0 rfl
    have hs : (R.map rG).set i [il 1000000, il 1] = (R.set i (1000000, 1)).map rG := set_rG0 R i (1000000, 1)
    have ih' := ih (i + 1, R.set i (1000000, 1)) ⟨by simp only; omega, by simp [h2], fun j r hj hr => by
      by_cases he : j = i
      · subst he
        rw [List.getElem?_set_self (by omega)] at hr
        cases hr; rfl
      · rw [List.getElem?_set_ne (by omega)] at hr
        exact h3 j r (by simp only at hj; omega) hr⟩ (by simp only; omega)
    simp only [L102_0, r_ld0, r_lds, dCells, r_lenD, List.length_map, r_leq, hi, decide_true, r_cond, if_true, r_lns, r_ln0, r_lrs, r_lr0, r_len, hRl, r_eqN, hix0, ha0, r_add, r_liti, w1, r_setR, hs]
    exact ih'
  · refine ⟨R, ?_, h2, fun j r hr => ?_⟩
    · simp [L102_0, dCells, show ¬ i ≤ cl.length by omega]
    · have hj : j < R.length := (List.getElem?_eq_some_iff.1 hr).1
      rw [h3 j r (by omega) hr]
      exact Row_nil cl j
end Go.VE
/- The reference's table, its least gain. -/
namespace Go.VE
open Go.RowKit Go.Proofs
set_option maxRecDepth 100000

section
variable {Fn : Nat → List D → Out} {FnD : D → List Sh → List D → Out} {m : Nat}
theorem rep_rG (k : Nat) : List.replicate k [il 0, il 0] = (List.replicate k ((0 : Int), (0 : Int))).map rG := by simp [rG]
end
set_option maxHeartbeats 1000000 in
theorem s102a (n : Nat) (cl : List Cell) (l : List Claim) (c : Claim) (hc : okWorth cl) (hv : ∀ c' ∈ l, vClaim c'.family c'.heads c'.from_ c'.to = true ∧ c'.to < cl.length) (hl : 1 ≤ l.length ∧ l.length ≤ 12) (hcl : l[l.length - 1]? = some c) (ch : D) :
    ∃ R, FN (n + 2) 102 [ch, dCells cl, dClaims l, .lit (.slice none 0 0)] = some (0, [.d (dTab [R])]) ∧ RowsOK cl [c] R := by
  have hcc := hc.1
  have hvc := hv c (List.mem_of_getElem? hcl)
  have hv1 : ∀ c' ∈ [c], vClaim c'.family c'.heads c'.from_ c'.to = true := fun c' h => by
    simp only [List.mem_singleton] at h; subst h; exact hvc.1
  obtain ⟨N, e0, hN⟩ := l102_0 (n + 1) cl hcc (dClaims l) (.lit (.slice none 0 0)) ch
  obtain ⟨R, e4, hR⟩ := l102_4 n cl c [] N hN hc hv1 hvc.2 (.lit (.slice none 0 0)) ch (il c.family)
  refine ⟨R, ?_, hR⟩
  rw [F102]
  have w1 : IntKind.i64.wrap ((cl.length : Int) + 1) = (cl.length : Int) + 1 := wrap_id (by omega) (by omega)
  have w2 : IntKind.i64.wrap ((cl.length : Int) - 1) = (cl.length : Int) - 1 := wrap_id (by omega) (by omega)
  have w3 : IntKind.i64.wrap ((l.length : Int) - 1) = (l.length : Int) - 1 := wrap_id (by omega) (by omega)
  have w4 : IntKind.i64.wrap ((l.length : Int) - 1 - 0) = ((l.length - 1 : Nat) : Int) := by rw [wrap_id (by omega) (by omega)]; omega
  have hmk : ∀ K, (RP (n + 1)).mkN 16 (il ((cl.length : Int) + 1)) (il ((cl.length : Int) + 1)) K = K (cl.length + 1) := fun K => by
    rw [r_mkN _ _ _ (by omega)]; congr 1
  have hrow : ∀ K, (RP (n + 1)).rowD 4 (dClaims l) (il ((l.length - 1 : Nat) : Int)) K = K [il c.family, il c.heads, il c.from_, il c.to] := fun K => r_rowDn 4 (l.map rClaim) _ K _ (by rw [List.getElem?_map, hcl]; rfl) rfl
  have hRl : (R.map rG).length = cl.length + 1 := by simp [hR.1]
  have hlc : ∀ K, (RP (n + 1)).lenD (dCells cl) K = K (il (cl.length : Int)) := fun K => by rw [dCells, r_lenD, List.length_map]
  have hll : ∀ K, (RP (n + 1)).lenD (dClaims l) K = K (il (l.length : Int)) := fun K => by rw [dClaims, r_lenD, List.length_map]
  have etk : List.take (cl.length + 1) (R.map rG) = R.map rG := List.take_of_length_le (by omega)
  simp only [G102, hlc, r_liti, r_add, w1, hmk, r_litNil, r_lenN, r_gtr, Int.lt_irrefl, decide_false, r_cond, Bool.false_eq_true, if_false, r_loop, r_repl, rep_rG, e0, r_bnd0, r_bnd1, r_ld0, r_lds, r_ln0, r_lns, r_lr0, r_lrs, r_out, hll, r_sub, w3, w4, hrow, r_cell0, r_cells, w2, e4, r_len, hRl, r_eqN, r_rows, r_natN, r_slD, r_seg0, etk, List.length_cons, List.length_nil]
  simp [dTab, dGains]
set_option maxHeartbeats 1000000 in
theorem s102b (n : Nat) (cl : List Cell) (l : List Claim) (c : Claim) (hc : okWorth cl) (hv : ∀ c' ∈ l, vClaim c'.family c'.heads c'.from_ c'.to = true ∧ c'.to < cl.length) (hl : 1 ≤ l.length ∧ l.length ≤ 12) (l' : List Claim) (hv' : ∀ c' ∈ l', vClaim c'.family c'.heads c'.from_ c'.to = true) (N : List (Int × Int)) (T : List (List (Int × Int))) (hT : T.length + 1 < l.length) (hN : RowsOK cl l' N) (hcl : l[l.length - 1 - (T.length + 1)]? = some c) (ch : D) :
    ∃ R, FN (n + 2) 102 [ch, dCells cl, dClaims l, dTab (N :: T)] = some (0, [.d (dTab (R :: N :: T))]) ∧ RowsOK cl (c :: l') R := by
  have hcc := hc.1
  have hvc := hv c (List.mem_of_getElem? hcl)
  have hv1 : ∀ c' ∈ c :: l', vClaim c'.family c'.heads c'.from_ c'.to = true := fun c' h => by
    rcases List.mem_cons.1 h with rfl | h
    · exact hvc.1
    · exact hv' c' h
  obtain ⟨R, e4, hR⟩ := l102_2 n cl c l' N hN hc hv1 hvc.2 (dTab (N :: T)) ch (il c.family)
  refine ⟨R, ?_, hR⟩
  rw [F102]
  have w1 : IntKind.i64.wrap ((cl.length : Int) + 1) = (cl.length : Int) + 1 := wrap_id (by omega) (by omega)
  have w2 : IntKind.i64.wrap ((cl.length : Int) - 1) = (cl.length : Int) - 1 := wrap_id (by omega) (by omega)
  have w3 : IntKind.i64.wrap ((l.length : Int) - 1) = (l.length : Int) - 1 := wrap_id (by omega) (by omega)
  have w4 : IntKind.i64.wrap ((l.length : Int) - 1 - ((T.length + 1 : Nat) : Int)) = ((l.length - 1 - (T.length + 1) : Nat) : Int) := by rw [wrap_id (by omega) (by omega)]; omega
  have hmk : ∀ K, (RP (n + 1)).mkN 16 (il ((cl.length : Int) + 1)) (il ((cl.length : Int) + 1)) K = K (cl.length + 1) := fun K => by
    rw [r_mkN _ _ _ (by omega)]; congr 1
  have hrow : ∀ K, (RP (n + 1)).rowD 4 (dClaims l) (il ((l.length - 1 - (T.length + 1) : Nat) : Int)) K = K [il c.family, il c.heads, il c.from_, il c.to] := fun K => r_rowDn 4 (l.map rClaim) _ K _ (by rw [List.getElem?_map, hcl]; rfl) rfl
  have hRl : (R.map rG).length = cl.length + 1 := by simp [hR.1]
  have hlc : ∀ K, (RP (n + 1)).lenD (dCells cl) K = K (il (cl.length : Int)) := fun K => by rw [dCells, r_lenD, List.length_map]
  have hll : ∀ K, (RP (n + 1)).lenD (dClaims l) K = K (il (l.length : Int)) := fun K => by rw [dClaims, r_lenD, List.length_map]
  have etk : List.take (cl.length + 1) (R.map rG) = R.map rG := List.take_of_length_le (by omega)
  have hlt : ∀ K, (RP (n + 1)).lenD (dTab (N :: T)) K = K (il ((T.length + 1 : Nat) : Int)) := fun K => by rw [dTab, r_lenD, List.length_map, List.length_cons]
  have hpos : (0 : Int) < ((T.length + 1 : Nat) : Int) := by omega
  have hr1 : ∀ K, (RP (n + 1)).rowD 1 (dTab (N :: T)) (il 0) K = K [dGains N] := fun K => r_rowDn 1 _ 0 K _ rfl rfl
  simp only [G102, hlt, hpos, decide_true, if_true, hr1, hlc, r_liti, r_add, w1, hmk, r_litNil, r_lenN, r_gtr, Int.lt_irrefl, decide_false, r_cond, Bool.false_eq_true, if_false, r_loop, r_repl, rep_rG, r_bnd0, r_bnd1, r_ld0, r_lds, r_ln0, r_lns, r_lr0, r_lrs, r_out, hll, r_sub, w3, w4, hrow, r_cell0, r_cells, w2, e4, r_len, hRl, r_eqN, r_rows, r_natN, r_slD, r_seg0, etk, List.length_cons, List.length_nil]
  have f1 : T.length * 24 ≤ 140737488355328 := by omega
  simp [dTab, dGains, show (1 + (T.length + 1)) * 24 ≤ 140737488355328 ∧ 1 + (T.length + 1) ≤ 9223372036854775807 by omega]
  exact ⟨by omega, List.take_of_length_le (by simp; omega)⟩
set_option maxHeartbeats 1000000 in
theorem s87 (n : Nat) (cl : List Cell) (l : List Claim) (hc : okWorth cl) (hv : ∀ c' ∈ l, vClaim c'.family c'.heads c'.from_ c'.to = true ∧ c'.to < cl.length) (hl : 1 ≤ l.length ∧ l.length ≤ 12) (ch : D) :
    ∃ v : Int × Int, FN (n + 3) 87 [ch, dCells cl, dClaims l] = some (0, [.d (il v.1), .d (il v.2)]) ∧ RowOK cl l 0 v := by
  have hll : ∀ K, (RP (n + 2)).lenD (dClaims l) K = K (il (l.length : Int)) := fun K => by rw [dClaims, r_lenD, List.length_map]
  have hvd : ∀ i, ∀ c' ∈ l.drop i, vClaim c'.family c'.heads c'.from_ c'.to = true := fun i c' h => (hv c' (List.mem_of_mem_drop h)).1
  have last : l[l.length - 1]? = some l[l.length - 1] := by simp [show l.length - 1 < l.length by omega]
  obtain ⟨R0, e0, hR0⟩ := s102a n cl l _ hc hv hl last ch
  have d0 : [l[l.length - 1]] = l.drop (l.length - 1) := by
    rw [List.drop_eq_getElem_cons (show l.length - 1 < l.length by omega), List.drop_eq_nil_of_le (by omega)]
  rw [d0] at hR0
  have key : ∃ T : List (List (Int × Int)), ∃ R, loopR [L87_0 (RP (n + 2)), L87_1 (RP (n + 2))] 18446744073709551615 1 [.d (dClaims l), .d (dTab [R0]), .d (il 0), .d (il 0), .d ch, .d (dCells cl)] = some (1, [.d (dTab (R :: T)), .d (il 0), .d (il 0)]) ∧ RowsOK cl l R := by
    refine loop_pr (σ := List (Int × Int) × List (List (Int × Int))) [L87_0 (RP (n + 2)), L87_1 (RP (n + 2))] (fun s => (1, [.d (dClaims l), .d (dTab (s.1 :: s.2)), .d (il 0), .d (il 0), .d ch, .d (dCells cl)]))
      (fun s => 100 - s.2.length) (fun s => s.2.length + 1 ≤ l.length ∧ RowsOK cl (l.drop (l.length - (s.2.length + 1))) s.1)
      (fun o => ∃ T : List (List (Int × Int)), ∃ R, o = some (1, [.d (dTab (R :: T)), .d (il 0), .d (il 0)]) ∧ RowsOK cl l R) ?_ 18446744073709551615 (R0, []) ⟨by simp only [List.length_nil]; omega, by simpa using hR0⟩ (by simp)
    rintro ⟨N, T⟩ K ⟨h1, h2⟩ ih
    refine ⟨_, rfl, ?_⟩
    simp only at h1 h2 ⊢
    have hlt : ∀ K, (RP (n + 2)).lenD (dTab (N :: T)) K = K (il ((T.length + 1 : Nat) : Int)) := fun K => by rw [dTab, r_lenD, List.length_map, List.length_cons]
    by_cases hk : ((T.length + 1 : Nat) : Int) < (l.length : Int)
    · have hi : l.length - 1 - (T.length + 1) < l.length := by omega
      have hci : l[l.length - 1 - (T.length + 1)]? = some l[l.length - 1 - (T.length + 1)] := by simp [hi]
      obtain ⟨R, e, hR⟩ := s102b n cl l _ hc hv hl (l.drop (l.length - (T.length + 1))) (hvd _) N T (by omega) h2 hci ch
      have dd : l[l.length - 1 - (T.length + 1)] :: l.drop (l.length - (T.length + 1)) = l.drop (l.length - (T.length + 1 + 1)) := by
        rw [show l.length - (T.length + 1 + 1) = l.length - 1 - (T.length + 1) by omega, List.drop_eq_getElem_cons hi, show l.length - 1 - (T.length + 1) + 1 = l.length - (T.length + 1) by omega]
      rw [dd] at hR
      have ih' := ih (R, N :: T) ⟨by simp only [List.length_cons]; omega, by simpa using hR⟩ (by simp only [List.length_cons]; omega)
      simp only [L87_1, r_ld0, r_lds, hlt, hll, r_lss, hk, decide_true, r_cond, if_true, r_call, e, r_bnd0]
      exact ih'
    · refine ⟨T, N, ?_, ?_⟩
      · simp only [L87_1, r_ld0, r_lds, hlt, hll, r_lss, hk, decide_false, r_cond, Bool.false_eq_true, if_false, r_out]
      · rw [show l.length - (T.length + 1) = 0 by omega] at h2
        exact h2
  obtain ⟨T, R, e, hR⟩ := key
  obtain ⟨v, hR1⟩ : ∃ v, R[0]? = some v := ⟨_, List.getElem?_eq_getElem (show 0 < R.length by have := hR.1; omega)⟩
  refine ⟨v, ?_, hR.2 0 _ hR1⟩
  have hm := map_rG_at hR1
  have hpos : (0 : Int) < (l.length : Int) := by omega
  have hr1 : ∀ K, (RP (n + 2)).rowD 1 (dTab (R :: T)) (il 0) K = K [dGains R] := fun K => r_rowDn 1 _ 0 K _ rfl rfl
  have hr2 : ∀ K, (RP (n + 2)).rowD 2 (dGains R) (il 0) K = K [il v.1, il v.2] := fun K => r_rowDn 2 (R.map rG) 0 K _ hm rfl
  rw [F87]
  simp only [G87, r_loop, r_liti]
  rw [show M0 = 18446744073709551615 + 1 from rfl, loopR_succ _ _ _ _ _ rfl]
  simp only [L87_0, r_ld0, r_lds, hll, r_lss, hpos, decide_true, r_cond, if_true, r_call, r_litNil, e0, r_bnd0, r_liti]
  rw [e]
  simp only [r_bnd1, r_ld0, hr1, r_cell0, hr2, r_cells, r_out]
end Go.VE
/- Whom it moves. -/
namespace Go.VE
open Go.RowKit Go.Proofs
set_option maxRecDepth 100000

theorem findF_not {f : Int} : ∀ {l : List Claim} {i : Nat}, (findF f l i).isSome = false → ∀ d ∈ l, d.family ≠ f
  | [], _, _, d, hd => by cases hd
  | c :: l, i, h, d, hd => by
    simp only [findF] at h
    split at h
    · cases h
    · rename_i hc
      rcases List.mem_cons.1 hd with rfl | hd
      · exact hc
      · exact findF_not h d hd
theorem okL_nodup (nk : Nat) : ∀ (l pre : List Claim), okClaims nk pre l = true → (pre.map (·.family)).Nodup → ((pre ++ l).map (·.family)).Nodup
  | [], pre, _, hn => by simpa using hn
  | c :: l, pre, h, hn => by
    simp only [okClaims, Bool.and_eq_true, Bool.not_eq_true'] at h
    obtain ⟨⟨⟨_, h1⟩, _⟩, h2⟩ := h
    have := okL_nodup nk l (pre ++ [c]) h2 (by
      rw [List.map_append, List.nodup_append]
      refine ⟨hn, by simp, fun a ha b hb => ?_⟩
      obtain ⟨d, hd, rfl⟩ := List.mem_map.1 ha
      simp at hb; subst hb
      exact findF_not h1 d hd)
    simpa using this
theorem ok_of {cs : List Chain} {cl : List Cell} {l : List Claim} (hg : okGround cs cl = true) (hl : 1 ≤ l.length ∧ l.length ≤ 12) (hv : ∀ c ∈ l, vClaim c.family c.heads c.from_ c.to = true ∧ c.to < cl.length) (hn : (l.map (·.family)).Nodup) : cOK cs cl l = 0 := by
  have e : okClaims cl.length [] l = true := okL_of _ l [] hv (by simpa using hn)
  simp [cOK, hg, e]
  omega
theorem erase_ok {cs : List Chain} {cl : List Cell} {l : List Claim} (h : cOK cs cl l = 0) (hl : 2 ≤ l.length) {i : Nat} (hi : i < l.length) : cOK cs cl (l.eraseIdx i) = 0 := by
  obtain ⟨hgr, hll, hcl⟩ := cOK_in h
  have hv := okClaims_mem hcl
  have hn := okL_nodup _ l [] hcl (by simp)
  refine ok_of hgr (by rw [List.length_eraseIdx_of_lt hi]; omega) (fun x hx => hv x (List.mem_of_mem_eraseIdx hx)) ?_
  exact (by simpa using hn : (l.map (·.family)).Nodup).sublist ((List.eraseIdx_sublist l i).map _)
open Classical in
noncomputable def leastV (cl : List Cell) (l : List Claim) : Int × Int := if h : ∃ v, RowOK cl l 0 v then Classical.choose h else (0, 0)
theorem leastV_eq {cl : List Cell} {l : List Claim} {v : Int × Int} (h : RowOK cl l 0 v) : leastV cl l = v := by
  have he : ∃ v, RowOK cl l 0 v := ⟨v, h⟩
  unfold leastV
  rw [dif_pos he]
  exact Opt_uniq (Classical.choose_spec he) h
theorem s87v (n : Nat) {cs : List Chain} {cl : List Cell} {l : List Claim} (hok : cOK cs cl l = 0) : FN (n + 3) 87 [dChains cs, dCells cl, dClaims l] = some (0, [.d (il (leastV cl l).1), .d (il (leastV cl l).2)]) ∧ RowOK cl l 0 (leastV cl l) := by
  obtain ⟨hgr, hl, hcl⟩ := cOK_in hok
  obtain ⟨v, e, h⟩ := s87 n cl l (okG_worth hgr) (okClaims_mem hcl) hl (dChains cs)
  rw [leastV_eq h]
  exact ⟨e, h⟩
def lErr (v : Int × Int) : Int := if v.2 = 0 then 47 else 0
theorem s27v (n : Nat) {cs : List Chain} {cl : List Cell} {l : List Claim} (hok : cOK cs cl l = 0) : FN (n + 9) 27 [dChains cs, dCells cl, dClaims l] = some (0, [.d (il (leastV cl l).1), .d (il (leastV cl l).2), .d (il (lErr (leastV cl l)))]) := by
  obtain ⟨hgr, hl, hcl⟩ := cOK_in hok
  have hv := okClaims_mem hcl
  obtain ⟨gds, gss, gb, hg⟩ : ∃ x y z, grd anyP cl l 0 [] [] = (x, y, z) := ⟨_, _, _, rfl⟩
  cases gb with
  | true =>
    obtain ⟨best, g, mds, mss, e68, hf⟩ := s68t n cs cl l hok hg
    have hne : l ≠ [] := fun h => by rw [h] at hl; simp at hl
    have ho := fair_opt hf (okG_worth hgr) hv hne
    rw [leastV_eq ho]
    have hg2 : ¬ g.2 = 0 := by
      rcases ho with ⟨_, h⟩ | ⟨h, _⟩
      · exact (h best (by simpa using hf.shr_)).elim
      · have := h.2.2.1; omega
    rw [lErr, if_neg hg2]
    exact s27t (n + 3) cs cl l hok e68
  | false =>
    have ho : RowOK cl l 0 (0, 0) := .inl ⟨rfl, fun e he => by
      have := grd_complete (ds := []) (ss := []) mono_any (okG_worth hgr) (by simpa using he) (show (0 : Int) ≤ -1 + 1 by omega) hv (fun _ _ => rfl)
      rw [hg] at this; cases this⟩
    rw [leastV_eq ho]
    exact s27f (n + 3) cs cl l hok (s68f n cs cl l hok hg)
theorem s47v (n : Nat) {cs : List Chain} {cl : List Cell} {l : List Claim} (hok : cOK cs cl l = 0) : FN (n + 5) 47 [dChains cs, dCells cl, dClaims l] = some (0, [.d (il (leastV cl l).1), .d (il (leastV cl l).2), .d (il (lErr (leastV cl l)))]) := by
  obtain ⟨hgr, hl, hcl⟩ := cOK_in hok
  obtain ⟨e, h⟩ := s87v (n + 1) hok
  rw [F47]
  simp only [G47, r_call, s18 _ _ _ _ (show l.length ≤ 9223372036854775806 by omega), hok, r_bnd0, r_ld0, r_lds, r_liti, r_neq, ne_eq, not_true_eq_false, decide_false, r_cond, Bool.false_eq_true, if_false, e, r_eql, decide_eq_true_eq, r_out, lErr]
  by_cases h0 : (leastV cl l).2 = 0
  · have : leastV cl l = (0, 0) := by
      rcases h with ⟨h, _⟩ | ⟨h, _⟩
      · exact h
      · have := h.2.2.1; omega
    rw [this]; simp
  · simp [h0]
theorem s55v (n : Nat) {cs : List Chain} {cl : List Cell} {l : List Claim} (hok : cOK cs cl l = 0) : FN (n + 6) 55 [dChains cs, dCells cl, dClaims l] = some (0, [.d (il (if (leastV cl l).2 = 0 then 0 else 48))]) := by
  rw [F55]
  simp only [G55, r_call, s47v n hok, r_bnd0, r_ld0, r_lds, r_liti, r_eql, r_cond, r_out, lErr]
  by_cases h0 : (leastV cl l).2 = 0 <;> simp [h0]
theorem s55e (n : Nat) (cs : List Chain) (cl : List Cell) (l : List Claim) (hl : l.length ≤ 9223372036854775806) (h : cOK cs cl l ≠ 0) (h47 : cOK cs cl l ≠ 47) : FN (n + 7) 55 [dChains cs, dCells cl, dClaims l] = some (0, [.d (il (cOK cs cl l))]) := by
  rw [F55]; simp [G55, s47e n cs cl l hl h, h, h47]
theorem s27n (n : Nat) (cs : List Chain) (cl : List Cell) (hg : okGround cs cl = true) : FN (n + 6) 27 [dChains cs, dCells cl, .lit (.slice none 0 0)] = some (0, [.d (il 0), .d (il 0), .d (il 44)]) := by
  have e17 : FN (n + 4) 17 [dChains cs, dCells cl, .lit (.slice none 0 0)] = some (0, [.d (il 44)]) := by
    rw [F17]; simp [G17, s15, hg, s59]
  have e67 : FN (n + 5) 67 [dChains cs, dCells cl, .lit (.slice none 0 0)] = some (0, [.d (.lit (.pointer none)), .d (il 44)]) := by
    rw [F67]; simp [G67, e17]; rfl
  rw [F27]; simp [G27, e67]
end Go.VE
