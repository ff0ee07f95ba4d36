/- The law DriftLeast, whatever the numbers of a ground, of claims and of a wall are: the program is computed by a verified evaluator, its answers compared with plain laws; no condition. -/
import Derived.Test.YtdeodfmhbgejoaaMg0
import Derived.Test.YtdeodfmhbgejoaaMe
import Derived.Test.YtdeodfmhbgejoaaRows
import Derived.Test.YtdeodfmhbgejoaaMt
/- Least, Wall, CheckWall, Gains. -/
namespace Go.VE
open Go.RowKit Go.Proofs
set_option maxRecDepth 100000

theorem s27t (n : Nat) (cs : List Chain) (cl : List Cell) (l : List Claim) (hok : cOK cs cl l = 0) {y x b : D} {g : Int × Int} {r : Rr} (e : FN (n + 5) 68 [dChains cs, dCells cl, dClaims l] = some (0, [.d y, .d (il g.1), .d (il g.2), .d x, .r r, .d b, .d (bl true)])) :
    FN (n + 6) 27 [dChains cs, dCells cl, dClaims l] = some (0, [.d (il g.1), .d (il g.2), .d (il 0)]) := by
  rw [F27]
  simp only [G27, r_call, s67, hok, if_true, r_bnd0, r_ld0, r_lds, r_liti, r_neq, r_cond]
  rw [r_ptrW [dChains cs, dCells cl, dClaims l] 3 _ rfl]
  simp [e]
theorem s27f (n : Nat) (cs : List Chain) (cl : List Cell) (l : List Claim) (hok : cOK cs cl l = 0) {y a c x b : D} {r : Rr} (e : FN (n + 5) 68 [dChains cs, dCells cl, dClaims l] = some (0, [.d y, .d a, .d c, .d x, .r r, .d b, .d (bl false)])) :
    FN (n + 6) 27 [dChains cs, dCells cl, dClaims l] = some (0, [.d (il 0), .d (il 0), .d (il 47)]) := by
  rw [F27]
  simp only [G27, r_call, s67, hok, if_true, r_bnd0, r_ld0, r_lds, r_liti, r_neq, r_cond]
  rw [r_ptrW [dChains cs, dCells cl, dClaims l] 3 _ rfl]
  simp [e]
theorem s43f (n : Nat) (cs : List Chain) (cl : List Cell) (l : List Claim) (hok : cOK cs cl l = 0) {y a c x b : D} {r : Rr} (e : FN (n + 5) 68 [dChains cs, dCells cl, dClaims l] = some (0, [.d y, .d a, .d c, .d x, .r r, .d b, .d (bl false)])) :
    FN (n + 6) 43 [dChains cs, dCells cl, dClaims l] = some (0, [.d (il 0), .d (.lit (.slice none 0 0)), .d (il 47)]) := by
  rw [F43]
  simp only [G43, r_call, s67, hok, if_true, r_bnd0, r_ld0, r_lds, r_liti, r_neq, r_cond]
  rw [r_ptrW [dChains cs, dCells cl, dClaims l] 3 _ rfl]
  simp [e]
theorem s43t (n : Nat) (cs : List Chain) (cl : List Cell) (l : List Claim) (hok : cOK cs cl l = 0) {y a c x b : D} {mss : List Int} (h1 : 1 ≤ mss.length) (h2 : mss.length ≤ l.length) (h3 : ∀ x ∈ mss, 0 ≤ x ∧ x ≤ 24)
    (e : FN (n + 5) 68 [dChains cs, dCells cl, dClaims l] = some (0, [.d y, .d a, .d c, .d x, .r (rI mss), .d b, .d (bl true)])) :
    FN (n + 6) 43 [dChains cs, dCells cl, dClaims l] = some (0, [.d (il 0), .d (dI (wallV l mss)), .d (il 0)]) := by
  obtain ⟨hgr, hl, hcl⟩ := cOK_in hok
  have hv := okClaims_mem hcl
  have hct : ∀ c ∈ l, 0 ≤ c.from_ ∧ c.from_ ≤ c.to ∧ c.to < 24 := fun c h => by
    have := (hv c h).1; simp only [vClaim, decide_eq_true_eq] at this; omega
  obtain ⟨c0, l', hl0⟩ : ∃ c r, l = c :: r := by
    cases l with
    | nil => simp only [List.length_nil] at hl; omega
    | cons c r => exact ⟨c, r, rfl⟩
  have hc0 : l[0]? = some c0 := by rw [hl0]; rfl
  have hb0 := hct c0 (List.mem_of_getElem? hc0)
  have hlast : mss.length - 1 < l.length := by omega
  have hcL : l[mss.length - 1]? = some l[mss.length - 1] := by simp [hlast]
  have hbL := hct _ (List.getElem_mem hlast)
  have hgd : l.getD (mss.length - 1) ⟨0, 0, 0, 0⟩ = l[mss.length - 1] := by simp [List.getD_eq_getElem?_getD, hcL]
  have hL : (mss.set 0 c0.from_)[mss.length - 1]? = some ((mss.set 0 c0.from_).getD (mss.length - 1) 0) := getD_some 0 (by simp; omega)
  have hbs : ∀ x ∈ mss.set 0 c0.from_, 0 ≤ x ∧ x ≤ 24 := fun x hx => by
    rcases List.mem_or_eq_of_mem_set hx with hx | rfl
    · exact h3 x hx
    · omega
  have hxL := hbs _ (List.mem_of_getElem? hL)
  have hm0 : mss[0]? = some mss[0] := by simp [show 0 < mss.length by omega]
  generalize mss[0] = m0 at hm0
  have hw : wallV l mss = mss.set 0 c0.from_ ++ [max (max ((mss.set 0 c0.from_).getD (mss.length - 1) 0) l[mss.length - 1].from_ + 1) (l[mss.length - 1].to + 2)] := by
    unfold wallV
    have hhd : l.headD ⟨0, 0, 0, 0⟩ = c0 := by rw [hl0]; rfl
    simp only [hgd, hhd]
  rw [hw]
  generalize l[mss.length - 1] = cL at hcL hbL
  generalize (mss.set 0 c0.from_).getD (mss.length - 1) 0 = xL at hL hxL
  have hr0 := rI_at hm0
  have hrL := rI_at hL
  rw [rI_set] at hrL
  have w1 : IntKind.i64.wrap ((mss.length : Int) - 1) = (mss.length : Int) - 1 := wrap_id (by omega) (by omega)
  have w2 : IntKind.i64.wrap (max xL cL.from_ + 1) = max xL cL.from_ + 1 := wrap_id (by omega) (by omega)
  have w3 : IntKind.i64.wrap (cL.to + 2) = cL.to + 2 := wrap_id (by omega) (by omega)
  have ht : ((mss.length : Int) - 1).toNat = mss.length - 1 := by omega
  have hi1 : (0 : Int) ≤ (mss.length : Int) - 1 ∧ (mss.length : Int) - 1 < (mss.length : Int) := by omega
  have hi0 : (0 : Int) ≤ 0 ∧ (0 : Int) < (mss.length : Int) := by omega
  have hf : (mss.length + 1) * 8 ≤ 140737488355328 ∧ mss.length + 1 ≤ 9223372036854775807 := by omega
  have hn0 : (0 : Int) ≤ (mss.length : Int) - 1 := by omega
  rw [F43]
  simp only [G43, r_call, s67, hok, if_true, r_bnd0, r_ld0, r_lds, r_liti, r_neq, r_cond]
  rw [r_ptrW [dChains cs, dCells cl, dClaims l] 3 _ rfl]
  simp only [ne_eq, not_true_eq_false, decide_false, Bool.false_eq_true, if_false, r_cell0, r_cells, e, r_bnd0, r_ld0, r_lds, r_lrs, r_lr0, r_not, Bool.not_true, r_cond]
  simp only [dClaims]
  rw [r_rowD 4 _ 0 _ (rClaim c0) (Int.le_refl _) (by simp [hc0]) rfl]
  simp only [r_eqN, if_true, r_len, rI_len, r_inxg, hi0, and_self, r_rowAtg, Int.toNat_zero, hr0, List.length_cons, List.length_nil, r_natD, r_sub, w1, r_setR, List.length_set, hi1, ht, rClaim, r_cell0, r_cells, hrL]
  rw [r_rowD 4 _ _ _ (rClaim cL) hn0 (by rw [ht]; simp [hcL]) rfl]
  simp only [rClaim, r_cell0, r_cells, r_mm, if_true, r_add, w2]
  rw [r_rowD 4 _ _ _ (rClaim cL) hn0 (by rw [ht]; simp [hcL]) rfl]
  simp only [rClaim, r_cell0, r_cells, r_mm, if_true, r_add, w3, r_natN, r_rows, List.length_cons, List.length_nil, r_addN, r_seg0, r_app]
  rw [r_fitsg, if_pos (by simp; omega)]
  simp [dI, rI, List.map_set]
  exact List.take_of_length_le (by simp)

theorem c100 (n : Nat) (z : Int) : FnDof (cf3 tb Try.prog) (FN (n + 2)) (.fn 100 []) [.one] [il z] = some (0, [.d (bl (!inW z))]) := by
  have e : FN (n + 2) 100 [il z] = some (0, [.d (bl (!inW z))]) := by
    rw [F100]; simp only [G100, r_call, s59, r_bnd0, r_ld0, r_liti, r_not, r_out]; rfl
  simp only [FnDof, vdsOf, flatV, cf3, tb, ashT, rskT, isOneD, Option.map_some, List.map_nil, List.append_nil, e]
  simp [D.isLit, bl]
theorem s99 (n : Nat) (ss : List Int) (hl : ss.length ≤ 140737488355328) : FN (n + 4) 99 [dI ss, .fn 100 []] = some (0, [.d (bl (!(ss.all inW)))]) := by
  rw [F99]
  simp only [G99, r_call]
  rw [F109]
  have key := range_loop (β := Unit) ss (by omega) (L109_0 (RP (n + 2))) (fun i _ => [.d (dI ss), .d (.fn 100 []), .d (il ss.length), .d (il (i : Int))]) (fun _ _ => True)
    (fun i r _ => match r.findIdx? (fun n => !inW n) with | some j => some (0, [.d (il ((i + j : Nat) : Int))]) | none => some (1, [])) ?_ ?_ M0 () trivial (M0_big (by omega))
  · simp only [dI, Int.cast_ofNat_Int] at key
    simp only [G109, dI, r_lenD, rI_len, r_loop, r_liti, key]
    cases h2 : List.findIdx? (fun n => !inW n) ss with
    | none =>
      have : (ss.all inW) = true := by
        rw [List.findIdx?_eq_none_iff] at h2
        rw [List.all_eq_true]; intro x hx; simpa using h2 x hx
      rw [this]; simp
    | some j =>
      obtain ⟨hj, hp, _⟩ := List.findIdx?_eq_some_iff_getElem.1 h2
      have : (ss.all inW) = false := by
        rw [List.all_eq_false]; exact ⟨ss[j], List.getElem_mem hj, by simpa using hp⟩
      rw [this]; simp
  · intro _ k _; simp [L109_0]
  · intro i z r _ k hz hd hi hw _ ih
    have ih' := ih () trivial
    have e := c100 n z
    simp only [dI, Int.natCast_add, Int.cast_ofNat_Int] at ih'
    simp only [L109_0, r_ld0, r_lds, r_lss, r_cond, Int.ofNat_lt, hi, decide_true, if_true, dI, r_rowDg, Int.natCast_nonneg, and_self, Int.toNat_natCast, rI_at hz, List.length_cons, List.length_nil, r_cell0, r_callD, e, r_bnd0, r_out, r_add, hw, r_liti, List.findIdx?_cons]
    cases h : (!inW z) with
    | true => simp
    | false =>
      simp
      rw [ih']
      cases h2 : List.findIdx? (fun n => !inW n) r with
      | none => simp
      | some j => simp; omega
theorem lastOK_at : ∀ {l : List Claim} {ss : List Int} (m : Nat), ss.length = m + 2 → m + 1 ≤ l.length → ∀ x c, ss[m + 1]? = some x → l[m]? = some c → lastOK l ss = decide (c.to < x - 1)
  | [], _, m, _, h, _, _, _, _ => by simp at h
  | _ :: _, [], m, h, _, _, _, _, _ => by simp at h
  | _ :: _, [_], m, h, _, _, _, _, _ => by simp at h
  | c :: l, [x, y], m, h, _, z, d, hz, hd => by
    have : m = 0 := by simp at h; omega
    subst this
    simp at hz hd; subst hz hd; rfl
  | c :: l, x :: y :: z :: ss, m, h, hl, u, d, hu, hd => by
    obtain ⟨k, rfl⟩ : ∃ k, m = k + 1 := ⟨m - 1, by simp at h; omega⟩
    have := lastOK_at (l := l) (ss := y :: z :: ss) k (by simp at h ⊢; omega) (by simpa using hl) u d (by simpa using hu) (by simpa using hd)
    simpa [lastOK] using this

set_option maxHeartbeats 1000000 in
theorem s84 (n : Nat) (ch : D) (cl : List Cell) (l : List Claim) (f : Int) (ss : List Int) (g : Int × Int) (hc : okWorth cl) (hv : ∀ c ∈ l, vClaim c.family c.heads c.from_ c.to = true) (hl : 1 ≤ l.length ∧ l.length ≤ 12) (hs : ss.length ≤ 140737488355328) (hg : 0 ≤ g.1 ∧ g.1 ≤ 1000000 ∧ 0 ≤ g.2 ∧ g.2 ≤ 1000000) :
    FN (n + 5) 84 [ch, dCells cl, dClaims l, il f, dI ss, il g.1, il g.2] = some (0, [.d (bl (wallOK cl l f ss g))]) := by
  rw [F84]
  have w1 : IntKind.i64.wrap ((ss.length : Int) - 1) = (ss.length : Int) - 1 := wrap_id (by omega) (by omega)
  have w2 : IntKind.i64.wrap ((l.length : Int) - ((ss.length : Int) - 1)) = (l.length : Int) - ((ss.length : Int) - 1) := wrap_id (by omega) (by omega)
  simp only [G84, dI, r_lenD, rI_len, r_liti, r_litb, r_sub, w1, r_lss, r_cond, decide_eq_true_eq, r_out, dClaims, List.length_map, w2, r_gtr]
  by_cases c1 : (ss.length : Int) - 1 < 1
  · have : wallOK cl l f ss g = false := by
      unfold wallOK
      rw [show decide (1 ≤ (ss.length : Int) - 1 ∧ 0 ≤ f ∧ f ≤ l.length - ((ss.length : Int) - 1)) = false by simp; omega]; simp
    rw [if_pos c1, this]
  rw [if_neg c1]
  by_cases c2 : f < 0
  · have : wallOK cl l f ss g = false := by
      unfold wallOK
      rw [show decide (1 ≤ (ss.length : Int) - 1 ∧ 0 ≤ f ∧ f ≤ l.length - ((ss.length : Int) - 1)) = false by simp; omega]; simp
    rw [if_pos c2, this]
  rw [if_neg c2]
  by_cases c3 : (l.length : Int) - ((ss.length : Int) - 1) < f
  · have : wallOK cl l f ss g = false := by
      unfold wallOK
      rw [show decide (1 ≤ (ss.length : Int) - 1 ∧ 0 ≤ f ∧ f ≤ l.length - ((ss.length : Int) - 1)) = false by simp; omega]; simp
    rw [if_pos c3, this]
  rw [if_neg c3]
  obtain ⟨F, rfl⟩ : ∃ F : Nat, f = F := ⟨f.toNat, by omega⟩
  obtain ⟨m, hm⟩ : ∃ m, ss.length = m + 2 := ⟨ss.length - 2, by omega⟩
  have hFl : F < l.length := by omega
  have hx0 : ss[0]? = some ss[0] := by simp [show 0 < ss.length by omega]
  have hcF : l[F]? = some l[F] := by simp [hFl]
  have hd0 : decide (1 ≤ (ss.length : Int) - 1 ∧ 0 ≤ (F : Int) ∧ (F : Int) ≤ l.length - ((ss.length : Int) - 1)) = true := by simp; omega
  have hh : ss.head? = some ss[0] := by rw [List.head?_eq_getElem?]; exact hx0
  have hwall : wallOK cl l (F : Int) ss g = (decide (ss[0] = l[F].from_) && (ss.all inW) && shw cl g (l.drop F) ss && lastOK (l.drop F) ss) := by
    unfold wallOK
    rw [hd0, Int.toNat_natCast, hcF, hh]
    simp
  rw [hwall]
  generalize ss[0] = x0 at hx0
  generalize l[F] = cF at hcF
  have hr0 := rI_at hx0
  simp only [r_rowDg, Int.le_refl, and_self, if_true, Int.toNat_zero, hr0, List.length_cons, List.length_nil, Int.natCast_nonneg, Int.toNat_natCast, List.getElem?_map, hcF, Option.map_some, rClaim, r_cell0, r_cells, r_neq, r_cond, decide_eq_true_eq, r_out]
  by_cases c4 : x0 = cF.from_
  case neg => simp [c4]
  simp only [c4, ne_eq, not_true_eq_false, if_false, decide_true, Bool.true_and, r_call, r_fnD, r_loop]
  have e99 := s99 n ss hs
  simp only [dI] at e99
  rw [e99]
  simp only [r_bnd0, r_ld0, r_cond]
  cases hall : (ss.all inW) with
  | false => simp
  | true =>
    simp only [Bool.not_true, Bool.false_eq_true, if_false, Bool.true_and]
    have hbd : ∀ x ∈ ss, 0 ≤ x ∧ x ≤ 25 := fun x hx => by simpa [inW] using List.all_eq_true.1 hall x hx
    have key := loop_ms (σ := Nat) [L84_0 (RP (n + 4))] (fun i => (0, [.d ch, .d (dCells cl), .d (dClaims l), .d (il ((ss.length : Int) - 1)), .d (il ((ss.length : Int) - 1)), .d (il (i : Int)), .d (il g.1), .d (il g.2), .d (il (F : Int)), .d (dI ss)])) (fun i => m + 1 - i) (fun i => i ≤ m + 1)
      (fun i => match shw cl g (l.drop (F + i)) (ss.drop i) with | true => some (1, [.d ch, .d (dCells cl), .d (dClaims l), .d (il ((ss.length : Int) - 1)), .d (il (F : Int)), .d (dI ss)]) | false => some (0, [.d (bl false)])) ?_ M0 0 (by omega) (M0_big (by omega))
    · simp only [Int.cast_ofNat_Int, List.drop_zero, Nat.add_zero, dI, dClaims] at key
      rw [key]
      cases hsh : shw cl g (l.drop F) ss with
      | false => simp
      | true =>
        have hxm : ss[m + 1]? = some ss[m + 1] := by simp [show m + 1 < ss.length by omega]
        have hcm : l[F + m]? = some l[F + m] := by simp [show F + m < l.length by omega]
        have hla := lastOK_at (l := l.drop F) (ss := ss) m hm (by simp; omega) _ l[F + m] hxm (by simp [hcm])
        rw [hla]
        have hbx := hbd _ (List.mem_of_getElem? hxm)
        generalize ss[m + 1] = xm at hxm hbx
        generalize l[F + m] = cm at hcm
        have hrm := rI_at hxm
        have t1 : ((ss.length : Int) - 1).toNat = m + 1 := by omega
        have t2 : (0 : Int) ≤ (ss.length : Int) - 1 := by omega
        have w3 : IntKind.i64.wrap (xm - 1) = xm - 1 := wrap_id (by omega) (by omega)
        have w4 : IntKind.i64.wrap ((F : Int) + ((ss.length : Int) - 1)) = (F : Int) + ((ss.length : Int) - 1) := wrap_id (by omega) (by omega)
        have w5 : IntKind.i64.wrap ((F : Int) + ((ss.length : Int) - 1) - 1) = ((F + m : Nat) : Int) := by rw [wrap_id (by omega) (by omega)]; omega
        simp only [r_bnd1, r_ld0, r_lds, r_rowDg, t1, t2, and_self, if_true, hrm, List.length_cons, List.length_nil, r_cell0, r_sub, w3, r_add, w4, w5, Int.natCast_nonneg, Int.toNat_natCast, List.getElem?_map, hcm, Option.map_some, rClaim, r_cells, r_gtr, r_out, r_liti, Bool.true_and]
    · intro i k hi ih
      refine ⟨_, rfl, ?_⟩
      by_cases hlt : i < m + 1
      · have hxi : ss[i]? = some ss[i] := by simp [show i < ss.length by omega]
        have hyi : ss[i + 1]? = some ss[i + 1] := by simp [show i + 1 < ss.length by omega]
        have hci : l[F + i]? = some l[F + i] := by simp [show F + i < l.length by omega]
        have d1 : ss.drop i = ss[i] :: ss.drop (i + 1) := List.drop_eq_getElem_cons (by omega)
        have d2 : ss.drop (i + 1) = ss[i + 1] :: ss.drop (i + 1 + 1) := List.drop_eq_getElem_cons (by omega)
        have d3 : l.drop (F + i) = l[F + i] :: l.drop (F + i + 1) := List.drop_eq_getElem_cons (by omega)
        have hbx := hbd _ (List.mem_of_getElem? hxi)
        have hby := hbd _ (List.mem_of_getElem? hyi)
        have hvc := hv _ (List.mem_of_getElem? hci)
        have ih' := ih (i + 1) (by omega) (by omega)
        simp only at ih'
        rw [d2, show F + (i + 1) = F + i + 1 by omega] at ih'
        simp only
        rw [d1, d2, d3]
        simp only [shw]
        generalize ss[i] = x at hxi hbx
        generalize ss[i + 1] = y at hyi hby ih'
        generalize l[F + i] = c at hci hvc
        have hvc' := hvc
        simp only [vClaim, decide_eq_true_eq] at hvc'
        have hrx := rI_at hxi
        have hry := rI_at hyi
        have hi1 : (i : Int) < (ss.length : Int) - 1 := by omega
        have v1 : IntKind.i64.wrap ((F : Int) + i) = ((F + i : Nat) : Int) := by rw [wrap_id (by omega) (by omega)]; simp
        have v2 : IntKind.i64.wrap ((i : Int) + 1) = ((i + 1 : Nat) : Int) := by rw [wrap_id (by omega) (by omega)]; simp
        have v3 : IntKind.i64.wrap (y - 2) = y - 2 := wrap_id (by omega) (by omega)
        have e81 := s81 (n + 2) cl (max x c.from_) (y - 2) ch hc (by omega) (by omega)
        have hw := seg_worth hc (max x c.from_) (y - 2)
        have ec := c105 n g hg c (worthV cl (max x c.from_) (y - 2)) hvc hw.1 hw.2
        have e92 := s92 (n + 3) g.1 g.2
        simp only [L84_0, r_ld0, r_lds, r_lss, hi1, decide_true, r_cond, if_true, r_add, v1, dClaims, r_rowDg, Int.natCast_nonneg, and_self, Int.toNat_natCast, List.getElem?_map, hci, Option.map_some, rClaim, List.length_cons, List.length_nil, r_liti, v2, dI, hry, hrx, r_cell0, r_cells, r_mm, r_leq, r_call, e92, r_bnd0, r_sub, v3, e81, r_callD, ec, r_out, r_litb, decide_eq_true_eq]
        by_cases g1 : y ≤ max x c.from_
        · have : ¬ max x c.from_ < y := by omega
          simp [g1, this]
        · have g2 : max x c.from_ < y := by omega
          rw [if_neg g1]
          cases hab : aboveP g c (worthV cl (max x c.from_) (y - 2)) with
          | true => simp
          | false =>
            simp only [dClaims, dI] at ih'
            simp only [g2, decide_true, Bool.not_false, Bool.true_and, Bool.false_eq_true, if_false]
            exact ih'
      · have he : i = m + 1 := by omega
        subst he
        have hi1 : ¬ ((m + 1 : Nat) : Int) < (ss.length : Int) - 1 := by omega
        have d1 : ∃ z, ss.drop (m + 1) = [z] := by
          refine ⟨ss[m + 1], ?_⟩
          rw [List.drop_eq_getElem_cons (by omega), List.drop_eq_nil_of_le (by omega)]
        obtain ⟨z, d1⟩ := d1
        have : shw cl g (l.drop (F + (m + 1))) [z] = true := by cases l.drop (F + (m + 1)) <;> rfl
        simp only [d1, this]
        simp only [L84_0, r_ld0, r_lds, r_lss, hi1, decide_false, r_cond, Bool.false_eq_true, if_false, r_out]

def cwErr (cs : List Chain) (cl : List Cell) (l : List Claim) (f : Int) (ss : List Int) (g : Int × Int) : Int := if cOK cs cl l = 0 then (if isG g.1 g.2 then (if wallOK cl l f ss g then 0 else 49) else 1) else cOK cs cl l
theorem s44 (n : Nat) (cs : List Chain) (cl : List Cell) (l : List Claim) (f : Int) (ss : List Int) (g : Int × Int) (hs : ss.length ≤ 140737488355328) :
    FN (n + 6) 44 [dChains cs, dCells cl, dClaims l, il f, dI ss, il g.1, il g.2] = some (0, [.d (il (cwErr cs cl l f ss g))]) := by
  rw [F44]
  simp only [G44, r_call, s67, s69, r_bnd0, r_ld0, r_lds, r_liti, r_neq, r_cond, r_not, r_out, cwErr]
  by_cases h : cOK cs cl l = 0
  · obtain ⟨hgr, hl, hcl⟩ := cOK_in h
    rw [if_neg (by simp [h]), if_pos h]
    by_cases h2 : isG g.1 g.2 = true
    · have h2' := h2
      simp only [isG, decide_eq_true_eq] at h2'
      have e := s84 n (dChains cs) cl l f ss g (okG_worth hgr) (fun c hc => (okClaims_mem hcl c hc).1) hl hs (by omega)
      rw [if_neg (by simp [h2]), if_pos h, if_pos h2, r_ptrW [dChains cs, dCells cl, dClaims l] 3 _ rfl]
      simp only [r_cell0, r_cells, e, r_bnd0, r_ld0, r_not, r_cond, r_out]
      cases wallOK cl l f ss g <;> simp
    · simp [h, h2]
  · simp [h]
theorem s45 (n : Nat) (cs : List Chain) (cl : List Cell) (l : List Claim) (ds : List Drift) (hd : ds.length ≤ 140737488355328) :
    FN (n + 7) 45 [dChains cs, dCells cl, dClaims l, dDrifts ds] = if cOK cs cl l = 0 then (if shr (-1) ds l = true then some (0, [.r ((gainsL cl l ds).map rG), .d (il 0)]) else some (1, [.d (.lit (.slice none 0 0)), .d (il 46)])) else some (1, [.d (.lit (.slice none 0 0)), .d (il (cOK cs cl l))]) := by
  rw [F45]
  simp only [G45, r_call, s36 _ _ _ _ _ hd, r_bnd0, r_ld0, r_liti, r_litNil, r_neq, r_cond, r_out]
  by_cases h : cOK cs cl l = 0
  · obtain ⟨hgr, hl, hcl⟩ := cOK_in h
    have hv := okClaims_mem hcl
    have hct : ∀ c ∈ l, 0 ≤ c.from_ ∧ c.to < 24 := fun c h => by
      have := (hv c h).1; simp only [vClaim, decide_eq_true_eq] at this; omega
    simp only [h, if_true]
    cases hs : shr (-1) ds l with
    | false => simp
    | true =>
      have e := s85 (n + 3) cl l ds (dChains cs) (okG_worth hgr) (fun c hc => (hv c hc).1) hl (shr_len hs) (fun d hd => by have := shr_in hs hct d hd; omega)
      have hlits : (((gainsL cl l ds).map rG).all fun r => r.all D.isLit) = true := by
        simp [rG, isLit_il]
      simp only [if_true, ne_eq, not_true_eq_false, decide_false, Bool.false_eq_true, if_false, e, r_bnd0, r_lr0, r_litsg, List.all_cons, List.all_nil, ynLit, hlits, Bool.and_self, r_eqN, r_leN, r_len, r_seg0, List.take_length, Nat.le_refl, if_true, r_out, r_liti]
  · simp [h]
end Go.VE
/- The plain law of Least: nothing lies above the least gain of the best sharing; a wall shows it. -/
namespace Go.VE
open Go.RowKit Go.Proofs
set_option maxRecDepth 100000

def gLe (a b : Int × Int) : Prop := a.1 * b.2 ≤ b.1 * a.2
theorem gLe_refl (a : Int × Int) : gLe a a := Int.le_refl _
theorem gLe_trans {a b c : Int × Int} (ha : 1 ≤ a.2) (hb : 1 ≤ b.2) (hc : 1 ≤ c.2) (h1 : gLe a b) (h2 : gLe b c) : gLe a c := by
  unfold gLe at *
  have e1 := Int.mul_le_mul_of_nonneg_right h1 (show 0 ≤ c.2 by omega)
  have e2 := Int.mul_le_mul_of_nonneg_right h2 (show 0 ≤ a.2 by omega)
  have : a.1 * c.2 * b.2 ≤ c.1 * a.2 * b.2 := by
    have x1 : a.1 * c.2 * b.2 = a.1 * b.2 * c.2 := by simp [Int.mul_comm, Int.mul_left_comm]
    have x2 : b.1 * a.2 * c.2 = b.1 * c.2 * a.2 := by simp [Int.mul_comm, Int.mul_left_comm]
    have x3 : c.1 * b.2 * a.2 = c.1 * a.2 * b.2 := by simp [Int.mul_comm, Int.mul_left_comm]
    omega
  exact Int.le_of_mul_le_mul_right this (by omega)
theorem gLt_iff {a b : Int × Int} : gLt a b = true ↔ ¬ gLe b a := by
  simp only [gLt, gLe, decide_eq_true_eq]; omega
theorem minFrom_le : ∀ (gs : List (Int × Int)) (m : Int × Int), (∀ p ∈ m :: gs, 1 ≤ p.2) → ∀ x ∈ m :: gs, gLe (minFrom m gs) x
  | [], m, _, x, hx => by
    simp only [List.mem_singleton] at hx; subst hx; exact gLe_refl _
  | y :: r, m, h, x, hx => by
    have hy := h y (by simp)
    have hm := h m (by simp)
    have hr : ∀ p ∈ r, 1 ≤ p.2 := fun p hp => h p (by simp [hp])
    simp only [minFrom]
    split
    · rename_i hlt
      have h' : ∀ p ∈ y :: r, 1 ≤ p.2 := fun p hp => h p (by simp only [List.mem_cons] at hp ⊢; exact .inr hp)
      have ih := minFrom_le r y h'
      have hmin := h' _ (minFrom_ok r y)
      rcases List.mem_cons.1 hx with rfl | hx
      · refine gLe_trans hmin hy hm (ih y (by simp)) ?_
        have := gLt_iff.1 hlt
        unfold gLe at *; omega
      · exact ih x hx
    · rename_i hlt
      have h' : ∀ p ∈ m :: r, 1 ≤ p.2 := fun p hp => by
        rcases List.mem_cons.1 hp with rfl | hp
        · exact hm
        · exact hr p hp
      have ih := minFrom_le r m h'
      have hmin := h' _ (minFrom_ok r m)
      rcases List.mem_cons.1 hx with rfl | hx
      · exact ih x (by simp)
      · rcases List.mem_cons.1 hx with rfl | hx
        · refine gLe_trans hmin hm hy (ih m (by simp)) ?_
          have : ¬ gLt x m = true := hlt
          rw [gLt_iff] at this
          exact Classical.byContradiction this
        · exact ih x (by simp [hx])
theorem minL_le {l : List (Int × Int)} (h : ∀ p ∈ l, 1 ≤ p.2) : ∀ x ∈ l, gLe (minL l) x := by
  cases l with
  | nil => intro x hx; cases hx
  | cons g gs => exact minFrom_le gs g h
theorem all_above {cl : List Cell} {l : List Claim} {e : List Drift} {g : Int × Int} (hc : okWorth cl) (hv : ∀ c ∈ l, vClaim c.family c.heads c.from_ c.to = true) (hg : 1 ≤ g.2) (h : gLt g (minL (gainsL cl l e)) = true) :
    ∀ p ∈ e.zip l, aboveP g p.2 (worthV cl p.1.fr p.1.to_) = true := by
  rintro ⟨d, c⟩ hp
  have hok := gains_ok (ds := e) hc hv
  have hvc := hv c (List.of_mem_zip hp).2
  simp only [vClaim, decide_eq_true_eq] at hvc
  have hq : gainOf cl d c ∈ gainsL cl l e := by
    simp only [gainsL, List.mem_map]; exact ⟨(d, c), hp, rfl⟩
  have hne : gainsL cl l e ≠ [] := fun h0 => by rw [h0] at hq; cases hq
  have hm := (hok _ (minL_mem hne)).2.2
  have hle := minL_le (fun q h => (hok q h).2.2.1) _ hq
  have hqo := hok _ hq
  have hlt : gLt g (gainOf cl d c) = true := by
    rw [gLt_iff]
    intro hle2
    exact gLt_iff.1 h (gLe_trans (by omega) hqo.2.2.1 hg hle hle2)
  obtain ⟨_, _, _, _, k, hk, h1, h2⟩ := lowI_ok (a := worthV cl d.fr d.to_) (b := c.heads) (seg_worth hc _ _).1 (by omega)
  simp only [gainOf] at hlt
  generalize lowI (worthV cl d.fr d.to_) c.heads = q at *
  have hlt' : g.1 * q.2 < q.1 * g.2 := of_decide_eq_true hlt
  have := Int.mul_lt_mul_of_pos_right hlt' hk
  have x1 : g.1 * c.heads = g.1 * q.2 * k := by rw [← h2, Int.mul_assoc]
  have x2 : worthV cl d.fr d.to_ * g.2 = q.1 * g.2 * k := by rw [← h1]; simp [Int.mul_comm, Int.mul_left_comm]
  exact decide_eq_true (by show g.1 * c.heads < worthV cl d.fr d.to_ * g.2; omega)
theorem mono_above {g : Int × Int} (hg : 0 ≤ g.2) : Mono (aboveP g) := by
  intro c w w' h _ hp
  simp only [aboveP, decide_eq_true_eq] at hp ⊢
  have := Int.mul_le_mul_of_nonneg_right h hg
  omega
/-- No sharing has a greater least gain. -/
theorem fair_best {cl : List Cell} {l : List Claim} {best mds : List Drift} {mss : List Int} {g : Int × Int} (hf : Fair cl l best g mds mss) (hc : okWorth cl) (hv : ∀ c ∈ l, vClaim c.family c.heads c.from_ c.to = true ∧ c.to < cl.length) (hg : 1 ≤ g.2) {e : List Drift} (he : shr (-1) e l = true) :
    gLt g (minL (gainsL cl l e)) = false := by
  cases h : gLt g (minL (gainsL cl l e)) with
  | false => rfl
  | true =>
    have := grd_complete (ds := []) (ss := []) (mono_above (g := g) (by omega)) hc he (show (0 : Int) ≤ -1 + 1 by omega) hv (all_above hc (fun c h => (hv c h).1) hg h)
    rw [hf.more] at this; cases this
theorem shr_drop : ∀ (f : Nat) {e : List Drift} {l : List Claim} {last : Int}, shr last e l = true → ∃ last', shr last' (e.drop f) (l.drop f) = true
  | 0, _, _, _, h => ⟨_, h⟩
  | f + 1, [], [], last, _ => ⟨last, rfl⟩
  | f + 1, [], _ :: _, _, h => by cases h
  | f + 1, _ :: _, [], _, h => by cases h
  | f + 1, d :: e, c :: l, last, h => by
    simp only [shr, Bool.and_eq_true] at h
    exact shr_drop f h.2
/-- An accepted wall shows that every sharing's least gain is at most its claim. -/
theorem wall_ge {cl : List Cell} {l : List Claim} {f : Int} {ss : List Int} {x : Int × Int} {e : List Drift} (hc : okWorth cl) (hv : ∀ c ∈ l, vClaim c.family c.heads c.from_ c.to = true) (hx : 1 ≤ x.2) (hw : wallOK cl l f ss x = true) (he : shr (-1) e l = true) :
    gLt x (minL (gainsL cl l e)) = false := by
  cases h : gLt x (minL (gainsL cl l e)) with
  | false => rfl
  | true =>
    have ha := all_above hc hv hx h
    simp only [wallOK, Bool.and_eq_true, decide_eq_true_eq] at hw
    obtain ⟨⟨⟨⟨⟨h1, h2, h3⟩, h4⟩, _⟩, h5⟩, h6⟩ := hw
    obtain ⟨last', hs⟩ := shr_drop f.toNat he
    exact (wall_sound hc (by omega) hs (fun y hy d hd => by
      rw [hy] at h4
      have hfl : f.toNat < l.length := by omega
      have hc1 : l[f.toNat]? = some l[f.toNat] := by simp [hfl]
      rw [hc1] at h4
      simp only [Option.map_some, Option.some.injEq] at h4
      rw [List.head?_drop] at hd
      have := shr_at he f.toNat d _ hd hc1
      omega) h5 h6 (fun p hp => by
        refine ha p ?_
        simp only [List.zip, ← List.drop_zipWith] at hp
        exact List.mem_of_mem_drop hp)).elim
end Go.VE
/- The law DriftLeast. -/
namespace Go.VE
open Go.RowKit Go.Proofs
set_option maxRecDepth 100000

section
variable {Fn : Nat → List D → Out} {FnD : D → List Sh → List D → Out} {m : Nat}
theorem r_selI0 (a b : Out) : (real Fn FnD m).selI 2 (il 0) [a, b] = a := rfl
theorem r_selI1 (a b : Out) : (real Fn FnD m).selI 2 (il 1) [a, b] = b := rfl
end
def atOf (acc : List Drift) : Int := match acc.getLast? with
  | some d => d.to_ + 1
  | none => 0
theorem atOf_snoc (acc : List Drift) (d : Drift) : atOf (acc ++ [d]) = d.to_ + 1 := by simp [atOf]
theorem l9o (n : Nat) (cl l9 cs a3 a4 a5 a6 g1 g2 s : D) (l : List Claim) (hl : 1 ≤ l.length ∧ l.length ≤ 12) (hv : ∀ c ∈ l, vClaim c.family c.heads c.from_ c.to = true) (r : List (Int × Int)) (hr : r.length ≤ 140737488355328)
    {Fn : Nat → List D → Out} {FnD : D → List Sh → List D → Out} {m : Nat} (h26 : ∀ xs, Fn 26 xs = FN (n + 1) 26 xs) :
    ∃ e : List Drift, loopR [L9_0 (real Fn FnD m), L9_1 (real Fn FnD m)] M0 0 [.d (dR2 r), .d (dClaims l), .d s, .d (il 0), .d (il 0), .d g1, .d g2, .d cs, .d cl, .d a3, .d a4, .d a5, .d a6] =
      some (1, [.d (dClaims l), .d s, .n e.length, .n e.length, .r (e.map rDrift), .d g1, .d g2, .d cs, .d cl, .d a3, .d a4, .d a5, .d a6]) ∧ e.length ≤ 12 := by
  refine loop_acc (α := Drift) (L9_0 (real Fn FnD m)) (L9_1 (real Fn FnD m)) [.d (dR2 r), .d (dClaims l), .d s, .d (il 0), .d (il 0), .d g1, .d g2, .d cs, .d cl, .d a3, .d a4, .d a5, .d a6]
    (fun acc => [.d (dR2 r), .d (dClaims l), .d s, .n acc.length, .n acc.length, .d (il (atOf acc)), .d (il acc.length), .r (acc.map rDrift), .d g1, .d g2, .d cs, .d cl, .d a3, .d a4, .d a5, .d a6]) l.length (fun acc => 0 ≤ atOf acc ∧ atOf acc ≤ 24 + 4 * acc.length)
    (fun o => ∃ e : List Drift, o = some (1, [.d (dClaims l), .d s, .n e.length, .n e.length, .r (e.map rDrift), .d g1, .d g2, .d cs, .d cl, .d a3, .d a4, .d a5, .d a6]) ∧ e.length ≤ 12)
    (by simp [atOf]) ?_ ?_ M0 (by have : M0 = 18446744073709551616 := rfl; omega)
  · intro k ih
    have hpos : (0 : Int) < (l.length : Int) := by omega
    have hck : l[0]? = some l[0] := by simp [show 0 < l.length by omega]
    have hvc := hv l[0] (List.getElem_mem (by omega))
    generalize l[0] = c at hck hvc
    simp only [vClaim, decide_eq_true_eq] at hvc
    have fin : ∀ p : Int × Int, IntKind.i64.wrap (max 0 c.from_ + modI p.1 2) = max 0 c.from_ + modI p.1 2 ∧ IntKind.i64.wrap (max 0 c.from_ + modI p.1 2 + modI p.2 3) = max 0 c.from_ + modI p.1 2 + modI p.2 3 ∧ IntKind.i64.wrap (max 0 c.from_ + modI p.1 2 + modI p.2 3 + 1) = max 0 c.from_ + modI p.1 2 + modI p.2 3 + 1 ∧ (0 ≤ max 0 c.from_ + modI p.1 2 + modI p.2 3 + 1 ∧ max 0 c.from_ + modI p.1 2 + modI p.2 3 + 1 ≤ 24 + 4 * ((1 : Nat) : Int)) := fun p => by
      have b1 := modI_bnd p.1 (b := 2) (by omega)
      have b2 := modI_bnd p.2 (b := 3) (by omega)
      exact ⟨wrap_id (by omega) (by omega), wrap_id (by omega) (by omega), wrap_id (by omega) (by omega), by omega, by omega⟩
    have e2 := fun z => s26 n z 2 (by omega) (by omega)
    have e3 := fun z => s26 n z 3 (by omega) (by omega)
    have w1 : IntKind.i64.wrap 1 = 1 := rfl
    cases r with
    | nil =>
      obtain ⟨w2, w3, w4, hb⟩ := fin (0, 0)
      have ih' := ih ⟨max 0 c.from_ + modI 0 2, max 0 c.from_ + modI 0 2 + modI 0 3⟩ (by simpa [atOf] using hb) (by omega)
      simp only [dR2, dClaims, List.map_nil] at ih' ⊢
      simp [L9_0, hpos, show 0 < l.length by omega, hck, rClaim, h26, e2, e3, w2, w3, w4, w1, -getElem?_pos, List.getElem?_cons_zero, List.getElem?_cons_succ]
      simpa [atOf, rDrift] using ih'
    | cons p r =>
      obtain ⟨w2, w3, w4, hb⟩ := fin p
      have ih' := ih ⟨max 0 c.from_ + modI p.1 2, max 0 c.from_ + modI p.1 2 + modI p.2 3⟩ (by simpa [atOf] using hb) (by omega)
      simp only [dR2, dClaims] at ih' ⊢
      simp [L9_0, hpos, show 0 < l.length by omega, hck, rClaim, h26, e2, e3, w2, w3, w4, w1, show (0 : Int) < (r.length : Int) + 1 by omega, -getElem?_pos, List.getElem?_cons_zero, List.getElem?_cons_succ]
      simpa [atOf, rDrift] using ih'
  · intro acc k hI hne hlen ih
    by_cases hi : acc.length < l.length
    · have hpos : (acc.length : Int) < (l.length : Int) := by omega
      have hck : l[acc.length]? = some l[acc.length] := by simp [hi]
      have hvc := hv l[acc.length] (List.getElem_mem (by omega))
      generalize l[acc.length] = c at hck hvc
      simp only [vClaim, decide_eq_true_eq] at hvc
      have fin : ∀ p : Int × Int, IntKind.i64.wrap (max (atOf acc) c.from_ + modI p.1 2) = max (atOf acc) c.from_ + modI p.1 2 ∧ IntKind.i64.wrap (max (atOf acc) c.from_ + modI p.1 2 + modI p.2 3) = max (atOf acc) c.from_ + modI p.1 2 + modI p.2 3 ∧ IntKind.i64.wrap (max (atOf acc) c.from_ + modI p.1 2 + modI p.2 3 + 1) = max (atOf acc) c.from_ + modI p.1 2 + modI p.2 3 + 1 ∧ (0 ≤ max (atOf acc) c.from_ + modI p.1 2 + modI p.2 3 + 1 ∧ max (atOf acc) c.from_ + modI p.1 2 + modI p.2 3 + 1 ≤ 24 + 4 * ((acc.length : Int) + 1)) := fun p => by
        have b1 := modI_bnd p.1 (b := 2) (by omega)
        have b2 := modI_bnd p.2 (b := 3) (by omega)
        exact ⟨wrap_id (by omega) (by omega), wrap_id (by omega) (by omega), wrap_id (by omega) (by omega), by omega, by omega⟩
      have e2 := fun z => s26 n z 2 (by omega) (by omega)
      have e3 := fun z => s26 n z 3 (by omega) (by omega)
      have w1 : IntKind.i64.wrap ((acc.length : Int) + 1) = (acc.length : Int) + 1 := wrap_id (by omega) (by omega)
      have hf : (acc.length + 1) * 16 ≤ 140737488355328 ∧ acc.length ≤ 9223372036854775806 := by omega
      by_cases hr1 : acc.length < r.length
      · have hrk : r[acc.length]? = some r[acc.length] := by simp [hr1]
        generalize r[acc.length] = p at hrk
        obtain ⟨w2, w3, w4, hb⟩ := fin p
        have ih' := ih ⟨max (atOf acc) c.from_ + modI p.1 2, max (atOf acc) c.from_ + modI p.1 2 + modI p.2 3⟩ (by rw [atOf_snoc]; simpa using hb) hi
        rw [atOf_snoc] at ih'
        simp only [dR2, dClaims] at ih' ⊢
        simp [L9_1, hi, hck, hr1, hrk, rClaim, h26, e2, e3, w2, w3, w4, w1, hf, -getElem?_pos, List.getElem?_cons_zero, List.getElem?_cons_succ]
        simpa [rDrift] using ih'
      · obtain ⟨w2, w3, w4, hb⟩ := fin (0, 0)
        have ih' := ih ⟨max (atOf acc) c.from_ + modI 0 2, max (atOf acc) c.from_ + modI 0 2 + modI 0 3⟩ (by rw [atOf_snoc]; simpa using hb) hi
        rw [atOf_snoc] at ih'
        simp only [dR2, dClaims] at ih' ⊢
        simp [L9_1, hi, hck, hr1, rClaim, h26, e2, e3, w2, w3, w4, w1, hf, -getElem?_pos, List.getElem?_cons_zero, List.getElem?_cons_succ]
        simpa [rDrift] using ih'
    · refine ⟨acc, ?_, by omega⟩
      simp [L9_1, dClaims, hi]
end Go.VE
/- The law DriftLeast: the least of the gains, the rounds, the law. -/
namespace Go.VE
open Go.RowKit Go.Proofs
set_option maxRecDepth 100000

theorem l9_97 {Δ N R W M E Ω : Type} (pr : Pr Δ N R W M E Ω) : L9_9 pr = L9_7 pr := rfl
theorem isG_ok {p : Int × Int} (h : okGn p) : isG p.1 p.2 = true := by
  obtain ⟨h1, h2, h3, h4⟩ := h
  simp only [isG, decide_eq_true_eq]; omega
theorem l9m (n : Nat) (a0 a1 a9 a12 a13 a14 a15 a16 a17 a18 a19 : D) (O : Rr) (n10 n11 : Nat) (g : Int × Int) (gs : List (Int × Int)) (hl : gs.length ≤ 100) (hg : ∀ p ∈ g :: gs, okGn p)
    {Fn : Nat → List D → Out} {FnD : D → List Sh → List D → Out} {m : Nat} (h28 : ∀ xs, Fn 28 xs = FN (n + 4) 28 xs) :
    loopR [L9_7 (real Fn FnD m)] M0 0 [.d a0, .d a1, .n (gs.length + 1), .n (gs.length + 1), .d (il 1), .r O, .d (il g.1), .d (il g.2), .r ((g :: gs).map rG), .d a9, .n n10, .n n11, .d a12, .d a13, .d a14, .d a15, .d a16, .d a17, .d a18, .d a19] =
      some (1, [.d a0, .d a1, .r O, .d (il (minL (g :: gs)).1), .d (il (minL (g :: gs)).2), .d a9, .n n10, .n n11, .d a12, .d a13, .d a14, .d a15, .d a16, .d a17, .d a18, .d a19]) := by
  have key := range_from (β := Int × Int) (g :: gs) (by simp; omega) (L9_7 (real Fn FnD m)) (fun i q => [.d a0, .d a1, .n (g :: gs).length, .n (g :: gs).length, .d (il (i : Int)), .r O, .d (il q.1), .d (il q.2), .r ((g :: gs).map rG), .d a9, .n n10, .n n11, .d a12, .d a13, .d a14, .d a15, .d a16, .d a17, .d a18, .d a19]) (fun _ q => okGn q)
    (fun i r q => some (1, [.d a0, .d a1, .r O, .d (il (minFrom q r).1), .d (il (minFrom q r).2), .d a9, .n n10, .n n11, .d a12, .d a13, .d a14, .d a15, .d a16, .d a17, .d a18, .d a19])) ?_ ?_ M0 1 (by simp) g (hg g (by simp)) (M0_big (by simp; omega))
  · simpa [minL] using key
  · intro q k _; simp [L9_7, minFrom]
  · intro i x r q k hx hd hi hw hI ih
    have hgx := hg x (List.mem_of_getElem? hx)
    have e := s28 n x.1 x.2 q.1 q.2
    have ce : cErr x.1 x.2 q.1 q.2 = 0 := by simp [cErr, isG_ok hgx, isG_ok hI]
    rw [cRes, if_pos ce, ce] at e
    generalize g :: gs = G at *
    simp only [minFrom]
    cases hlt : gLt x q with
    | true =>
      have ih' := ih x hgx
      have : cmpI (x.1 * q.2) (q.1 * x.2) < 0 := (cmp_lt _ _).2 (by simpa [gLt] using hlt)
      simp only [Int.natCast_add, Int.cast_ofNat_Int] at ih'
      simp [L9_7, hi, hx, rG, h28, e, this, hw, -getElem?_pos, List.getElem?_cons_zero, List.getElem?_cons_succ]
      simpa [rG] using ih'
    | false =>
      have ih' := ih q hI
      have : ¬ cmpI (x.1 * q.2) (q.1 * x.2) < 0 := fun h => by
        have := (cmp_lt _ _).1 h
        simp [gLt] at hlt; omega
      simp only [Int.natCast_add, Int.cast_ofNat_Int] at ih'
      simp [L9_7, hi, hx, rG, h28, e, this, hw, -getElem?_pos, List.getElem?_cons_zero, List.getElem?_cons_succ]
      simpa [rG] using ih'
/-- What the gains of a sharing are to the best and to a wall. -/
theorem post9 {cs : List Chain} {cl : List Cell} {l : List Claim} (hok : cOK cs cl l = 0) {best mds : List Drift} {mss : List Int} {g : Int × Int} (hf : Fair cl l best g mds mss) (e : List Drift) (he : shr (-1) e l = true) (f : Int) (ss : List Int) (x : Int × Int) :
    ∃ g0 gs, gainsL cl l e = g0 :: gs ∧ gs.length ≤ 11 ∧ (∀ p ∈ g0 :: gs, okGn p) ∧ cErr (minL (g0 :: gs)).1 (minL (g0 :: gs)).2 g.1 g.2 = 0 ∧ ¬ 0 < cRes (minL (g0 :: gs)).1 (minL (g0 :: gs)).2 g.1 g.2 ∧ (e = best → cRes (minL (g0 :: gs)).1 (minL (g0 :: gs)).2 g.1 g.2 = 0) ∧
      (cErr x.1 x.2 (minL (g0 :: gs)).1 (minL (g0 :: gs)).2 = 0 → cRes x.1 x.2 (minL (g0 :: gs)).1 (minL (g0 :: gs)).2 < 0 → cwErr cs cl l f ss x ≠ 0) := by
  obtain ⟨hgr, hl, hcl⟩ := cOK_in hok
  have hv := okClaims_mem hcl
  have hc := okG_worth hgr
  have hvv : ∀ c ∈ l, vClaim c.family c.heads c.from_ c.to = true := fun c h => (hv c h).1
  have hlen : (gainsL cl l e).length = l.length := by simp [gainsL, shr_len he]
  have hlenb : (gainsL cl l best).length = l.length := by simp [gainsL, shr_len hf.shr_]
  have hgo := gains_ok (ds := e) hc hvv
  have hgb := gains_ok (ds := best) hc hvv
  have hne : gainsL cl l e ≠ [] := fun h => by rw [h] at hlen; simp at hlen; omega
  have hneb : gainsL cl l best ≠ [] := fun h => by rw [h] at hlenb; simp at hlenb; omega
  have hm := hgo _ (minL_mem hne)
  have hg := hgb _ (minL_mem hneb)
  rw [← hf.low] at hg
  have hbest := fair_best hf hc hv hg.2.2.1 he
  have hwall := fun (hx : 1 ≤ x.2) (hw : wallOK cl l f ss x = true) => wall_ge hc hvv hx hw he
  have heq : e = best → minL (gainsL cl l e) = g := fun h => by rw [h, hf.low]
  generalize gainsL cl l e = G at *
  cases G with
  | nil => exact absurd rfl hne
  | cons g0 gs =>
    have i1 := isG_ok (p := minL (g0 :: gs)) (by unfold okGn; omega)
    have i2 := isG_ok (p := g) (by unfold okGn; omega)
    have c0 : cErr (minL (g0 :: gs)).1 (minL (g0 :: gs)).2 g.1 g.2 = 0 := by simp [cErr, i1, i2]
    refine ⟨g0, gs, rfl, by simp at hlen; omega, fun p hp => by have := hgo p hp; unfold okGn; omega, c0, ?_, ?_, ?_⟩
    · rw [cRes, if_pos c0]
      have : ¬ g.1 * (minL (g0 :: gs)).2 < (minL (g0 :: gs)).1 * g.2 := by simpa [gLt] using hbest
      unfold cmpI; split <;> omega
    · intro h
      rw [cRes, if_pos c0, heq h]
      simp [cmpI]
    · intro ce cr hcw
      rw [cRes, if_pos ce] at cr
      have cr' := (cmp_lt _ _).1 cr
      have hx : isG x.1 x.2 = true := by
        unfold cErr at ce
        cases h : isG x.1 x.2 with
        | true => rfl
        | false => rw [h] at ce; simp at ce
      have hx' := hx
      simp only [isG, decide_eq_true_eq] at hx'
      rw [cwErr, if_pos hok, if_pos hx] at hcw
      cases hwo : wallOK cl l f ss x with
      | false => rw [hwo] at hcw; simp at hcw
      | true =>
        have := hwall (by omega) hwo
        simp only [gLt, decide_eq_false_iff_not] at this
        omega
theorem r9 (n : Nat) {Fn : Nat → List D → Out} {FnD : D → List Sh → List D → Out} (hF : ∀ f xs, f ≠ 11 → Fn f xs = FN (n + 9) f xs) {cs : List Chain} {cl : List Cell} {l : List Claim} (hok : cOK cs cl l = 0) {best mds : List Drift} {mss : List Int} {g : Int × Int} (hf : Fair cl l best g mds mss)
    (O : List Drift) (hO : O.length ≤ 12) (f : Int) (ss : List Int) (hss : ss.length ≤ 140737488355328) (x : Int × Int) (i : Nat) (hi : i = 0 ∨ i = 1) (K : Nat → List Yr → Out)
    (hK : K 0 [.d (dClaims l), .d (il ((i + 1 : Nat) : Int)), .r (O.map rDrift), .d (dDrifts best), .n O.length, .n O.length, .d (il g.1), .d (il g.2), .d (dChains cs), .d (dCells cl), .d (il f), .d (dI ss), .d (il x.1), .d (il x.2)] = some (1, [])) :
    L9_11 (real Fn FnD M0) K [.d (dClaims l), .d (il (i : Int)), .r (O.map rDrift), .d (dDrifts best), .n O.length, .n O.length, .d (il g.1), .d (il g.2), .d (dChains cs), .d (dCells cl), .d (il f), .d (dI ss), .d (il x.1), .d (il x.2)] = some (1, []) := by
  obtain ⟨hgr, hl, hcl⟩ := cOK_in hok
  have w : IntKind.i64.wrap ((i : Int) + 1) = ((i + 1 : Nat) : Int) := by rcases hi with rfl | rfl <;> rfl
  have e28 := fun a b c d => s28 (n + 5) a b c d
  have e44 := s44 (n + 3) cs cl l f ss x hss
  have h28 : ∀ xs, Fn 28 xs = FN (n + 5 + 4) 28 xs := fun xs => hF 28 xs (by decide)
  have go : ∀ e, shr (-1) e l = true → (i = 0 → e = best) → _ := fun e he (_ : i = 0 → e = best) => post9 hok hf e he f ss x
  rcases hi with rfl | rfl
  · obtain ⟨g0, gs, e1, e2, e3, e4, e5, e6, e7⟩ := go best hf.shr_ (fun _ => rfl)
    have e45 := s45 (n + 2) cs cl l best (by have := shr_len hf.shr_; omega)
    rw [if_pos hok, if_pos hf.shr_, e1] at e45
    have em := fun a0 a1 a9 a12 a13 a14 a15 a16 a17 a18 a19 O n10 n11 => l9m (n + 5) a0 a1 a9 a12 a13 a14 a15 a16 a17 a18 a19 O n10 n11 g0 gs (by omega) e3 (Fn := Fn) (FnD := FnD) (m := M0) h28
    simp only [List.map_cons, rG] at em e45
    simp only [Nat.zero_add, Int.cast_ofNat_Int] at hK w ⊢
    have e6' := e6 rfl
    simp [L9_11, r_selI0, hF 45 _ (by decide), e45, em, hF 28 _ (by decide), e28, e4, e6', w]
    by_cases a1 : cErr x.1 x.2 (minL (g0 :: gs)).1 (minL (g0 :: gs)).2 = 0
    · by_cases a2 : cRes x.1 x.2 (minL (g0 :: gs)).1 (minL (g0 :: gs)).2 < 0
      · simp [a1, a2, hF 44 _ (by decide), e44, e7 a1 a2]
        exact hK
      · simp [a1, a2]
        exact hK
    · simp [a1]
      exact hK
  · have e45 := s45 (n + 2) cs cl l O (by omega)
    rw [if_pos hok] at e45
    simp only [dDrifts] at e45
    simp only [Int.cast_ofNat_Int] at hK w ⊢
    cases hs : shr (-1) O l with
    | false =>
      rw [hs] at e45
      simp only [Bool.false_eq_true, if_false] at e45
      simp [L9_11, r_selI1, hF 45 _ (by decide), take_map_len, e45, w]
      exact ⟨rfl, hK⟩
    | true =>
      obtain ⟨g0, gs, e1, e2, e3, e4, e5, _, e7⟩ := go O hs (fun h => by omega)
      rw [hs, e1] at e45
      simp only [if_true] at e45
      have em := fun a0 a1 a9 a12 a13 a14 a15 a16 a17 a18 a19 O n10 n11 => l9m (n + 5) a0 a1 a9 a12 a13 a14 a15 a16 a17 a18 a19 O n10 n11 g0 gs (by omega) e3 (Fn := Fn) (FnD := FnD) (m := M0) h28
      simp only [List.map_cons, rG] at em e45
      have hlits : (∀ (y : List D), y ∈ [il g0.fst, il g0.snd] :: List.map rG gs → ∀ (z : D), z ∈ y → z.isLit = true) = True := eq_true fun y hy z hz => by
        rcases List.mem_cons.1 hy with rfl | hy
        · simp at hz; rcases hz with rfl | rfl <;> rfl
        · obtain ⟨q, _, rfl⟩ := List.mem_map.1 hy
          simp [rG] at hz; rcases hz with rfl | rfl <;> rfl
      have hl0 : ((real Fn FnD M0).ld [.r ([il g0.fst, il g0.snd] :: List.map rG gs), .d (il 0)] 1).isLit = true := rfl
      simp [L9_11, r_selI1, hF 45 _ (by decide), take_map_len, e45, l9_97, em, hF 28 _ (by decide), e28, e4, e5, w, ynLit, isLit_il]
      simp only [hlits, hl0, and_self, if_true]
      by_cases a1 : cErr x.1 x.2 (minL (g0 :: gs)).1 (minL (g0 :: gs)).2 = 0
      · by_cases a2 : cRes x.1 x.2 (minL (g0 :: gs)).1 (minL (g0 :: gs)).2 < 0
        · simp [a1, a2, hF 44 _ (by decide), e44, e7 a1 a2]
          exact hK
        · simp [a1, a2]
          exact hK
      · simp [a1]
        exact hK
theorem s9 (n : Nat) {Fn : Nat → List D → Out} {FnD : D → List Sh → List D → Out} (h11 : Fn 11 [] = some (0, [.d (bl true)])) (hF : ∀ f xs, f ≠ 11 → Fn f xs = FN (n + 9) f xs)
    (r1 : List (Int × Int)) (r2 r3 : List (Int × Int × Int)) (h1 : r1.length ≤ 140737488355328) (h2 : r2.length ≤ 140737488355328) (h3 : r3.length ≤ 140737488355328) (f : Int) (ss : List Int) (hss : ss.length ≤ 140737488355328) (x0 x1 : Int) (r : List (Int × Int)) (hr : r.length ≤ 140737488355328) :
    G9 (real Fn FnD M0) (dR2 r1) (dR3 r2) (dR3 r3) (il f) (dI ss) (il x0) (il x1) (dR2 r) = some (0, [.d (bl true)]) := by
  obtain ⟨cs, cl, l, e25, hm⟩ := s25 (n + 7) r1 r2 r3 h1 h2 h3
  have hok := made_ok hm
  obtain ⟨hgr, hl, hcl⟩ := cOK_in hok
  have hv := okClaims_mem hcl
  have hvv : ∀ c ∈ l, vClaim c.family c.heads c.from_ c.to = true := fun c h => (hv c h).1
  have hc := okG_worth hgr
  obtain ⟨gds, gss, gb, hg⟩ : ∃ x y z, grd anyP cl l 0 [] [] = (x, y, z) := ⟨_, _, _, rfl⟩
  cases gb with
  | true =>
    obtain ⟨best, g, mds, mss, e68, hf⟩ := s68t n cs cl l hok hg
    have hlenb : (gainsL cl l best).length = l.length := by simp [gainsL, shr_len hf.shr_]
    have hneb : gainsL cl l best ≠ [] := fun h => by rw [h] at hlenb; simp at hlenb; omega
    have hgg := gains_ok (ds := best) hc hvv _ (minL_mem hneb)
    rw [← hf.low] at hgg
    obtain ⟨wo, w1, w2, w3⟩ := wallV_ok hc ⟨hgg.1, by omega⟩ hv hf.more
    have e27 := s27t (n + 3) cs cl l hok e68
    have e33 := s33t (n + 3) cs cl l hok e68
    have e43 := s43t (n + 3) cs cl l hok w1 w2 w3 e68
    have hwl : (wallV l mss).length ≤ 140737488355328 := by
      have : (wallV l mss).length ≤ mss.length + 1 := by
        unfold wallV; first | (simp; done) | (split <;> simp) | simp
      omega
    have e44 := s44 (n + 3) cs cl l 0 (wallV l mss) g hwl
    rw [cwErr, if_pos hok, if_pos (isG_ok (p := g) (by unfold okGn; omega)), if_pos wo] at e44
    obtain ⟨O, eo, hO⟩ := l9o (n + 8) (dCells cl) (il 0) (dChains cs) (il f) (dI ss) (il x0) (il x1) (il g.1) (il g.2) (dDrifts best) l hl hvv r hr (Fn := Fn) (FnD := FnD) (m := M0) (fun xs => hF 26 xs (by decide))
    have hK1 := r9 n (FnD := FnD) hF hok hf O hO f ss hss (x0, x1) 1 (.inr rfl)
    have hK0 := r9 n (FnD := FnD) hF hok hf O hO f ss hss (x0, x1) 0 (.inl rfl)
    have em : loopR [L9_11 (real Fn FnD M0)] M0 0 [.d (dClaims l), .d (il 0), .r (O.map rDrift), .d (dDrifts best), .n O.length, .n O.length, .d (il g.1), .d (il g.2), .d (dChains cs), .d (dCells cl), .d (il f), .d (dI ss), .d (il x0), .d (il x1)] = some (1, []) := by
      rw [show M0 = 18446744073709551613 + 1 + 1 + 1 from rfl, loopR_succ _ _ _ _ _ rfl]
      refine hK0 _ ?_
      rw [loopR_succ _ _ _ _ _ rfl]
      refine hK1 _ ?_
      rw [loopR_succ _ _ _ _ _ rfl]
      simp [L9_11]
    simp [G9, h11, hF 25 _ (by decide), hF 27 _ (by decide), hF 33 _ (by decide), hF 43 _ (by decide), hF 44 _ (by decide), e25, e27, e33, e43, e44, eo, em]
  | false =>
    have e68 := s68f n cs cl l hok hg
    have e27 := s27f (n + 3) cs cl l hok e68
    have e33 := s33f (n + 3) cs cl l hok e68
    have e43 := s43f (n + 3) cs cl l hok e68
    simp [G9, h11, hF 25 _ (by decide), hF 27 _ (by decide), hF 33 _ (by decide), hF 43 _ (by decide), e25, e27, e33, e43]
end Go.VE
/- The types of the arguments: what data of them are. -/
namespace Go.VE
open Go.RowKit Go.Proofs Go.Proofs.Ytdeodfmhbgejoaa
set_option maxRecDepth 100000

theorem o3 {n : Nat} {ds : List D} (h : HasT Try.prog (n + 1) 3 ds) : ∃ z, ds = [il z] ∧ -9223372036854775808 ≤ z ∧ z ≤ 9223372036854775807 := h.int Try.underlying3
/-- All contracts, the examples' by its own. -/
noncomputable def FnS (n : Nat) (f : Nat) (xs : List D) : Out := if f = 11 ∧ xs = [] then some (0, [.d (bl true)]) else FN n f xs
theorem FnS_ok (n : Nat) : FnOK Try.prog (cf3 tb Try.prog) (FnS n) := by
  intro f sh xs vs j ys rs h1 h2 h3 h4
  unfold FnS at h3
  split at h3
  · rename_i hc
    obtain ⟨rfl, rfl⟩ := hc
    simp only [Option.some.injEq, Prod.mk.injEq] at h3
    obtain ⟨rfl, rfl⟩ := h3
    have e1 : (cf3 tb Try.prog).ash 11 = some [] := rfl
    rw [e1] at h1
    cases h1
    cases h2
    have e2 : ((cf3 tb Try.prog).rsk 11)[0]? = some [(false, [.d])] := rfl
    rw [e2] at h4
    cases h4
    exact sane_sc
  · exact FnT_ok mixP n f sh xs vs j ys rs h1 h2 h3 h4
theorem FnS_11 (n : Nat) : FnS n 11 [] = some (0, [.d (bl true)]) := by simp [FnS]
theorem FnS_ne (n : Nat) (f : Nat) (xs : List D) (h : f ≠ 11) : FnS n f xs = FN n f xs := by simp [FnS, h]
theorem own : ownKnob Try.prog.godebug = none := by kernel_rfl
theorem laidOut : laidOutB Try.prog = true := by kernel_rfl
end Go.VE
/- The numbers of a ground and claims, as data. -/
namespace Go.VE
open Go.RowKit Go.Proofs Go.Proofs.Ytdeodfmhbgejoaa
set_option maxRecDepth 100000

theorem o56 {n : Nat} {ds : List D} (h : HasT Try.prog (n + 2) 56 ds) : ∃ p : Int × Int, ds = [il p.1, il p.2] := by
  obtain ⟨a, b, rfl, h1, c, d, rfl, h2, rfl⟩ := h.arr Try.underlying56
  obtain ⟨x, rfl, _⟩ := o3 h1
  obtain ⟨y, rfl, _⟩ := o3 h2
  exact ⟨(x, y), rfl⟩
theorem o120 {n : Nat} {ds : List D} (h : HasT Try.prog (n + 2) 120 ds) : ∃ p : Int × Int × Int, ds = [il p.1, il p.2.1, il p.2.2] := by
  obtain ⟨a, b, rfl, h1, c, d, rfl, h2, e, f, rfl, h3, rfl⟩ := h.arr Try.underlying120
  obtain ⟨x, rfl, _⟩ := o3 h1
  obtain ⟨y, rfl, _⟩ := o3 h2
  obtain ⟨z, rfl, _⟩ := o3 h3
  exact ⟨(x, y, z), rfl⟩
theorem o48 {n : Nat} {ds : List D} (h : HasT Try.prog (n + 3) 48 ds) : ∃ l, ds = [dR2 l] ∧ l.length ≤ 140737488355328 := by
  obtain ⟨rows, rfl, h1, h2⟩ := h.sl (c := 2) (b := 16) Try.underlying48 (by kernel_rfl) (by kernel_rfl)
  obtain ⟨l, rfl⟩ := rows_map (f := fun p : Int × Int => [il p.1, il p.2]) fun r hr => o56 (h2 r hr)
  simp only [List.length_map] at h1
  exact ⟨l, rfl, by omega⟩
theorem o49 {n : Nat} {ds : List D} (h : HasT Try.prog (n + 3) 49 ds) : ∃ l, ds = [dR3 l] ∧ l.length ≤ 140737488355328 := by
  obtain ⟨rows, rfl, h1, h2⟩ := h.sl (c := 3) (b := 24) Try.underlying49 (by kernel_rfl) (by kernel_rfl)
  obtain ⟨l, rfl⟩ := rows_map (f := fun p : Int × Int × Int => [il p.1, il p.2.1, il p.2.2]) fun r hr => o120 (h2 r hr)
  simp only [List.length_map] at h1
  exact ⟨l, rfl, by omega⟩
theorem o51 {n : Nat} {ds : List D} (h : HasT Try.prog (n + 4) 51 ds) : ∃ r1 r2 r3, ds = [dR2 r1, dR3 r2, dR3 r3] ∧ r1.length ≤ 140737488355328 ∧ r2.length ≤ 140737488355328 ∧ r3.length ≤ 140737488355328 := by
  obtain ⟨a, b, rfl, h1, c, d, rfl, h2, e, f, rfl, h3, rfl⟩ := h.struct Try.underlying51 rfl
  obtain ⟨x, rfl, hx⟩ := o48 h1
  obtain ⟨y, rfl, hy⟩ := o49 h2
  obtain ⟨z, rfl, hz⟩ := o49 h3
  exact ⟨x, y, z, rfl, hx, hy, hz⟩
end Go.VE
/- The statement DriftLeast: the least gain of the best sharing, its wall, and what other sharings and walls come to. -/
namespace Go.VE
open Go.RowKit Go.Proofs Go.Proofs.Ytdeodfmhbgejoaa
set_option maxRecDepth 100000
theorem o58' {n : Nat} {ds : List D} (h : HasT Try.prog (n + 2) 58 ds) : ∃ a b, ds = [il a, il b] := by
  obtain ⟨a, b, rfl, h1, c, d, rfl, h2, rfl⟩ := h.struct Try.underlying58 rfl
  obtain ⟨x, rfl, _⟩ := o3 h1
  obtain ⟨y, rfl, _⟩ := o3 h2
  exact ⟨x, y, rfl⟩
theorem o65' {n : Nat} {ds : List D} (h : HasT Try.prog (n + 2) 65 ds) : ∃ v, ds = [dI v] ∧ v.length ≤ 140737488355328 := by
  obtain ⟨rows, rfl, h1, h2⟩ := h.sl (c := 1) (b := 8) Try.underlying65 (by kernel_rfl) (by kernel_rfl)
  obtain ⟨l, rfl⟩ := rows_map (f := fun z => [il z]) fun r hr => by
    obtain ⟨z, h, _⟩ := o3 (h2 r hr)
    exact ⟨z, h⟩
  simp only [List.length_map] at h1
  exact ⟨l, rfl, by omega⟩
theorem o89 {n : Nat} {ds : List D} (h : HasT Try.prog (n + 3) 89 ds) : ∃ f v, ds = [il f, dI v] ∧ v.length ≤ 140737488355328 := by
  obtain ⟨a, b, rfl, h1, c, d, rfl, h2, rfl⟩ := h.struct Try.underlying89 rfl
  obtain ⟨x, rfl, _⟩ := o3 h1
  obtain ⟨v, rfl, hv⟩ := o65' h2
  exact ⟨x, v, rfl, hv⟩
theorem o91 {n : Nat} {ds : List D} (h : HasT Try.prog (n + 4) 91 ds) : ∃ f v x y, ds = [il f, dI v, il x, il y] ∧ v.length ≤ 140737488355328 := by
  obtain ⟨a, b, rfl, h1, c, d, rfl, h2, rfl⟩ := h.struct Try.underlying91 rfl
  obtain ⟨f, v, rfl, hv⟩ := o89 h1
  obtain ⟨x, y, rfl⟩ := o58' h2
  exact ⟨f, v, x, y, rfl, hv⟩
theorem driftLeast_sc (vds : List VD) (h : VTs Try.prog 8 [51, 91, 48] vds) : SC Try.prog 9 vds (.one (.d (bl true))) := by
  obtain ⟨_, _, rfl, h1, h⟩ := VTs_cons h
  obtain ⟨_, _, rfl, h2, h⟩ := VTs_cons h
  obtain ⟨_, _, rfl, h3, h⟩ := VTs_cons h
  cases VTs_nil h
  obtain ⟨_, rfl, k1⟩ := h1.agg_ Try.underlying51
  obtain ⟨_, rfl, k2⟩ := h2.agg_ Try.underlying91
  obtain ⟨_, rfl, k3⟩ := h3.sl_ Try.underlying48
  obtain ⟨r1, r2, r3, rfl, b1, b2, b3⟩ := o51 k1
  obtain ⟨f, v, x, y, rfl, bv⟩ := o91 k2
  obtain ⟨r, hl, br⟩ := o48 k3
  cases hl
  refine lawSC (T := tb) (fuel := 400) (m0 := M0) (xs := [dR2 r1, dR3 r2, dR3 r3, il f, dI v, il x, il y, dR2 r]) mixP (FnS_ok 14) (sh := [.agg 3, .agg 4, .one]) rfl rfl rfl ?_
  rw [G9_eq]
  exact s9 5 (FnS_11 14) (FnS_ne 14) r1 r2 r3 b1 b2 b3 f v bv x y r br

end Go.VE
namespace Go.Proofs.Ytdeodfmhbgejoaa
open Go.VE Go.RowKit
set_option maxRecDepth 100000

theorem driftLeast_lifted (os : Os) (started : os.Started) (H : Type) (enc : TypeId × Value → H) :
    ReturnsInHanded {} Try.checked os 9 .any (Rows.driftLeastSpec.pre6 enc Try.prog Try.f9 Rows.driftLeastRow.domain false) (Rows.driftLeastSpec.post enc Try.prog Try.f9 false true false false) :=
  lawIn (C := Try.checked) (n := 8) (tb := 4) own started (by kernel_rfl) Try.func9
    (ChangeSpec.witness6 (enc := enc) (C := Try.checked) false ⟨#[], #[.agg #[.slice none 0 0, .slice none 0 0, .slice none 0 0], .agg #[.int .i64 0, .slice none 0 0, .int .i64 0, .int .i64 0], .slice none 0 0], []⟩ 8 (by kernel_rfl) (by kernel_rfl) (by kernel_rfl) (by kernel_rfl))
    laidOut (by kernel_rfl) (by kernel_rfl) Try.underlying4 rfl
    (fun ds hd => by
      rw [show Try.f9.params.toList = [51, 91, 48] by kernel_rfl] at hd
      match ds, hd with
      | [a, b, c], _ => rfl)
    (fun vds h => driftLeast_sc vds h)

theorem driftLeast_over : Rows.driftLeastRow.holds Try.pinned (OpenSpec.ofChange Rows.driftLeastSpec) :=
  OpenClaim.holds_of_wide 9 Try.f9 rfl rfl rfl rfl rfl rfl rfl ⟨rfl, rfl, rfl, rfl, rfl⟩ rfl rfl rfl rfl rfl (by kernel_rfl) Try.func9 (by kernel_rfl)
    (of_decide_eq_true (by kernel_rfl)) (by unfold Func.isWrapper; first | (rw [if_pos (by decide +kernel)]; kernel_rfl) | (rw [if_neg (by decide +kernel)]; exact ⟨rfl, rfl⟩))
    (fun os started H enc _ => driftLeast_lifted os started H enc)

theorem driftLeast_holds : Rows.DriftLeastSaid := driftLeast_over
#print axioms driftLeast_holds
end Go.Proofs.Ytdeodfmhbgejoaa
