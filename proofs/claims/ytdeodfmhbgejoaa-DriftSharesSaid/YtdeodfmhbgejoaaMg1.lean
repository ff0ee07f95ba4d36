/- The drifts that end as early as they can. -/
import Derived.Test.YtdeodfmhbgejoaaMg0
namespace Go.VE
open Go.RowKit Go.Proofs
set_option maxRecDepth 100000

theorem seg_worth {cl : List Cell} (h : okWorth cl) (a b : Int) : 0 ≤ worthV cl a b ∧ worthV cl a b ≤ 240000 := by
  have key : ∀ (l : List Cell), (∀ c ∈ l, 0 ≤ c.worth ∧ c.worth ≤ 10000) → 0 ≤ (l.map Cell.worth).sum ∧ (l.map Cell.worth).sum ≤ 10000 * l.length := by
    intro l
    induction l with
    | nil => intro _; simp
    | cons c l ih =>
      intro hc
      have h1 := hc c (by simp)
      have h2 := ih fun c h => hc c (by simp [h])
      simp only [List.map_cons, List.sum_cons, List.length_cons]
      omega
  have h1 := key (seg cl a b) fun c hc => h.2 c (seg_mem hc)
  have h2 := seg_len cl a b
  have h3 := h.1
  unfold worthV
  omega

/-- The first end of a drift with which a claim is content. -/
def ltry (P : Claim → Int → Bool) (cl : List Cell) (c : Claim) (fr : Int) : Nat → Int → Option Int
  | 0, _ => none
  | n + 1, to => if to ≤ c.to ∧ to < cl.length then (if P c (worthV cl fr to) then some to else ltry P cl c fr n (to + 1)) else none
def ltr (P : Claim → Int → Bool) (cl : List Cell) (c : Claim) (fr to : Int) : Option Int := ltry P cl c fr ((cl.length : Int) - to).toNat to
theorem ltr_in {P : Claim → Int → Bool} {cl : List Cell} {c : Claim} {fr to : Int} (h : to ≤ c.to ∧ to < cl.length) : ltr P cl c fr to = if P c (worthV cl fr to) then some to else ltr P cl c fr (to + 1) := by
  unfold ltr
  rw [show ((cl.length : Int) - to).toNat = ((cl.length : Int) - (to + 1)).toNat + 1 by omega, ltry, if_pos h]
theorem ltr_out {P : Claim → Int → Bool} {cl : List Cell} {c : Claim} {fr to : Int} (h : ¬ (to ≤ c.to ∧ to < cl.length)) : ltr P cl c fr to = none := by
  unfold ltr
  cases ((cl.length : Int) - to).toNat with
  | zero => rfl
  | succ n => rw [ltry, if_neg h]
/-- The drifts of the first claims, where each may begin, and whether all have one. -/
def grd (P : Claim → Int → Bool) (cl : List Cell) : List Claim → Int → List Drift → List Int → List Drift × List Int × Bool
  | [], _, ds, ss => (ds, ss, true)
  | c :: r, a, ds, ss => match ltr P cl c (max a c.from_) (max a c.from_) with
    | some t => grd P cl r (t + 1) (ds ++ [⟨max a c.from_, t⟩]) (ss ++ [a])
    | none => (ds, ss ++ [a], false)

/-- What a function value answers of a claim and a worth. -/
def ContOK (FnD : D → List Sh → List D → Out) (cont : D) (P : Claim → Int → Bool) : Prop :=
  ∀ (c : Claim) (w : Int), vClaim c.family c.heads c.from_ c.to = true → 0 ≤ w → w ≤ 240000 → FnD cont [.agg 4, .one] [il c.family, il c.heads, il c.from_, il c.to, il w] = some (0, [.d (bl (P c w))])

theorem l74_1 (n : Nat) (P : Claim → Int → Bool) (cont : D) (cl : List Cell) (c : Claim) (fr : Int) (a b : Nat) (u8 u19 u20 ch cls : D) (R9 R10 : Rr) (hc : okWorth cl) (hfr : 0 ≤ fr ∧ fr ≤ 100) (hv : vClaim c.family c.heads c.from_ c.to = true)
    (hco : ContOK (FnDof (cf3 tb Try.prog) (FN (n + 2))) cont P) (to : Int) (hto : 0 ≤ to ∧ to ≤ 100) :
    loopR [L74_1 (RP (n + 2))] M0 0 [.d (il to), .d (bl false), .d (il c.family), .d (il c.heads), .d (il c.from_), .d (il c.to), .n a, .n b, .d u8, .r R9, .r R10, .d (il c.family), .d (il c.heads), .d (il c.from_), .d (il c.to), .d cont, .d ch, .d (dCells cl), .d cls, .d u19, .d u20, .d (il fr), .d (il c.family), .d (il c.heads), .d (il c.from_), .d (il c.to), .d ch, .d (dCells cl), .d cls] =
    match ltr P cl c fr to with
    | some t => some (1, [.r [[il fr, il t]], .d (bl true), .d (il c.family), .d (il c.heads), .d (il c.from_), .d (il c.to), .n 1, .n 1, .n a, .n b, .d u8, .r R9, .r R10, .d (il c.family), .d (il c.heads), .d (il c.from_), .d (il c.to), .d cont, .d ch, .d (dCells cl), .d cls, .d (il (t + 1)), .d u20, .d (il fr), .d (il c.family), .d (il c.heads), .d (il c.from_), .d (il c.to), .d ch, .d (dCells cl), .d cls])
    | none => some (2, [.d (bl false), .d (il c.family), .d (il c.heads), .d (il c.from_), .d (il c.to), .n a, .n b, .d u8, .r R9, .r R10, .d (il c.family), .d (il c.heads), .d (il c.from_), .d (il c.to), .d cont, .d ch, .d (dCells cl), .d cls, .d u19, .d u20, .d (il fr), .d (il c.family), .d (il c.heads), .d (il c.from_), .d (il c.to), .d ch, .d (dCells cl), .d cls]) := by
  refine loop_ms (σ := Int) [L74_1 (RP (n + 2))]
    (fun to => (0, [.d (il to), .d (bl false), .d (il c.family), .d (il c.heads), .d (il c.from_), .d (il c.to), .n a, .n b, .d u8, .r R9, .r R10, .d (il c.family), .d (il c.heads), .d (il c.from_), .d (il c.to), .d cont, .d ch, .d (dCells cl), .d cls, .d u19, .d u20, .d (il fr), .d (il c.family), .d (il c.heads), .d (il c.from_), .d (il c.to), .d ch, .d (dCells cl), .d cls]))
    (fun to => ((cl.length : Int) - to).toNat) (fun to => 0 ≤ to ∧ to ≤ 100)
    (fun to => match ltr P cl c fr to with
    | some t => some (1, [.r [[il fr, il t]], .d (bl true), .d (il c.family), .d (il c.heads), .d (il c.from_), .d (il c.to), .n 1, .n 1, .n a, .n b, .d u8, .r R9, .r R10, .d (il c.family), .d (il c.heads), .d (il c.from_), .d (il c.to), .d cont, .d ch, .d (dCells cl), .d cls, .d (il (t + 1)), .d u20, .d (il fr), .d (il c.family), .d (il c.heads), .d (il c.from_), .d (il c.to), .d ch, .d (dCells cl), .d cls])
    | none => some (2, [.d (bl false), .d (il c.family), .d (il c.heads), .d (il c.from_), .d (il c.to), .n a, .n b, .d u8, .r R9, .r R10, .d (il c.family), .d (il c.heads), .d (il c.from_), .d (il c.to), .d cont, .d ch, .d (dCells cl), .d cls, .d u19, .d u20, .d (il fr), .d (il c.family), .d (il c.heads), .d (il c.from_), .d (il c.to), .d ch, .d (dCells cl), .d cls])) ?_ M0 to hto (M0_big (by have := hc.1; omega))
  intro to k hI ih
  refine ⟨_, rfl, ?_⟩
  have hcl := hc.1
  by_cases h : to ≤ c.to ∧ to < cl.length
  · have hw := wrap_id (x := to + 1) (by omega) (by omega)
    have e81 := s81 n cl fr to ch hc (by omega) (by omega)
    have hb := seg_worth hc fr to
    have e := hco c (worthV cl fr to) hv hb.1 hb.2
    have ih' := ih (to + 1) (by omega) (by omega)
    rw [ltr_in h]
    simp only [dCells] at e81 ih' ⊢
    simp [L74_1, h.1, h.2, e81, e, hw]
    cases hP : P c (worthV cl fr to) with
    | true => simp [hw]
    | false => simp; exact ih'
  · rw [ltr_out h]
    by_cases h1 : to ≤ c.to
    · have h2 : ¬ to < cl.length := fun h2 => h ⟨h1, h2⟩
      simp [L74_1, dCells, h1, h2]
    · simp [L74_1, h1]

theorem l74_8 (n : Nat) (P : Claim → Int → Bool) (cont : D) (cl : List Cell) (c : Claim) (fr : Int) (a b : Nat) (u10 u22 u23 ch cls : D) (R11 R12 : Rr) (ds : List Drift) (hds : ds.length ≤ 100) (hc : okWorth cl) (hfr : 0 ≤ fr ∧ fr ≤ 100) (hv : vClaim c.family c.heads c.from_ c.to = true)
    (hco : ContOK (FnDof (cf3 tb Try.prog) (FN (n + 2))) cont P) (to : Int) (hto : 0 ≤ to ∧ to ≤ 100) :
    loopR [L74_8 (RP (n + 2))] M0 0 [.d (il to), .d (bl false), .d (il c.family), .d (il c.heads), .d (il c.from_), .d (il c.to), .n ds.length, .n ds.length, .n a, .n b, .d u10, .r R11, .r R12, .d (il c.family), .d (il c.heads), .d (il c.from_), .d (il c.to), .r (ds.map rDrift), .d cont, .d ch, .d (dCells cl), .d cls, .d u22, .d u23, .d (il fr), .d (il c.family), .d (il c.heads), .d (il c.from_), .d (il c.to), .d ch, .d (dCells cl), .d cls] =
    match ltr P cl c fr to with
    | some t => some (0, [.d (bl true), .d (il c.family), .d (il c.heads), .d (il c.from_), .d (il c.to), .n (ds.length + 1), .n (ds.length + 1), .n a, .n b, .d u10, .r R11, .r R12, .d (il c.family), .d (il c.heads), .d (il c.from_), .d (il c.to), .r ((ds ++ [(⟨fr, t⟩ : Drift)]).map rDrift), .d cont, .d ch, .d (dCells cl), .d cls, .d (il (t + 1)), .d u23, .d (il fr), .d (il c.family), .d (il c.heads), .d (il c.from_), .d (il c.to), .d ch, .d (dCells cl), .d cls])
    | none => some (1, [.d (bl false), .d (il c.family), .d (il c.heads), .d (il c.from_), .d (il c.to), .n ds.length, .n ds.length, .n a, .n b, .d u10, .r R11, .r R12, .d (il c.family), .d (il c.heads), .d (il c.from_), .d (il c.to), .r (ds.map rDrift), .d cont, .d ch, .d (dCells cl), .d cls, .d u22, .d u23, .d (il fr), .d (il c.family), .d (il c.heads), .d (il c.from_), .d (il c.to), .d ch, .d (dCells cl), .d cls]) := by
  refine loop_ms (σ := Int) [L74_8 (RP (n + 2))]
    (fun to => (0, [.d (il to), .d (bl false), .d (il c.family), .d (il c.heads), .d (il c.from_), .d (il c.to), .n ds.length, .n ds.length, .n a, .n b, .d u10, .r R11, .r R12, .d (il c.family), .d (il c.heads), .d (il c.from_), .d (il c.to), .r (ds.map rDrift), .d cont, .d ch, .d (dCells cl), .d cls, .d u22, .d u23, .d (il fr), .d (il c.family), .d (il c.heads), .d (il c.from_), .d (il c.to), .d ch, .d (dCells cl), .d cls]))
    (fun to => ((cl.length : Int) - to).toNat) (fun to => 0 ≤ to ∧ to ≤ 100)
    (fun to => match ltr P cl c fr to with
    | some t => some (0, [.d (bl true), .d (il c.family), .d (il c.heads), .d (il c.from_), .d (il c.to), .n (ds.length + 1), .n (ds.length + 1), .n a, .n b, .d u10, .r R11, .r R12, .d (il c.family), .d (il c.heads), .d (il c.from_), .d (il c.to), .r ((ds ++ [(⟨fr, t⟩ : Drift)]).map rDrift), .d cont, .d ch, .d (dCells cl), .d cls, .d (il (t + 1)), .d u23, .d (il fr), .d (il c.family), .d (il c.heads), .d (il c.from_), .d (il c.to), .d ch, .d (dCells cl), .d cls])
    | none => some (1, [.d (bl false), .d (il c.family), .d (il c.heads), .d (il c.from_), .d (il c.to), .n ds.length, .n ds.length, .n a, .n b, .d u10, .r R11, .r R12, .d (il c.family), .d (il c.heads), .d (il c.from_), .d (il c.to), .r (ds.map rDrift), .d cont, .d ch, .d (dCells cl), .d cls, .d u22, .d u23, .d (il fr), .d (il c.family), .d (il c.heads), .d (il c.from_), .d (il c.to), .d ch, .d (dCells cl), .d cls])) ?_ M0 to hto (M0_big (by have := hc.1; omega))
  intro to k hI ih
  refine ⟨_, rfl, ?_⟩
  have hcl := hc.1
  by_cases h : to ≤ c.to ∧ to < cl.length
  · have hw := wrap_id (x := to + 1) (by omega) (by omega)
    have e81 := s81 n cl fr to ch hc (by omega) (by omega)
    have hb := seg_worth hc fr to
    have e := hco c (worthV cl fr to) hv hb.1 hb.2
    have ih' := ih (to + 1) (by omega) (by omega)
    have hf : (ds.length + 1) * 16 ≤ 140737488355328 ∧ ds.length ≤ 9223372036854775806 := by omega
    rw [ltr_in h]
    simp only [dCells] at e81 ih' ⊢
    simp [L74_8, h.1, h.2, e81, e, hw, hf]
    cases hP : P c (worthV cl fr to) with
    | true => simp [hw, rDrift]
    | false => simp; simpa using ih'
  · rw [ltr_out h]
    by_cases h1 : to ≤ c.to
    · have h2 : ¬ to < cl.length := fun h2 => h ⟨h1, h2⟩
      simp [L74_8, dCells, h1, h2]
    · simp [L74_8, h1]

def resG (p : List Drift × List Int × Bool) : Out := match p.2.2, p.1 with
  | false, [] => some (3, [.r (rI p.2.1), .n p.2.1.length, .n p.2.1.length, .d (bl false)])
  | false, d :: r => some (4, [.r (rI p.2.1), .r ((d :: r).map rDrift), .n (d :: r).length, .n (d :: r).length, .n p.2.1.length, .n p.2.1.length, .d (bl false)])
  | true, ds => some (7, [.r (rI p.2.1), .r (ds.map rDrift), .n ds.length, .n ds.length, .n p.2.1.length, .n p.2.1.length, .d (bl false), .d (bl false)])
theorem ltr_bnd {P : Claim → Int → Bool} {cl : List Cell} {c : Claim} {fr : Int} : ∀ (n : Nat) {to t : Int}, ltry P cl c fr n to = some t → to ≤ t ∧ t ≤ c.to ∧ t < cl.length ∧ P c (worthV cl fr t) = true
  | 0, _, _, h => by cases h
  | n + 1, to, t, h => by
    simp only [ltry] at h
    split at h
    · rename_i hb
      split at h
      · rename_i hp; cases h; exact ⟨by omega, hb.1, hb.2, hp⟩
      · have := ltr_bnd n h; exact ⟨by omega, this.2⟩
    · cases h

theorem l74 (n : Nat) (P : Claim → Int → Bool) (cont : D) (cs : D) (cl : List Cell) (l : List Claim) (hc : okWorth cl) (hv : ∀ c ∈ l, vClaim c.family c.heads c.from_ c.to = true) (hl : 1 ≤ l.length ∧ l.length ≤ 12)
    (hco : ContOK (FnDof (cf3 tb Try.prog) (FN (n + 2))) cont P) :
    loopR [L74_2 (RP (n + 2)), L74_5 (RP (n + 2)), L74_7 (RP (n + 2)), L74_9 (RP (n + 2))] M0 0 [.d (dClaims l), .d (il l.length), .d (il 0), .d cont, .d cs, .d (dCells cl), .d (dClaims l), .d (il 0), .d (bl false), .d (bl false)] = resG (grd P cl l 0 [] []) := by
  have := loop_ms (σ := Nat × List Drift × List Int × Int) [L74_2 (RP (n + 2)), L74_5 (RP (n + 2)), L74_7 (RP (n + 2)), L74_9 (RP (n + 2))]
    (fun s => match s.1 with
      | 0 => (0, [.d (dClaims l), .d (il l.length), .d (il 0), .d cont, .d cs, .d (dCells cl), .d (dClaims l), .d (il 0), .d (bl false), .d (bl false)])
      | i + 1 => (3, [.d (dClaims l), .d (il l.length), .d (il ((i : Int) + 1)), .r (rI s.2.2.1), .r (s.2.1.map rDrift), .d cont, .d cs, .d (dCells cl), .d (dClaims l), .d (il s.2.2.2), .n s.2.1.length, .n s.2.1.length, .n s.2.2.1.length, .n s.2.2.1.length, .d (bl false), .d (bl false)]))
    (fun s => l.length - s.1) (fun s => s.1 ≤ l.length ∧ s.2.1.length = s.1 ∧ s.2.2.1.length = s.1 ∧ 0 ≤ s.2.2.2 ∧ s.2.2.2 ≤ 50 ∧ (s.1 = 0 → s.2.2.2 = 0))
    (fun s => resG (grd P cl (l.drop s.1) s.2.2.2 s.2.1 s.2.2.1)) ?_ M0 (0, [], [], 0) (by simp) (M0_big (by simp only; omega))
  · simpa using this
  · rintro ⟨i, ds, ss, a⟩ k ⟨hi, h1, h2, h3, h4, h5⟩ ih
    simp only at hi h1 h2 h3 h4 h5
    have hcl := hc.1
    cases i with
    | zero =>
      have ha := h5 rfl
      subst ha
      have hds : ds = [] := List.length_eq_zero_iff.1 h1
      have hss : ss = [] := List.length_eq_zero_iff.1 h2
      subst hds hss
      refine ⟨_, rfl, ?_⟩
      obtain ⟨c, r, rfl⟩ : ∃ c r, l = c :: r := by
        cases l with
        | nil => simp at hl
        | cons c r => exact ⟨c, r, rfl⟩
      have hvc := hv c (by simp)
      have hvc' := hvc
      simp only [vClaim, decide_eq_true_eq] at hvc'
      have e := l74_1 n P cont cl c (max 0 c.from_) 1 1 (bl false) (il 0) (bl false) cs (dClaims (c :: r)) (rI [0]) (rI [0]) hc (by omega) hvc hco (max 0 c.from_) (by omega)
      have hlen : (0 : Int) < (r.length : Int) + 1 := by omega
      simp only [dClaims, List.map_cons, rClaim, rI, List.map_nil, dCells] at e
      simp only [List.drop_zero, grd]
      simp [L74_2, dClaims, hlen, rClaim, dCells]
      rw [e]
      cases hlt : ltr P cl c (max 0 c.from_) (max 0 c.from_) with
      | none => simp [resG, rI]
      | some t =>
        have hb := ltr_bnd _ hlt
        have ih' := ih (1, [⟨max 0 c.from_, t⟩], [0], t + 1) ⟨by simp, rfl, rfl, by simp only; omega, by simp only; omega, fun h => by cases h⟩ (by simp)
        simp only [dClaims, List.map_cons, rClaim, rI, List.map_nil, dCells, List.drop_succ_cons, List.drop_zero, rDrift, List.length_cons, List.length_nil] at ih'
        have w1 : IntKind.i64.wrap 1 = 1 := rfl
        simp [w1]
        simpa using ih'
    | succ i =>
      refine ⟨L74_9 (RP (n + 2)), rfl, ?_⟩
      by_cases hlt : i + 1 < l.length
      · have hd := List.drop_eq_getElem_cons hlt
        have hcc : l[i + 1]? = some l[i + 1] := by simp [hlt]
        generalize l[i + 1] = c at hd hcc
        have hvc := hv c (List.mem_of_getElem? hcc)
        have hvc' := hvc
        simp only [vClaim, decide_eq_true_eq] at hvc'
        have hw := wrap_id (x := (i : Int) + 1 + 1) (by omega) (by omega)
        have e := l74_8 n P cont cl c (max a c.from_) (ss.length + 1) (ss.length + 1) (bl false) (il a) (bl false) cs (dClaims l) (rI (ss ++ [a])) (rI [a]) ds (by omega) hc (by omega) hvc hco (max a c.from_) (by omega)
        have hi2 : (i : Int) + 1 < (l.length : Int) := by omega
        have hf : (ss.length + 1) * 8 ≤ 140737488355328 ∧ ss.length ≤ 9223372036854775806 := by omega
        simp only [dClaims, rI, List.map_append, List.map_cons, List.map_nil, dCells] at e
        rw [hd]
        simp only [grd]
        have ht : ((i : Int) + 1).toNat = i + 1 := by omega
        have hi0 : (0 : Int) ≤ (i : Int) + 1 := by omega
        simp [L74_9, dClaims, dCells, hi2, ht, hi0, hcc, rClaim, rI, hf, List.getElem?_cons_zero, List.getElem?_cons_succ, -getElem?_pos]
        rw [e]
        cases hltr : ltr P cl c (max a c.from_) (max a c.from_) with
        | none =>
          cases ds with
          | nil => simp at h1
          | cons d r => simp [resG, rI]
        | some t =>
          have hb := ltr_bnd _ hltr
          have ih' := ih (i + 1 + 1, ds ++ [⟨max a c.from_, t⟩], ss ++ [a], t + 1) (by simp only [List.length_append, List.length_singleton]; omega) (by simp only; omega)
          simp only [dClaims, List.map_append, List.map_cons, rClaim, rI, List.map_nil, dCells, rDrift, List.length_append, List.length_cons, List.length_nil] at ih'
          simp [hw, rDrift]
          simpa using ih'
      · have hd : l.drop (i + 1) = [] := by simp; omega
        have hi2 : ¬ (i : Int) + 1 < (l.length : Int) := by omega
        rw [hd]
        simp [L74_9, grd, resG, hi2]
end Go.VE
/- Gains, the poorest one, contents. -/
namespace Go.VE
open Go.RowKit Go.Proofs
set_option maxRecDepth 100000

theorem s67 (n : Nat) (cs : List Chain) (cl : List Cell) (l : List Claim) : FN (n + 5) 67 [dChains cs, dCells cl, dClaims l] = some (0, [.d (if cOK cs cl l = 0 then .dp [dChains cs, dCells cl, dClaims l] 0 else .lit (.pointer none)), .d (il (cOK cs cl l))]) := by
  rw [F67]
  simp only [G67, r_call, s17, r_bnd0, r_ld0, r_liti, r_neq, r_cond, r_out, r_dpD]
  by_cases h : cOK cs cl l = 0
  · simp [h]
  · simp [h]; rfl

def anyP : Claim → Int → Bool := fun _ _ => true
def aboveP (g : Int × Int) : Claim → Int → Bool := fun c w => decide (g.1 * c.heads < w * g.2)
theorem c75 (n : Nat) : ContOK (FnDof (cf3 tb Try.prog) (FN (n + 1))) (.fn 75 []) anyP := by
  intro c w _ _ _
  have e : FN (n + 1) 75 [il c.family, il c.heads, il c.from_, il c.to, il w] = some (0, [.d (bl true)]) := by
    rw [F75]; simp [G75]
  simp [FnDof, vdsOf, flatV, cf3, tb, ashT, rskT, isOneD, e, D.isLit, bl, anyP]
theorem c105 (n : Nat) (g : Int × Int) (hg : 0 ≤ g.1 ∧ g.1 ≤ 1000000 ∧ 0 ≤ g.2 ∧ g.2 ≤ 1000000) : ContOK (FnDof (cf3 tb Try.prog) (FN (n + 4))) (.fn 105 [.dp [il g.1, il g.2] 0]) (aboveP g) := by
  intro c w hv hw0 hw
  simp only [vClaim, decide_eq_true_eq] at hv
  have e : FN (n + 4) 105 [il c.family, il c.heads, il c.from_, il c.to, il w, il g.1, il g.2] = some (0, [.d (bl (aboveP g c w))]) := by
    rw [F105]
    have e70 := s70 n w c.heads g.1 g.2 (by omega) (by omega) (by omega) (by omega)
    simp only [G105, r_call, e70, r_bnd0, r_ld0, r_liti, r_gtr, r_out, aboveP]
    congr 5
    unfold cmpI
    by_cases h1 : w * g.2 < g.1 * c.heads
    · have : ¬ g.1 * c.heads < w * g.2 := by omega
      simp [h1, this]
    · by_cases h2 : g.1 * c.heads < w * g.2
      · simp [h1, h2]
      · simp [h1, h2]
  simp [FnDof, vdsOf, flatV, cf3, tb, ashT, rskT, isOneD, e, D.isLit, bl]
theorem s92 (n : Nat) (a b : Int) : FN (n + 1) 92 [il a, il b] = some (0, [.d (.fn 105 [.dp [il a, il b] 0])]) := by
  rw [F92]; simp [G92]

/-! ### lowest terms -/
def lowI (a b : Int) : Int × Int := (a / (Int.gcd a b : Int), b / (Int.gcd a b : Int))
theorem l101 (n : Nat) (x y u v : D) : ∀ (a b : Nat), a ≤ 1000000000 → b ≤ 1000000000 →
    loopR [L101_0 (RP n)] M0 0 [.d x, .d y, .d (il a), .d (il b), .d u, .d v] = some (0, [.d x, .d y, .d (il (Nat.gcd a b)), .d u, .d v]) := by
  intro a b ha hb
  refine loop_ms (σ := Nat × Nat) [L101_0 (RP n)] (fun s => (0, [.d x, .d y, .d (il s.1), .d (il s.2), .d u, .d v])) (fun s => s.2) (fun s => s.1 ≤ 1000000000 ∧ s.2 ≤ 1000000000) (fun s => some (0, [.d x, .d y, .d (il (Nat.gcd s.1 s.2)), .d u, .d v])) ?_ M0 (a, b) ⟨ha, hb⟩ (M0_big (by simp only; omega))
  rintro ⟨a, b⟩ k ⟨ha, hb⟩ ih
  refine ⟨_, rfl, ?_⟩
  simp only at ha hb
  by_cases h : b = 0
  · subst h; simp [L101_0]
  · have hbi : ¬ (b : Int) = 0 := by omega
    have hm : (a : Int).tmod (b : Int) = ((a % b : Nat) : Int) := by rw [Int.tmod_eq_emod_of_nonneg (by omega)]; simp
    have hlt := Nat.mod_lt a (show b > 0 by omega)
    have ih' := ih (b, a % b) ⟨hb, by simp only; omega⟩ hlt
    simp only [L101_0, r_ld0, r_lds, r_liti, r_neq, r_cond, ne_eq, hbi, not_false_eq_true, decide_true, if_true]
    rw [r_rem _ _ _ _ hbi, hm]
    simp only at ih'
    rw [ih', Nat.gcd_comm b, ← Nat.gcd_rec, Nat.gcd_comm]
theorem s101 (n : Nat) (a b : Int) (ha : 0 ≤ a ∧ a ≤ 1000000000) (hb : 1 ≤ b ∧ b ≤ 1000000000) : FN (n + 1) 101 [il a, il b] = some (0, [.d (il (lowI a b).1), .d (il (lowI a b).2)]) := by
  rw [F101]
  have e := l101 n (il a) (il b) (il 0) (il 0) a.toNat b.toNat (by omega) (by omega)
  rw [show ((a.toNat : Nat) : Int) = a by omega, show ((b.toNat : Nat) : Int) = b by omega] at e
  have hg : Nat.gcd a.toNat b.toNat = Int.gcd a b := by
    unfold Int.gcd
    rw [show a.natAbs = a.toNat by omega, show b.natAbs = b.toNat by omega]
  rw [hg] at e
  have hg0 : 0 < Int.gcd a b := Int.gcd_pos_of_ne_zero_right _ (by omega)
  have hgi : ¬ ((Int.gcd a b : Nat) : Int) = 0 := by omega
  have q1 : a.tdiv (Int.gcd a b) = a / (Int.gcd a b : Int) := Int.tdiv_eq_ediv_of_nonneg ha.1
  have q2 : b.tdiv (Int.gcd a b) = b / (Int.gcd a b : Int) := Int.tdiv_eq_ediv_of_nonneg (by omega)
  have b1 : a / (Int.gcd a b : Int) ≤ a := Int.ediv_le_self _ ha.1
  have b2 : b / (Int.gcd a b : Int) ≤ b := Int.ediv_le_self _ (by omega)
  have p1 : 0 ≤ a / (Int.gcd a b : Int) := Int.ediv_nonneg ha.1 (by omega)
  have p2 : 0 ≤ b / (Int.gcd a b : Int) := Int.ediv_nonneg (by omega) (by omega)
  simp only [G101, r_loop, r_liti, e, r_bnd0, r_ld0, r_lds]
  rw [r_quo _ _ _ _ hgi, r_quo _ _ _ _ hgi, q1, q2, wrap_id (by omega) (by omega), wrap_id (by omega) (by omega)]
  simp [lowI]
theorem lowI_ok {a b : Int} (ha : 0 ≤ a) (hb : 1 ≤ b) : 0 ≤ (lowI a b).1 ∧ (lowI a b).1 ≤ a ∧ 1 ≤ (lowI a b).2 ∧ (lowI a b).2 ≤ b ∧ ∃ g : Int, 0 < g ∧ (lowI a b).1 * g = a ∧ (lowI a b).2 * g = b := by
  have hg0 : 0 < Int.gcd a b := Int.gcd_pos_of_ne_zero_right _ (by omega)
  have d1 : (lowI a b).1 * (Int.gcd a b : Int) = a := Int.ediv_mul_cancel (Int.gcd_dvd_left ..)
  have d2 : (lowI a b).2 * (Int.gcd a b : Int) = b := Int.ediv_mul_cancel (Int.gcd_dvd_right ..)
  have b1 : (lowI a b).1 ≤ a := Int.ediv_le_self _ ha
  have b2 : (lowI a b).2 ≤ b := Int.ediv_le_self _ (by omega)
  have p1 : 0 ≤ (lowI a b).1 := Int.ediv_nonneg ha (by omega)
  have p2 : 0 ≤ (lowI a b).2 := Int.ediv_nonneg (by omega) (by omega)
  refine ⟨p1, b1, ?_, b2, _, by omega, d1, d2⟩
  rcases Int.lt_or_le 0 (lowI a b).2 with h | h
  · omega
  · have : (lowI a b).2 = 0 := by omega
    rw [this] at d2; omega

/-! ### gains of a sharing -/
def rG (p : Int × Int) : List D := [il p.1, il p.2]
def dGains (l : List (Int × Int)) : D := .sl 2 (l.map rG)
def gainOf (cl : List Cell) (d : Drift) (c : Claim) : Int × Int := lowI (worthV cl d.fr d.to_) c.heads
def gainsL (cl : List Cell) (l : List Claim) (ds : List Drift) : List (Int × Int) := (ds.zip l).map fun p => gainOf cl p.1 p.2
theorem s85 (n : Nat) (cl : List Cell) (l : List Claim) (ds : List Drift) (x : D) (hc : okWorth cl) (hv : ∀ c ∈ l, vClaim c.family c.heads c.from_ c.to = true) (hl : 1 ≤ l.length ∧ l.length ≤ 12) (hd : ds.length = l.length) (hb : ∀ d ∈ ds, d.fr ≤ 1000 ∧ d.to_ ≤ 1000) :
    FN (n + 3) 85 [x, dCells cl, dClaims l, dDrifts ds] = some (0, [.r ((gainsL cl l ds).map rG)]) := by
  rw [F85]
  have hzl : (ds.zip l).length = l.length := by simp [hd]
  have key : loopR [L85_0 (RP (n + 2)), L85_1 (RP (n + 2))] M0 0 [.d x, .d (dCells cl), .d (dClaims l), .d (dDrifts ds), .d (il ds.length), .d (il 0)] = some (1, [.n l.length, .n l.length, .r ((gainsL cl l ds).map rG)]) := by
    have := loop_ms (σ := Nat) [L85_0 (RP (n + 2)), L85_1 (RP (n + 2))]
      (fun i => match i with
        | 0 => (0, [.d x, .d (dCells cl), .d (dClaims l), .d (dDrifts ds), .d (il ds.length), .d (il 0)])
        | i + 1 => (1, [.d x, .d (dCells cl), .d (dClaims l), .n (i + 1), .n (i + 1), .d (dDrifts ds), .d (il ds.length), .d (il ((i : Int) + 1)), .r (((gainsL cl l ds).take (i + 1)).map rG)]))
      (fun i => l.length - i) (fun i => i ≤ l.length) (fun _ => some (1, [.n l.length, .n l.length, .r ((gainsL cl l ds).map rG)])) ?_ M0 0 (by omega) (M0_big (by omega))
    · exact this
    · intro i k hi ih
      have hgl : (gainsL cl l ds).length = l.length := by simp [gainsL, hd]
      by_cases hlt : i < l.length
      · obtain ⟨d, hdi⟩ : ∃ d, ds[i]? = some d := ⟨ds[i], by simp [show i < ds.length by omega]⟩
        obtain ⟨c, hci⟩ : ∃ c, l[i]? = some c := ⟨l[i], by simp [hlt]⟩
        have hg : (gainsL cl l ds)[i]? = some (gainOf cl d c) := by
          have hz : (ds.zip l)[i]? = some (d, c) := List.getElem?_zip_eq_some.2 ⟨hdi, hci⟩
          simp [gainsL, hz, -getElem?_pos]
        have ht : (gainsL cl l ds).take (i + 1) = (gainsL cl l ds).take i ++ [gainOf cl d c] := by
          rw [List.take_add_one, hg]; rfl
        have hbd := hb d (List.mem_of_getElem? hdi)
        have hvc := hv c (List.mem_of_getElem? hci)
        simp only [vClaim, decide_eq_true_eq] at hvc
        have hw := seg_worth hc d.fr d.to_
        have e81 := s81 n cl d.fr d.to_ x hc (by omega) (by omega)
        have e101 := s101 (n + 1) (worthV cl d.fr d.to_) c.heads (by omega) (by omega)
        have ih' := ih (i + 1) (by omega) (by omega)
        simp only [ht] at ih'
        simp only [dCells] at e81
        cases i with
        | zero =>
          refine ⟨_, rfl, ?_⟩
          have h0 : 0 < ds.length := by omega
          simp only [List.take_zero, List.nil_append, gainOf, dCells, dClaims, dDrifts, rG, List.map_cons, List.map_nil] at ih'
          have w1 : IntKind.i64.wrap 1 = 1 := rfl
          simp [L85_0, dCells, dClaims, dDrifts, h0, hdi, hci, rDrift, rClaim, e81, e101, w1, List.getElem?_cons_zero, List.getElem?_cons_succ, -getElem?_pos]
          simpa using ih'
        | succ i =>
          refine ⟨_, rfl, ?_⟩
          have hi1 : (i : Int) + 1 < (ds.length : Int) := by omega
          have ht' : ((i : Int) + 1).toNat = i + 1 := by omega
          have hi0 : (0 : Int) ≤ (i : Int) + 1 := by omega
          have hw1 := wrap_id (x := (i : Int) + 1 + 1) (by omega) (by omega)
          have hf : (i + 1 + 1) * 16 ≤ 140737488355328 ∧ i + 1 ≤ 9223372036854775806 := by omega
          have hlt' : ((gainsL cl l ds).take (i + 1)).length = i + 1 := by simp; omega
          simp only [List.map_append, gainOf, dCells, dClaims, dDrifts, rG, List.map_cons, List.map_nil] at ih'
          simp only [L85_1, r_ld0, r_lds, r_ln0, r_lns, r_lr0, r_lrs, r_lss, r_cond, hi1, decide_true, if_true, dCells, dClaims, dDrifts, r_rowDg, ht', hi0, and_self, List.getElem?_map, hdi, hci, Option.map_some, rDrift, rClaim, r_cell0, r_cells, r_call, e81, r_bnd0, e101, List.length_cons, List.length_nil, r_natN, r_rows, r_len, r_eqN, List.length_map, hlt', r_addN, r_seg0, List.take_succ_cons, List.take_zero, r_fitsg, hf, r_add, hw1, r_liti, r_app]
          simp [hf, rG]
          exact ⟨by omega, by simpa using ih'⟩
      · have he : i = l.length := by omega
        subst he
        cases hll : l.length with
        | zero => omega
        | succ m =>
          refine ⟨_, rfl, ?_⟩
          have h1 : ¬ (m : Int) + 1 < (ds.length : Int) := by omega
          rw [hll] at hgl
          simp [L85_1, h1, List.take_of_length_le (show (gainsL cl l ds).length ≤ m + 1 by omega)]
  simp only [dDrifts, dClaims, dCells] at key
  simp only [G85, dDrifts, dClaims, dCells, r_lenD, List.length_map, r_loop, r_liti, key, r_bnd1, r_ln0, r_lns, r_lr0, r_lrs]
  have hgl : (gainsL cl l ds).length = l.length := by simp [gainsL, hd]
  simp [hgl]
  exact List.take_of_length_le (by simp [hgl])
end Go.VE
/- Fairest sharings: what the search hands back. -/
namespace Go.VE
open Go.RowKit Go.Proofs
set_option maxRecDepth 100000

def gLt (a b : Int × Int) : Bool := decide (a.1 * b.2 < b.1 * a.2)
def minFrom : Int × Int → List (Int × Int) → Int × Int
  | m, [] => m
  | m, x :: r => if gLt x m then minFrom x r else minFrom m r
def okGn (p : Int × Int) : Prop := 0 ≤ p.1 ∧ p.1 ≤ 1000000 ∧ 1 ≤ p.2 ∧ p.2 ≤ 1000000
theorem isLit_il (x : Int) : (il x).isLit = true := rfl
theorem take_map_len {α β : Type} (f : α → β) (l : List α) : (l.map f).take l.length = l.map f := List.take_of_length_le (by simp)
theorem c104 (n : Nat) (a b : Int × Int) (ha : okGn a) (hb : okGn b) : FnDof (cf3 tb Try.prog) (FN (n + 4)) (.fn 104 []) [.agg 2, .agg 2] [il a.1, il a.2, il b.1, il b.2] = some (0, [.d (il (cmpI (a.1 * b.2) (b.1 * a.2)))]) := by
  obtain ⟨a1, a2, a3, a4⟩ := ha
  obtain ⟨b1, b2, b3, b4⟩ := hb
  have e : FN (n + 4) 104 [il a.1, il a.2, il b.1, il b.2] = some (0, [.d (il (cmpI (a.1 * b.2) (b.1 * a.2)))]) := by
    rw [F104]
    have e70 := s70 n a.1 a.2 b.1 b.2 (by omega) (by omega) (by omega) (by omega)
    simp only [G104, r_call, e70, r_bnd0, r_ld0, r_out]
  simp [FnDof, vdsOf, flatV, cf3, tb, ashT, rskT, isOneD, e, isLit_il]
theorem cmp_lt (x y : Int) : cmpI x y < 0 ↔ x < y := by
  unfold cmpI
  split
  · simp [*]
  · split <;> simp [*]
theorem s103 (n : Nat) (g : Int × Int) (gs : List (Int × Int)) (hl : gs.length ≤ 100) (hg : ∀ p ∈ g :: gs, okGn p) : FN (n + 5) 103 [dGains (g :: gs), .fn 104 []] = some (0, [.d (il (minFrom g gs).1), .d (il (minFrom g gs).2)]) := by
  rw [F103]
  have key := range_from (β := Int × Int) (g :: gs) (by simp; omega) (L103_0 (RP (n + 4))) (fun i m => [.d (dGains (g :: gs)), .d (.fn 104 []), .d (il (i : Int)), .d (il m.1), .d (il m.2), .d (il 0), .d (il 0)]) (fun _ m => okGn m)
    (fun i r m => some (0, [.d (il (minFrom m r).1), .d (il (minFrom m r).2), .d (il 0), .d (il 0)])) ?_ ?_ M0 1 (by simp) g (hg g (by simp)) (M0_big (by simp; omega))
  · simp only [List.drop_succ_cons, List.drop_zero, dGains, List.map_cons, rG, Int.cast_ofNat_Int] at key
    have h1 : ¬ ((gs.length : Int) + 1 < 1) := by omega
    simp [G103, dGains, rG, h1]
    rw [key]
    simp
  · intro m k _; simp [L103_0, dGains, minFrom]
  · intro i x r m k hx hd hi hw hI ih
    have hgx := hg x (List.mem_of_getElem? hx)
    have e := c104 n x m hgx hI
    have hi' : (i : Int) < ((g :: gs).length : Int) := by omega
    generalize g :: gs = G at *
    simp only [L103_0, r_ld0, r_lds, dGains, r_lenD, List.length_map, r_lss, r_cond, hi', decide_true, if_true, r_rowDg, Int.toNat_natCast, List.getElem?_map, hx, Option.map_some, rG, r_cell0, r_cells, r_callD, e, r_bnd0, r_liti, r_add, hw]
    simp only [minFrom]
    cases hlt : gLt x m with
    | true =>
      have ih' := ih x hgx
      have : cmpI (x.1 * m.2) (m.1 * x.2) < 0 := (cmp_lt _ _).2 (by simpa [gLt] using hlt)
      simp only [dGains, Int.natCast_add, Int.cast_ofNat_Int] at ih'
      simp [this]
      simpa [rG] using ih'
    | false =>
      have ih' := ih m hI
      have : ¬ cmpI (x.1 * m.2) (m.1 * x.2) < 0 := fun h => by
        have := (cmp_lt _ _).1 h
        simp [gLt] at hlt; omega
      simp only [dGains, Int.natCast_add, Int.cast_ofNat_Int] at ih'
      simp [this]
      simpa [rG] using ih'
theorem s91 (n : Nat) (g : Int × Int) (gs : List (Int × Int)) (hl : gs.length ≤ 100) (hg : ∀ p ∈ g :: gs, okGn p) : FN (n + 6) 91 [dGains (g :: gs)] = some (0, [.d (il (minFrom g gs).1), .d (il (minFrom g gs).2)]) := by
  rw [F91]
  simp [G91, s103 _ _ _ hl hg]
def minL : List (Int × Int) → Int × Int
  | [] => (0, 1)
  | g :: gs => minFrom g gs
theorem minFrom_ok : ∀ (gs : List (Int × Int)) (m : Int × Int), minFrom m gs ∈ m :: gs
  | [], m => by simp [minFrom]
  | x :: r, m => by
    simp only [minFrom]
    split
    · have := minFrom_ok r x; simp at this ⊢; rcases this with h | h <;> simp [h]
    · have := minFrom_ok r m; simp at this ⊢; rcases this with h | h <;> simp [h]
theorem minL_mem {l : List (Int × Int)} (h : l ≠ []) : minL l ∈ l := by
  cases l with
  | nil => exact absurd rfl h
  | cons g gs => exact minFrom_ok gs g

/-! ### the greedy drifts -/
def dsD (ds : List Drift) : D := match ds with
  | [] => .lit (.slice none 0 0)
  | d :: r => dDrifts (d :: r)
theorem dsD_ne {ds : List Drift} (h : ds ≠ []) : dsD ds = dDrifts ds := by
  cases ds with
  | nil => exact absurd rfl h
  | cons d r => rfl
def shr : Int → List Drift → List Claim → Bool
  | _, [], [] => true
  | last, d :: ds, c :: cs => decide (c.from_ ≤ d.fr ∧ d.fr ≤ d.to_ ∧ d.to_ ≤ c.to ∧ last < d.fr) && shr d.to_ ds cs
  | _, _, _ => false
theorem shr_len : ∀ {ds : List Drift} {l : List Claim} {a : Int}, shr a ds l = true → ds.length = l.length
  | [], [], _, _ => rfl
  | [], _ :: _, _, h => by cases h
  | _ :: _, [], _, h => by cases h
  | d :: ds, c :: l, a, h => by simp only [shr, Bool.and_eq_true] at h; simp [shr_len h.2]
theorem grd_true {P : Claim → Int → Bool} {cl : List Cell} : ∀ {l : List Claim} {a : Int} {ds ds' : List Drift} {ss ss' : List Int}, grd P cl l a ds ss = (ds', ss', true) →
    ∃ e, ds' = ds ++ e ∧ shr (a - 1) e l = true ∧ (∀ p ∈ e.zip l, P p.2 (worthV cl p.1.fr p.1.to_) = true) ∧ ∀ d ∈ e, d.to_ < cl.length
  | [], a, ds, ds', ss, ss', h => by
    simp only [grd, Prod.mk.injEq] at h
    exact ⟨[], by simp [h.1], rfl, by simp, by simp⟩
  | c :: l, a, ds, ds', ss, ss', h => by
    simp only [grd] at h
    split at h
    · rename_i t ht
      obtain ⟨e, h1, h2, h3, h4⟩ := grd_true h
      have hb := ltr_bnd _ ht
      refine ⟨⟨max a c.from_, t⟩ :: e, by simp [h1], ?_, ?_, ?_⟩
      · simp only [shr, Bool.and_eq_true, decide_eq_true_eq]
        refine ⟨by omega, ?_⟩
        rwa [show t + 1 - 1 = t by omega] at h2
      · intro p hp
        simp only [List.zip_cons_cons, List.mem_cons] at hp
        rcases hp with rfl | hp
        · exact hb.2.2.2
        · exact h3 p hp
      · intro d hd
        rcases List.mem_cons.1 hd with rfl | hd
        · exact hb.2.2.1
        · exact h4 d hd
    · simp only [Prod.mk.injEq] at h; cases h.2.2
theorem cOK_in {cs : List Chain} {cl : List Cell} {l : List Claim} (h : cOK cs cl l = 0) : okGround cs cl = true ∧ (1 ≤ l.length ∧ l.length ≤ 12) ∧ okClaims cl.length [] l = true := by
  have hl := cOK_len h
  unfold cOK at h
  split at h
  · rename_i hg
    split at h
    · rename_i h2
      simp only [Bool.and_eq_true] at h2
      exact ⟨hg, hl, h2.2⟩
    · simp at h
  · simp at h
theorem okClaims_mem {nk : Nat} : ∀ {l pre : List Claim}, okClaims nk pre l = true → ∀ c ∈ l, vClaim c.family c.heads c.from_ c.to = true ∧ c.to < nk
  | [], _, _, c, hc => by cases hc
  | d :: l, pre, h, c, hc => by
    simp only [okClaims, Bool.and_eq_true, decide_eq_true_eq] at h
    rcases List.mem_cons.1 hc with rfl | hc
    · exact ⟨h.1.1.1, h.1.2⟩
    · exact okClaims_mem h.2 c hc

theorem s74 (n : Nat) (P : Claim → Int → Bool) (cont : D) (cs : D) (cl : List Cell) (l : List Claim) (hc : okWorth cl) (hv : ∀ c ∈ l, vClaim c.family c.heads c.from_ c.to = true) (hl : 1 ≤ l.length ∧ l.length ≤ 12)
    (hco : ContOK (FnDof (cf3 tb Try.prog) (FN (n + 2))) cont P) {ds : List Drift} {ss : List Int} {b : Bool} (hg : grd P cl l 0 [] [] = (ds, ss, b)) :
    FN (n + 3) 74 [cs, dCells cl, dClaims l, cont] = some (0, [.d (dsD ds), .r (rI ss), .d (bl b)]) := by
  rw [F74]
  have e := l74 n P cont cs cl l hc hv hl hco
  rw [hg] at e
  simp only [dClaims, dCells] at e
  simp only [G74, dClaims, dCells, r_lenD, List.length_map, r_loop, r_liti, r_litb, e]
  cases b with
  | false =>
    cases ds with
    | nil => simp [resG, dsD, rI_len, rI_take]
    | cons d r => simp [resG, dsD, rI_len, rI_take, dDrifts, take_map_len]
  | true =>
    obtain ⟨e1, h1, h2, _, _⟩ := grd_true hg
    have hlen := shr_len h2
    simp only [List.nil_append] at h1
    subst h1
    have hne : ds ≠ [] := by intro h; subst h; simp at hlen; omega
    simp [resG, dsD_ne hne, rI_len, rI_take, dDrifts, take_map_len]
end Go.VE
/- The fairest sharing: what the search hands back. -/
namespace Go.VE
open Go.RowKit Go.Proofs
set_option maxRecDepth 100000

def KG (p : Int × Int) : Int := p.1 * (232792560 / p.2)
theorem KG_div {d : Int} (h : 1 ≤ d ∧ d ≤ 20) : 232792560 / d * d = 232792560 ∧ 0 < 232792560 / d ∧ 232792560 / d ≤ 232792560 := by
  have : d = 1 ∨ d = 2 ∨ d = 3 ∨ d = 4 ∨ d = 5 ∨ d = 6 ∨ d = 7 ∨ d = 8 ∨ d = 9 ∨ d = 10 ∨ d = 11 ∨ d = 12 ∨ d = 13 ∨ d = 14 ∨ d = 15 ∨ d = 16 ∨ d = 17 ∨ d = 18 ∨ d = 19 ∨ d = 20 := by omega
  rcases this with rfl | rfl | rfl | rfl | rfl | rfl | rfl | rfl | rfl | rfl | rfl | rfl | rfl | rfl | rfl | rfl | rfl | rfl | rfl | rfl <;> decide
theorem KG_lt {p q : Int × Int} (hp : 1 ≤ p.2 ∧ p.2 ≤ 20) (hq : 1 ≤ q.2 ∧ q.2 ≤ 20) (h : p.1 * q.2 < q.1 * p.2) : KG p < KG q := by
  obtain ⟨a1, a2, _⟩ := KG_div hp
  obtain ⟨b1, b2, _⟩ := KG_div hq
  unfold KG
  generalize 232792560 / p.2 = A at *
  generalize 232792560 / q.2 = B at *
  -- p.1 * A * (p.2 * q.2) = p.1 * q.2 * L
  have e1 : p.1 * A * (p.2 * q.2) = p.1 * q.2 * 232792560 := by rw [← a1]; simp [Int.mul_comm, Int.mul_left_comm]
  have e2 : q.1 * B * (p.2 * q.2) = q.1 * p.2 * 232792560 := by rw [← b1]; simp [Int.mul_comm, Int.mul_left_comm]
  have hpos : 0 < p.2 * q.2 := Int.mul_pos (by omega) (by omega)
  have : p.1 * A * (p.2 * q.2) < q.1 * B * (p.2 * q.2) := by rw [e1, e2]; omega
  exact Int.lt_of_mul_lt_mul_right this (by omega)
theorem KG_bnd {p : Int × Int} (hp : 1 ≤ p.2 ∧ p.2 ≤ 20) (h0 : 0 ≤ p.1 ∧ p.1 ≤ 240000) : 0 ≤ KG p ∧ KG p ≤ 55870214400000 := by
  obtain ⟨_, a2, a3⟩ := KG_div hp
  have := mul_bnd (z := p.1) (c := 232792560 / p.2) (A := 240000) (B := 232792560) (by omega) h0.2 (by omega) a3 (by omega)
  have h1 : 0 ≤ p.1 * (232792560 / p.2) := Int.mul_nonneg h0.1 (by omega)
  unfold KG
  omega

theorem shr_in : ∀ {ds : List Drift} {l : List Claim} {a : Int}, shr a ds l = true → (∀ c ∈ l, 0 ≤ c.from_ ∧ c.to < 24) → ∀ d ∈ ds, 0 ≤ d.fr ∧ d.fr ≤ d.to_ ∧ d.to_ < 24
  | [], _, _, _, _, d, hd => by cases hd
  | _ :: _, [], _, h, _, _, _ => by cases h
  | x :: ds, c :: l, a, h, hc, d, hd => by
    simp only [shr, Bool.and_eq_true, decide_eq_true_eq] at h
    have := hc c (by simp)
    rcases List.mem_cons.1 hd with rfl | hd
    · omega
    · exact shr_in h.2 (fun c h => hc c (by simp [h])) d hd
theorem gains_ok {cl : List Cell} {l : List Claim} {ds : List Drift} (hc : okWorth cl) (hv : ∀ c ∈ l, vClaim c.family c.heads c.from_ c.to = true) : ∀ g ∈ gainsL cl l ds, 0 ≤ g.1 ∧ g.1 ≤ 240000 ∧ 1 ≤ g.2 ∧ g.2 ≤ 20 := by
  intro g hg
  simp only [gainsL, List.mem_map] at hg
  obtain ⟨⟨d, c⟩, hp, rfl⟩ := hg
  have hvc := hv c (List.of_mem_zip hp).2
  simp only [vClaim, decide_eq_true_eq] at hvc
  have hw := seg_worth hc d.fr d.to_
  have := lowI_ok (a := worthV cl d.fr d.to_) (b := c.heads) hw.1 (by omega)
  simp only [gainOf]
  omega
/-- A sharing that the search hands back, its least gain, and how far claims come that want more. -/
structure Fair (cl : List Cell) (l : List Claim) (best : List Drift) (g : Int × Int) (mds : List Drift) (mss : List Int) : Prop where
  shr_ : shr (-1) best l = true
  low : g = minL (gainsL cl l best)
  more : grd (aboveP g) cl l 0 [] [] = (mds, mss, false)

set_option maxHeartbeats 1000000 in
theorem s68t (n : Nat) (cs : List Chain) (cl : List Cell) (l : List Claim) (hok : cOK cs cl l = 0) {ds : List Drift} {ss : List Int} (hg : grd anyP cl l 0 [] [] = (ds, ss, true)) :
    ∃ best g mds mss, FN (n + 8) 68 [dChains cs, dCells cl, dClaims l] = some (0, [.d (dDrifts best), .d (il g.1), .d (il g.2), .d (dsD mds), .r (rI mss), .d (bl false), .d (bl true)]) ∧ Fair cl l best g mds mss := by
  obtain ⟨hgr, hl, hcl⟩ := cOK_in hok
  have hv := okClaims_mem hcl
  have hvv : ∀ c ∈ l, vClaim c.family c.heads c.from_ c.to = true := fun c hc => (hv c hc).1
  have hc := okG_worth hgr
  have hct : ∀ c ∈ l, 0 ≤ c.from_ ∧ c.to < 24 := fun c h => by
    have := hvv c h; simp only [vClaim, decide_eq_true_eq] at this; omega
  have key := loop_pr (σ := Nat × List Drift × (Int × Int) × List Drift × List Int × Bool) [L68_0 (RP (n + 7)), L68_1 (RP (n + 7)), L68_2 (RP (n + 7)), L68_3 (RP (n + 7))]
    (fun s => match s.1 with
      | 0 => (0, [.d (dChains cs), .d (dCells cl), .d (dClaims l), .d (bl false), .r (rI s.2.2.2.2.1), .d (dsD s.2.2.2.1), .n s.2.2.2.2.1.length, .n s.2.2.2.2.1.length, .d (bl s.2.2.2.2.2), .d (il 0), .d (il 0)])
      | 1 => (1, [.d (dChains cs), .d (dCells cl), .d (dClaims l), .d (dDrifts s.2.1), .d (bl true), .r (rI s.2.2.2.2.1), .d (dsD s.2.2.2.1), .n s.2.2.2.2.1.length, .n s.2.2.2.2.1.length, .d (bl s.2.2.2.2.2), .d (il s.2.2.1.1), .d (il s.2.2.1.2)])
      | _ => (3, [.d (dChains cs), .d (dCells cl), .d (dClaims l), .d (dDrifts s.2.1), .d (bl true), .r (rI s.2.2.2.2.1), .d (dsD s.2.2.2.1), .n s.2.2.2.2.1.length, .n s.2.2.2.2.1.length, .d (bl s.2.2.2.2.2), .d (il s.2.2.1.1), .d (il s.2.2.1.2)]))
    (fun s => match s.1 with
      | 0 => 60000000000000
      | _ => (59999999999999 - KG s.2.2.1).toNat)
    (fun s => match s.1 with
      | 0 => grd anyP cl l 0 [] [] = (s.2.2.2.1, s.2.2.2.2.1, true) ∧ s.2.2.2.2.2 = true
      | _ => shr (-1) s.2.1 l = true ∧ s.2.2.1 = minL (gainsL cl l s.2.1) ∧ grd (aboveP s.2.2.1) cl l 0 [] [] = (s.2.2.2.1, s.2.2.2.2.1, s.2.2.2.2.2))
    (fun o => ∃ best g mds mss, (o = some (1, [.d (dDrifts best), .d (bl true), .r (rI mss), .d (dsD mds), .n mss.length, .n mss.length, .d (bl false), .d (il g.1), .d (il g.2)]) ∨ o = some (3, [.d (dDrifts best), .d (bl true), .r (rI mss), .d (dsD mds), .n mss.length, .n mss.length, .d (bl false), .d (il g.1), .d (il g.2)])) ∧ Fair cl l best g mds mss)
    ?_ M0 (0, [], (0, 0), ds, ss, true) ⟨hg, rfl⟩ (by simp only; decide)
  · obtain ⟨best, g, mds, mss, ho, hf⟩ := key
    refine ⟨best, g, mds, mss, ?_, hf⟩
    rw [F68]
    have e := s74 (n + 4) anyP (.fn 75 []) (dChains cs) cl l hc hvv hl (c75 (n + 5)) hg
    simp only [Int.cast_ofNat_Int] at ho
    simp only [G68, r_call, r_fnD, e, r_bnd0, r_ld0, r_lds, r_lr0, r_lrs, r_len, r_loop, r_liti, r_litb, rI_len]
    rcases ho with ho | ho
    · simp [ho, rI_len, rI_take]
    · simp [ho, rI_len, rI_take]
  · -- one round: from drifts that share, the next ones
    have round : ∀ (mds : List Drift) (h : shr (-1) mds l = true), ∃ g, g = minL (gainsL cl l mds) ∧ (0 ≤ g.1 ∧ g.1 ≤ 240000 ∧ 1 ≤ g.2 ∧ g.2 ≤ 20) ∧ g ∈ gainsL cl l mds ∧
        FN (n + 7) 85 [dChains cs, dCells cl, dClaims l, dsD mds] = some (0, [.r ((gainsL cl l mds).map rG)]) ∧ FN (n + 7) 91 [.sl 2 ((gainsL cl l mds).map rG)] = some (0, [.d (il g.1), .d (il g.2)]) ∧
        FN (n + 7) 92 [il g.1, il g.2] = some (0, [.d (.fn 105 [.dp [il g.1, il g.2] 0])]) ∧ FN (n + 7) 74 [dChains cs, dCells cl, dClaims l, .fn 105 [.dp [il g.1, il g.2] 0]] = some (0, [.d (dsD (grd (aboveP g) cl l 0 [] []).1), .r (rI (grd (aboveP g) cl l 0 [] []).2.1), .d (bl (grd (aboveP g) cl l 0 [] []).2.2)]) := by
      intro mds h
      have hlen := shr_len h
      have hne : mds ≠ [] := by intro h; subst h; simp at hlen; omega
      have hin := shr_in h hct
      have e85 := s85 (n + 4) cl l mds (dChains cs) hc hvv hl hlen (fun d hd => by have := hin d hd; omega)
      have hgl : (gainsL cl l mds).length = l.length := by simp [gainsL, hlen]
      have hgne : gainsL cl l mds ≠ [] := by intro h; rw [h] at hgl; simp at hgl; omega
      have hok := gains_ok (ds := mds) hc hvv
      have hmem := minL_mem hgne
      have hm := hok _ hmem
      refine ⟨_, rfl, hm, hmem, by rw [dsD_ne hne]; exact e85, ?_, s92 _ _ _, ?_⟩
      · cases hgg : gainsL cl l mds with
        | nil => exact absurd hgg hgne
        | cons g0 gs =>
          rw [hgg] at hok hgl
          simp only [List.length_cons] at hgl
          exact s91 (n + 1) g0 gs (by omega) (fun p hp => by have := hok p hp; exact ⟨by omega, by omega, by omega, by omega⟩)
      · exact s74 (n + 4) _ _ (dChains cs) cl l hc hvv hl (c105 (n + 2) (minL (gainsL cl l mds)) (by omega)) rfl
    rintro ⟨k, best, g, mds, mss, all⟩ J hI ih
    cases k with
    | zero =>
      simp only at hI
      obtain ⟨h1, rfl⟩ := hI
      obtain ⟨e, he, hs, _, _⟩ := grd_true h1
      simp only [List.nil_append] at he
      subst he
      obtain ⟨g', hg', hgb, _, e85, e91, e92, e74⟩ := round mds hs
      refine ⟨_, rfl, ?_⟩
      have ih' := ih (1, mds, g', (grd (aboveP g') cl l 0 [] []).1, (grd (aboveP g') cl l 0 [] []).2.1, (grd (aboveP g') cl l 0 [] []).2.2) ⟨hs, hg', rfl⟩ (by
        have := KG_bnd (p := g') (by omega) (by omega)
        simp only; omega)
      have hlen := shr_len hs
      have hne : mds ≠ [] := by intro h; subst h; simp at hlen; omega
      simp only [L68_0, r_ld0, r_lds, r_cond, if_true, r_call, e85, r_bnd0, r_eqN, r_slD, r_seg0, List.take_length, r_litsg, List.all_cons, List.all_nil, yl_i, Bool.and_self, e91, e92, e74, r_lr0, r_lrs, r_len, r_litb, rI_len]
      simp only at ih'
      rw [dsD_ne hne]
      exact ih'
    | succ k =>
      have hI' : shr (-1) best l = true ∧ g = minL (gainsL cl l best) ∧ grd (aboveP g) cl l 0 [] [] = (mds, mss, all) := hI
      obtain ⟨h1, h2, h3⟩ := hI'
      cases all with
      | false =>
        have hf : Fair cl l best g mds mss := ⟨h1, h2, h3⟩
        cases k with
        | zero => exact ⟨_, rfl, best, g, mds, mss, .inl (by simp [L68_1]), hf⟩
        | succ k => exact ⟨_, rfl, best, g, mds, mss, .inr (by simp [L68_3]), hf⟩
      | true =>
        obtain ⟨e, he, hs, hP, _⟩ := grd_true h3
        simp only [List.nil_append] at he
        subst he
        obtain ⟨g', hg', hgb, hmem, e85, e91, e92, e74⟩ := round mds hs
        -- the least gain grows
        have hlen0 := shr_len h1
        have hgl0 : (gainsL cl l best).length = l.length := by simp [gainsL, hlen0]
        have hgne0 : gainsL cl l best ≠ [] := by intro h; rw [h] at hgl0; simp at hgl0; omega
        have hgb0 := gains_ok (ds := best) hc hvv _ (minL_mem hgne0)
        rw [← h2] at hgb0
        have hlt : KG g < KG g' := by
          refine KG_lt (by omega) (by omega) ?_
          simp only [gainsL, List.mem_map] at hmem
          obtain ⟨⟨d, c⟩, hp, hdc⟩ := hmem
          have hab := hP _ hp
          simp only [aboveP, decide_eq_true_eq] at hab
          have hvc := hvv c (List.of_mem_zip hp).2
          simp only [vClaim, decide_eq_true_eq] at hvc
          have hw := seg_worth hc d.fr d.to_
          obtain ⟨_, _, _, _, q, hq, d1, d2⟩ := lowI_ok (a := worthV cl d.fr d.to_) (b := c.heads) hw.1 (by omega)
          simp only [gainOf] at hdc
          rw [← hdc]
          generalize lowI (worthV cl d.fr d.to_) c.heads = w at d1 d2
          rw [← d1, ← d2] at hab
          have : g.1 * w.2 * q < w.1 * g.2 * q := by
            have e1 : g.1 * (w.2 * q) = g.1 * w.2 * q := by rw [Int.mul_assoc]
            have e2 : w.1 * q * g.2 = w.1 * g.2 * q := by rw [Int.mul_assoc, Int.mul_comm q, Int.mul_assoc]
            rw [← e1, ← e2]; exact hab
          exact Int.lt_of_mul_lt_mul_right this (by omega)
        have hkb := KG_bnd (p := g') (by omega) (by omega)
        have hkb0 := KG_bnd (p := g) (by omega) (by omega)
        have hlen := shr_len hs
        have hne : mds ≠ [] := by intro h; subst h; simp at hlen; omega
        cases k with
        | zero =>
          refine ⟨_, rfl, ?_⟩
          have ih' := ih (2, mds, g', (grd (aboveP g') cl l 0 [] []).1, (grd (aboveP g') cl l 0 [] []).2.1, (grd (aboveP g') cl l 0 [] []).2.2) ⟨hs, hg', rfl⟩ (by simp only; omega)
          simp only [L68_1, r_ld0, r_lds, r_cond, if_true, r_call, e85, r_bnd0, r_eqN, r_slD, r_seg0, List.take_length, r_litsg, List.all_cons, List.all_nil, yl_i, Bool.and_self, e91, e92, e74, r_lr0, r_lrs, r_len, r_litb, rI_len]
          simp only at ih'
          rw [dsD_ne hne]
          exact ih'
        | succ k =>
          refine ⟨_, rfl, ?_⟩
          have ih' := ih (1, mds, g', (grd (aboveP g') cl l 0 [] []).1, (grd (aboveP g') cl l 0 [] []).2.1, (grd (aboveP g') cl l 0 [] []).2.2) ⟨hs, hg', rfl⟩ (by simp only; omega)
          simp only [L68_3, r_ld0, r_lds, r_cond, if_true, r_call, e85, r_bnd0, r_eqN, r_slD, r_seg0, List.take_length, r_litsg, List.all_cons, List.all_nil, yl_i, Bool.and_self, e91, e92, e74, r_lr0, r_lrs, r_len, r_litb, rI_len]
          simp only at ih'
          rw [dsD_ne hne]
          exact ih'

theorem s68f (n : Nat) (cs : List Chain) (cl : List Cell) (l : List Claim) (hok : cOK cs cl l = 0) {ds : List Drift} {ss : List Int} (hg : grd anyP cl l 0 [] [] = (ds, ss, false)) :
    FN (n + 8) 68 [dChains cs, dCells cl, dClaims l] = some (0, [.d (.lit (.slice none 0 0)), .d (il 0), .d (il 0), .d (dsD ds), .r (rI ss), .d (bl false), .d (bl false)]) := by
  obtain ⟨hgr, hl, hcl⟩ := cOK_in hok
  have hv := okClaims_mem hcl
  have hvv : ∀ c ∈ l, vClaim c.family c.heads c.from_ c.to = true := fun c hc => (hv c hc).1
  have e := s74 (n + 4) anyP (.fn 75 []) (dChains cs) cl l (okG_worth hgr) hvv hl (c75 (n + 5)) hg
  rw [F68]
  simp only [G68, r_call, r_fnD, e, r_bnd0, r_ld0, r_lds, r_lr0, r_lrs, r_len, r_loop, r_liti, r_litb, rI_len]
  rw [show M0 = 18446744073709551615 + 1 from rfl, loopR_succ _ _ _ _ _ rfl]
  simp [L68_0, rI_len, rI_take]
end Go.VE
/- Sharings, crowds; the law DriftEither. -/
namespace Go.VE
open Go.RowKit Go.Proofs
set_option maxRecDepth 100000

theorem s76 (n : Nat) (ch x : D) (l : List Claim) (ds : List Drift) (hl : l.length ≤ 12) (hd : ds.length ≤ 140737488355328) : FN (n + 1) 76 [ch, x, dClaims l, dDrifts ds] = some (0, [.d (bl (shr (-1) ds l))]) := by
  rw [F76]
  simp only [G76, dClaims, dDrifts, r_lenD, List.length_map, r_neq, r_cond]
  by_cases h : ds.length = l.length
  · have key := range_loop (β := Int) ds (by omega) (L76_0 (RP n)) (fun i p => [.d ch, .d x, .d (dClaims l), .d (il p), .d (dDrifts ds), .d (il ds.length), .d (il (i : Int))]) (fun _ _ => True)
      (fun i r p => match shr p r (l.drop i) with | true => some (1, []) | false => some (0, [.d (bl false)])) ?_ ?_ M0 (-1) trivial (M0_big (by omega))
    · simp only [dClaims, dDrifts, Int.cast_ofNat_Int, List.drop_zero] at key
      simp only [h, ne_eq, not_true_eq_false, decide_false, Bool.false_eq_true, if_false, r_loop, r_liti] at key ⊢
      rw [key]
      cases shr (-1) ds l <;> simp
    · intro p k _
      simp [L76_0, h, shr]
    · intro i d r p k hdi hdr hi hw _ ih
      have hli : i < l.length := by omega
      have hci : l[i]? = some l[i] := by simp [hli]
      have hdl := List.drop_eq_getElem_cons hli
      generalize l[i] = c at hci hdl
      have ih' := ih d.to_ trivial
      simp only [dClaims, dDrifts, Int.natCast_add, Int.cast_ofNat_Int] at ih'
      simp only [L76_0, r_ld0, r_lds, r_lss, r_cond, Int.ofNat_lt, hi, decide_true, if_true, dDrifts, dClaims, r_rowDg, Int.toNat_natCast, List.getElem?_map, hdi, hci, Option.map_some, rDrift, rClaim, r_cell0, r_cells, r_gtr, r_leq, r_out, r_litb, r_liti, r_add, hw, hdl, shr, decide_eq_true_eq]
      by_cases h1 : d.fr < c.from_
      · have : ¬ c.from_ ≤ d.fr := by omega
        simp [h1, this]
      · by_cases h2 : d.to_ < d.fr
        · have : ¬ d.fr ≤ d.to_ := by omega
          simp [h1, h2, this]
        · by_cases h3 : c.to < d.to_
          · have : ¬ d.to_ ≤ c.to := by omega
            simp [h1, h2, h3, this]
          · by_cases h4 : d.fr ≤ p
            · have : ¬ p < d.fr := by omega
              simp [h1, h2, h3, h4, this]
            · have e : decide (c.from_ ≤ d.fr ∧ d.fr ≤ d.to_ ∧ d.to_ ≤ c.to ∧ p < d.fr) = true := by simp; omega
              simp only [h1, h2, h3, h4, if_false, e, Bool.true_and]
              simp
              simpa [rDrift, rClaim] using ih'
  · have h' : ¬ (ds.length : Int) = (l.length : Int) := by omega
    have : shr (-1) ds l = false := by
      cases hs : shr (-1) ds l with
      | false => rfl
      | true => exact absurd (shr_len hs) h
    simp [h', this]
theorem s36 (n : Nat) (cs : List Chain) (cl : List Cell) (l : List Claim) (ds : List Drift) (hd : ds.length ≤ 140737488355328) :
    FN (n + 6) 36 [dChains cs, dCells cl, dClaims l, dDrifts ds] = some (0, [.d (il (if cOK cs cl l = 0 then (if shr (-1) ds l then 0 else 46) else cOK cs cl l))]) := by
  rw [F36]
  simp only [G36, r_call, s67, r_bnd0, r_ld0, r_lds, r_liti, r_neq, r_cond, r_out]
  by_cases h : cOK cs cl l = 0
  · have hl := cOK_len h
    rw [if_neg (by simp [h]), if_pos h, r_ptrW [dChains cs, dCells cl, dClaims l] 3 _ rfl]
    simp only [r_cell0, r_cells]
    rw [s76 _ _ _ _ _ hl.2 hd]
    cases shr (-1) ds l <;> simp [h]
  · simp [h]
/-- A crowd: fewer cells than claims. -/
def crd (l : List Claim) (a b : Int) : Bool := decide (0 ≤ a ∧ a ≤ b ∧ b < l.length) && (match l[b.toNat]?, l[a.toNat]? with
  | some y, some x => decide (max 0 (y.to - x.from_ + 1) ≤ b - a)
  | _, _ => false)
theorem s35 (n : Nat) (cs : List Chain) (cl : List Cell) (l : List Claim) (a b : Int) :
    FN (n + 6) 35 [dChains cs, dCells cl, dClaims l, il a, il b] = some (0, [.d (il (if cOK cs cl l = 0 then (if crd l a b then 0 else 48) else cOK cs cl l))]) := by
  rw [F35]
  simp only [G35, r_call, s67, r_bnd0, r_ld0, r_lds, r_liti, r_neq, r_cond, r_out]
  by_cases h : cOK cs cl l = 0
  · obtain ⟨hgr, hl, hcl⟩ := cOK_in h
    rw [if_neg (by simp [h]), if_pos h]
    simp only [r_lss, r_cond, decide_eq_true_eq, dClaims, r_lenD, List.length_map, r_geq]
    by_cases h1 : a < 0
    · have : crd l a b = false := by simp [crd]; omega
      simp [h1, this]
    · by_cases h2 : b < a
      · have : crd l a b = false := by simp [crd]; omega
        simp [h1, h2, this]
      · by_cases h3 : (l.length : Int) ≤ b
        · have : crd l a b = false := by simp [crd]; omega
          simp [h1, h2, h3, this]
        · have hb : b.toNat < l.length := by omega
          have ha : a.toNat < l.length := by omega
          have eb : l[b.toNat]? = some l[b.toNat] := by simp [hb]
          have ea : l[a.toNat]? = some l[a.toNat] := by simp [ha]
          have vb := (okClaims_mem hcl _ (List.getElem_mem hb)).1
          have va := (okClaims_mem hcl _ (List.getElem_mem ha)).1
          simp only [vClaim, decide_eq_true_eq] at vb va
          generalize l[b.toNat] = y at eb vb
          generalize l[a.toNat] = x at ea va
          have w1 : IntKind.i64.wrap (y.to - x.from_) = y.to - x.from_ := wrap_id (by omega) (by omega)
          have w2 : IntKind.i64.wrap (y.to - x.from_ + 1) = y.to - x.from_ + 1 := wrap_id (by omega) (by omega)
          have w3 : IntKind.i64.wrap (b - a) = b - a := wrap_id (by omega) (by omega)
          have hc : crd l a b = decide (max 0 (y.to - x.from_ + 1) ≤ b - a) := by
            unfold crd
            rw [eb, ea]
            simp only [show (0 ≤ a ∧ a ≤ b ∧ b < l.length) by omega, and_self, decide_true, Bool.true_and]
          rw [if_neg h1, if_neg h2, if_neg h3]
          simp only [r_rowDg, show (0 : Int) ≤ b by omega, show (0 : Int) ≤ a by omega, and_self, if_true, List.getElem?_map, eb, ea, Option.map_some, rClaim, List.length_cons, List.length_nil, r_cell0, r_cells, r_sub, w1, r_add, w2, w3, r_mm, r_gtr, r_cond, decide_eq_true_eq, hc]
          by_cases h4 : b - a < max 0 (y.to - x.from_ + 1)
          · have : ¬ max 0 (y.to - x.from_ + 1) ≤ b - a := by omega
            simp [h4, this]
          · have : max 0 (y.to - x.from_ + 1) ≤ b - a := by omega
            simp [h4, this]
  · simp [h]

/-! ### what the greedy drifts show -/
theorem ltr_any {cl : List Cell} {c : Claim} {to : Int} : ltr anyP cl c to to = if to ≤ c.to ∧ to < cl.length then some to else none := by
  by_cases h : to ≤ c.to ∧ to < cl.length
  · rw [ltr_in h, if_pos h]; rfl
  · rw [ltr_out h, if_neg h]
/-- Where each claim may begin, one cell a claim. -/
theorem grd_any {cl : List Cell} : ∀ {l : List Claim} {a : Int} {ds ds' : List Drift} {ss ss' : List Int}, (∀ c ∈ l, c.to < cl.length) → grd anyP cl l a ds ss = (ds', ss', false) →
    ∃ e : List Int, ss' = ss ++ e ∧ 1 ≤ e.length ∧ e.length ≤ l.length ∧ e[0]? = some a ∧ (∀ (i : Nat) x y c, e[i]? = some x → e[i + 1]? = some y → l[i]? = some c → y = max x c.from_ + 1) ∧ (∀ x c, e[e.length - 1]? = some x → l[e.length - 1]? = some c → c.to < max x c.from_)
  | [], a, ds, ds', ss, ss', _, h => by simp [grd] at h
  | c :: l, a, ds, ds', ss, ss', hc, h => by
    simp only [grd, ltr_any] at h
    by_cases hb : max a c.from_ ≤ c.to ∧ max a c.from_ < cl.length
    · rw [if_pos hb] at h
      obtain ⟨e, h1, h2, h3, h4, h5, h6⟩ := grd_any (fun c h => hc c (by simp [h])) h
      refine ⟨a :: e, by simp [h1], by simp, by simp; omega, rfl, ?_, ?_⟩
      · intro i x y d hx hy hd
        cases i with
        | zero =>
          simp at hx hd
          subst hx hd
          rw [show (0 : Nat) + 1 = 1 from rfl, List.getElem?_cons_succ, h4] at hy
          cases hy; rfl
        | succ i => exact h5 i x y d (by simpa using hx) (by simpa using hy) (by simpa using hd)
      · intro x d hx hd
        obtain ⟨q, hq⟩ : ∃ q, e.length = q + 1 := ⟨e.length - 1, by omega⟩
        have e1 : (a :: e).length - 1 = (e.length - 1) + 1 := by simp; omega
        rw [e1] at hx hd
        exact h6 x d (by simpa using hx) (by simpa using hd)
    · rw [if_neg hb] at h
      simp only [Prod.mk.injEq] at h
      refine ⟨[a], h.2.1.symm, by simp, by simp, rfl, ?_, ?_⟩
      · intro i x y d hx hy hd; cases i <;> simp at hy
      · intro x d hx hd
        simp at hx hd
        subst hx hd
        have := hc c (by simp)
        omega

theorem s34loop (n : Nat) (cl : List Cell) (l : List Claim) (ss : List Int) (u v w z : D) (hv : ∀ c ∈ l, vClaim c.family c.heads c.from_ c.to = true ∧ c.to < cl.length) (hl : l.length ≤ 12)
    (h2 : 1 ≤ ss.length) (h3 : ss.length ≤ l.length) (h4 : ss[0]? = some 0) (h5 : ∀ (i : Nat) x y c, ss[i]? = some x → ss[i + 1]? = some y → l[i]? = some c → y = max x c.from_ + 1) (h6 : ∀ x c, ss[ss.length - 1]? = some x → l[ss.length - 1]? = some c → c.to < max x c.from_) :
    ∃ a b : Int, loopR [L34_0 (RP n)] M0 0 [.d (dClaims l), .r (rI ss), .d (il ((ss.length : Int) - 1)), .d (il ((ss.length : Int) - 1)), .d u, .n ss.length, .n ss.length, .d v, .d w, .d z] = some (0, [.d (il a), .d (il b), .d w, .d z]) ∧ crd l a b = true := by
  have key := loop_pr (σ := Nat) [L34_0 (RP n)] (fun i => (0, [.d (dClaims l), .r (rI ss), .d (il (i : Int)), .d (il ((ss.length : Int) - 1)), .d u, .n ss.length, .n ss.length, .d v, .d w, .d z])) (fun i => i)
    (fun i => i < ss.length ∧ (i + 1 < ss.length → ∀ x y c, ss[ss.length - 1]? = some x → ss[i + 1]? = some y → l[ss.length - 1]? = some c → x = y + ((ss.length : Int) - 2 - i) ∧ c.from_ < x))
    (fun o => ∃ a b : Int, o = some (0, [.d (il a), .d (il b), .d w, .d z]) ∧ crd l a b = true) ?_ M0 (ss.length - 1) ⟨by omega, fun h => by omega⟩ (M0_big (by omega))
  · rw [show (((ss.length - 1 : Nat) : Nat) : Int) = (ss.length : Int) - 1 by omega] at key
    exact key
  · rintro i k ⟨hi, hI⟩ ih
    refine ⟨_, rfl, ?_⟩
    have hx : ss[i]? = some ss[i] := by simp [hi]
    have hli : i < l.length := by omega
    have hc : l[i]? = some l[i] := by simp [hli]
    have hvc := hv l[i] (List.getElem_mem hli)
    simp only [vClaim, decide_eq_true_eq] at hvc
    generalize ss[i] = x at hx
    generalize hci : l[i] = c at hc hvc
    have hr := rI_at hx
    have hLl : ss.length - 1 < l.length := by omega
    have hL : ss[ss.length - 1]? = some ss[ss.length - 1] := by simp [show ss.length - 1 < ss.length by omega]
    have hcL : l[ss.length - 1]? = some l[ss.length - 1] := by simp [hLl]
    have hvL := hv l[ss.length - 1] (List.getElem_mem hLl)
    simp only [vClaim, decide_eq_true_eq] at hvL
    generalize ss[ss.length - 1] = xL at hL
    generalize l[ss.length - 1] = cL at hcL hvL
    have h6' := h6 xL cL hL hcL
    -- what stands behind i
    have nxt : i + 1 < ss.length → xL = max x c.from_ + 1 + ((ss.length : Int) - 2 - i) ∧ cL.from_ < xL := by
      intro hlt
      have hz : ss[i + 1]? = some ss[i + 1] := by simp [hlt]
      have := hI hlt xL _ cL hL hz hcL
      have e := h5 i x _ c hx hz hc
      rw [e] at this; exact this
    by_cases h : c.from_ < x
    · -- back by one
      have hi0 : 0 < i := by
        rcases Nat.eq_zero_or_pos i with rfl | hp
        · rw [h4] at hx; cases hx; omega
        · exact hp
      obtain ⟨j, rfl⟩ : ∃ j, i = j + 1 := ⟨i - 1, by omega⟩
      have hw : IntKind.i64.wrap (((j + 1 : Nat) : Int) - 1) = (j : Int) := by rw [wrap_id (by omega) (by omega)]; omega
      have ih' := ih j ⟨by omega, fun hlt x' y' c' hx' hy' hc' => ?_⟩ (by omega)
      · have hi2 : ((j + 1 : Nat) : Int) < (ss.length : Int) := by omega
        have hi0' : (0 : Int) ≤ ((j + 1 : Nat) : Int) := by omega
        simp only [L34_0, r_ld0, r_lds, r_ln0, r_lns, r_lr0, r_lrs, r_eqN, r_len, rI_len, if_true, r_inxg, hi2, hi0', and_self, Int.toNat_natCast, r_rowAtg, hr, dClaims, r_rowDg, List.getElem?_map, hc, Option.map_some, rClaim, List.length_cons, List.length_nil, r_cell0, r_cells, r_gtr, r_cond, decide_eq_true_eq, h, r_sub, r_liti, hw]
        simp only [dClaims] at ih'
        simpa [rI_len] using ih'
      · rw [hL] at hx'; cases hx'
        rw [hx] at hy'; cases hy'
        rw [hcL] at hc'; cases hc'
        by_cases hlast : j + 1 + 1 < ss.length
        · have := nxt hlast
          omega
        · have e : ss.length - 1 = j + 1 := by omega
          rw [e] at hL hcL
          rw [hx] at hL; cases hL
          rw [hc] at hcL; cases hcL
          exact ⟨by omega, h⟩
    · refine ⟨(i : Int), (ss.length : Int) - 1, ?_, ?_⟩
      · have hi2 : (i : Int) < (ss.length : Int) := by omega
        have hi0' : (0 : Int) ≤ (i : Int) := by omega
        simp only [L34_0, r_ld0, r_lds, r_ln0, r_lns, r_lr0, r_lrs, r_eqN, r_len, rI_len, if_true, r_inxg, hi2, hi0', and_self, Int.toNat_natCast, r_rowAtg, hr, dClaims, r_rowDg, List.getElem?_map, hc, Option.map_some, rClaim, List.length_cons, List.length_nil, r_cell0, r_cells, r_gtr, r_cond, decide_eq_true_eq, h, if_false, r_out]
      · have hlt : i + 1 < ss.length := by
          rcases Nat.lt_or_ge (i + 1) ss.length with h' | h'
          · exact h'
          · have e : ss.length - 1 = i := by omega
            rw [e] at hL hcL
            rw [hx] at hL; cases hL
            rw [hc] at hcL; cases hcL
            omega
        have := nxt hlt
        unfold crd
        rw [show ((ss.length : Int) - 1).toNat = ss.length - 1 by omega, Int.toNat_natCast, hcL, hc]
        simp only [Bool.and_eq_true, decide_eq_true_eq]
        omega
end Go.VE
