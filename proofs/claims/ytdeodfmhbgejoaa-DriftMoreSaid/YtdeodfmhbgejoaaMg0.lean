/- The functions. -/
import Derived.Test.YtdeodfmhbgejoaaMf0
import Derived.Test.YtdeodfmhbgejoaaMe
/- What the checks of the drifts hand back. -/
namespace Go.VE
open Go.RowKit Go.Proofs

theorem s59 (n : Nat) (x lo hi : Int) : FN (n + 1) 59 [il x, il lo, il hi] = some (0, [.d (bl (decide (lo ≤ x ∧ x ≤ hi)))]) := by
  rw [F59]
  simp only [G59, r_leq, r_cond, r_litb, r_out]
  by_cases h : lo ≤ x <;> simp [h]
def vChain (id lo hi : Int) : Bool := decide (1 ≤ id ∧ id ≤ 99 ∧ 1 ≤ lo ∧ lo ≤ hi ∧ hi ≤ 1000)
theorem s19 (n : Nat) (id lo hi : Int) : FN (n + 2) 19 [il id, il lo, il hi] = some (0, [.d (il (if vChain id lo hi then 0 else 40))]) := by
  rw [F19]
  simp [G19, s59]
  unfold vChain
  repeat' split
  all_goals (first | rfl | (exfalso; simp at *; omega) | (simp at *; omega))
def vCell (c l w : Int) : Bool := decide (1 ≤ c ∧ c ≤ 99 ∧ 1 ≤ l ∧ l ≤ 1000 ∧ 0 ≤ w ∧ w ≤ 10000)
theorem s21 (n : Nat) (c l w : Int) : FN (n + 2) 21 [il c, il l, il w] = some (0, [.d (il (if vCell c l w then 0 else 41))]) := by
  rw [F21]
  simp [G21, s59]
  unfold vCell
  repeat' split
  all_goals (first | rfl | (exfalso; simp at *; omega) | (simp at *; omega))
def vClaim (f h a b : Int) : Bool := decide (1 ≤ f ∧ f ≤ 99 ∧ 1 ≤ h ∧ h ≤ 20 ∧ 0 ≤ a ∧ a ≤ b ∧ b < 24)
theorem s23 (n : Nat) (f h a b : Int) : FN (n + 2) 23 [il f, il h, il a, il b] = some (0, [.d (il (if vClaim f h a b then 0 else 43))]) := by
  rw [F23]
  simp [G23, s59]
  unfold vClaim
  repeat' split
  all_goals (first | rfl | (exfalso; simp at *; omega) | (simp at *; omega))
end Go.VE
/- Grounds and claims: what the checks hand back. -/
namespace Go.VE
open Go.RowKit Go.Proofs

structure Chain where
  id : Int
  lo : Int
  hi : Int
structure Cell where
  chain : Int
  links : Int
  worth : Int
structure Claim where
  family : Int
  heads : Int
  from_ : Int
  to : Int
  deriving DecidableEq
def rChain (c : Chain) : List D := [il c.id, il c.lo, il c.hi]
def rCell (c : Cell) : List D := [il c.chain, il c.links, il c.worth]
def rClaim (c : Claim) : List D := [il c.family, il c.heads, il c.from_, il c.to]
def dChains (l : List Chain) : D := .sl 3 (l.map rChain)
def dCells (l : List Cell) : D := .sl 3 (l.map rCell)
def dClaims (l : List Claim) : D := .sl 4 (l.map rClaim)

theorem rounds {l : Nat} (h : l ≤ 9223372036854775807) : ∃ k, M0 = k + l + 1 := ⟨M0 - l - 1, by have : M0 = 18446744073709551616 := rfl; omega⟩

/-- The place of a chain, from a place on. -/
def findC (id : Int) : List Chain → Nat → Option Nat
  | [], _ => none
  | c :: r, i => if c.id = id then some i else findC id r (i + 1)
def ltO : Option Int → Int → Bool
  | none, _ => true
  | some q, x => decide (q < x)
/-- The chains are valid and rise. -/
def okChains : Option Int → List Chain → Bool
  | _, [] => true
  | p, c :: r => vChain c.id c.lo c.hi && ltO p c.id && okChains (some c.id) r
def lastId (l : List Chain) : Option Int := l.getLast?.map (·.id)
theorem lastId_snoc (l : List Chain) (c : Chain) : lastId (l ++ [c]) = some c.id := by simp [lastId]

theorem l15a (n : Nat) (x : D) : ∀ (suf pre : List Chain) (k : Nat), (pre ++ suf).length ≤ 9223372036854775806 →
    loopR [L15_0 (RP (n + 2))] (k + suf.length + 1) 0 [.d (dChains (pre ++ suf)), .d (il (pre ++ suf).length), .d (il pre.length), .d (dChains (pre ++ suf)), .d x] =
      if okChains (lastId pre) suf = true then some (1, [.d (dChains (pre ++ suf)), .d x]) else some (0, [.d (il 42)])
  | [], pre, k, hl => by simp [loopR1, L15_0, okChains]
  | c :: suf, pre, k, hl => by
    have ih := l15a n x suf (pre ++ [c]) k (by simpa using hl)
    simp only [List.append_assoc, List.singleton_append, List.length_append, List.length_singleton, lastId_snoc] at ih
    simp only [List.length_cons, List.length_append] at hl ih ⊢
    rw [loopR1]
    have hw : IntKind.i64.wrap ((pre.length : Int) + 1) = ((pre.length + 1 : Nat) : Int) := by rw [wrap_id (by omega) (by omega)]; simp
    have hr : (List.map rChain (pre ++ c :: suf))[pre.length]? = some (rChain c) := by simp
    have hlt : (pre.length : Int) < ((pre.length + (suf.length + 1) : Nat) : Int) := by omega
    simp only [L15_0, dChains, r_ld0, r_lds, r_lss, r_cond, hlt, decide_true, if_true]
    rw [r_rowDn 3 _ _ _ _ hr rfl]
    simp only [rChain, r_cell0, r_cells, r_call, s19, r_bnd0, r_ld0, r_liti, r_neq, r_cond, r_out, r_gtr, r_sub, r_add, hw, okChains]
    by_cases hv : vChain c.id c.lo c.hi = true
    · simp only [hv, if_true, Bool.true_and]
      rw [if_neg (by simp)]
      rcases List.eq_nil_or_concat pre with rfl | ⟨pre', q, hp⟩
      · simp [lastId, ltO] at ih ⊢
        exact ih
      · rw [List.concat_eq_append] at hp
        subst hp
        have hw2 : IntKind.i64.wrap (((pre' ++ [q]).length : Int) - 1) = ((pre'.length : Nat) : Int) := by
          simp only [List.length_append, List.length_singleton] at hl ⊢
          rw [wrap_id (by omega) (by omega)]; omega
        have hr2 : (List.map rChain ((pre' ++ [q]) ++ c :: suf))[pre'.length]? = some (rChain q) := by simp
        rw [if_pos (by simp), hw2, r_rowDn 3 _ _ _ _ hr2 rfl]
        simp only [rChain, r_cell0, r_geq, r_cond, decide_eq_true_eq, r_out, lastId_snoc, ltO]
        by_cases hq : c.id ≤ q.id
        · rw [if_pos hq, if_neg (by simp; omega)]
        · rw [if_neg hq]
          have : decide (q.id < c.id) = true := by simp; omega
          simp only [this, Bool.true_and]
          exact ih
    · simp only [hv, Bool.false_and]
      simp

/-! ### the map of chains -/
def kChain (c : Chain) : Value := .int .i64 c.id
theorem mFind_ok (x : Int) : ∀ (l : List Chain) (j : Nat), mFind 0 (.int .i64 x) (l.map kChain) j = some (findC x l j)
  | [], j => rfl
  | c :: l, j => by
    simp only [List.map_cons, mFind, kChain, kEq, if_true, findC]
    by_cases h : c.id = x
    · simp [h]
    · have : (x == c.id) = false := by simp; exact fun e => h e.symm
      simp only [this, h, if_false]
      exact mFind_ok x l (j + 1)
theorem findC_none {x : Int} : ∀ {l : List Chain} {j : Nat}, (∀ c ∈ l, c.id ≠ x) → findC x l j = none
  | [], j, _ => rfl
  | c :: l, j, h => by simp only [findC, if_neg (h c (by simp))]; exact findC_none fun c hc => h c (by simp [hc])
theorem findC_lt {x : Int} : ∀ {l : List Chain} {j i : Nat}, findC x l j = some i → j ≤ i ∧ i < j + l.length
  | [], j, i, h => by cases h
  | c :: l, j, i, h => by
    simp only [findC] at h
    split at h
    · cases h; simp
    · have := findC_lt h; simp; omega
def mpOf (l : List Chain) : Mr := (l.map kChain, (List.range l.length).map fun (i : Nat) => [il (i : Int)])
theorem upd_ok (l : List Chain) (c : Chain) (h : ∀ d ∈ l, d.id ≠ c.id) : updD 0 (mpOf l) (il c.id) [il l.length] = some (mpOf (l ++ [c])) := by
  simp only [updD, il, litD, isKey, if_true, mpOf, mFind_ok, findC_none h]
  simp [kChain, List.range_succ, il]
theorem look_ok (l : List Chain) (x : Int) : ∃ r, lookD 0 [.int .i64 0] (mpOf l) (il x) = some (r, bl (findC x l 0).isSome) := by
  simp only [lookD, il, litD, isKey, if_true, mpOf, mFind_ok]
  cases hf : findC x l 0 with
  | none => exact ⟨_, rfl⟩
  | some i =>
    have := findC_lt hf
    refine ⟨[il i], ?_⟩
    simp only [List.getElem?_map, List.getElem?_range (show i < l.length by omega), Option.map_some, Option.isSome_some]
    rfl
theorem l62 (n : Nat) : ∀ (suf pre : List Chain) (k : Nat), (pre ++ suf).length ≤ 9223372036854775806 → ((pre ++ suf).map (·.id)).Nodup →
    loopR [L62_0 (RP n)] (k + suf.length + 1) 0 [.d (dChains (pre ++ suf)), .d (il (pre ++ suf).length), .d (il pre.length), .m (mpOf pre)] = some (0, [.m (mpOf (pre ++ suf))])
  | [], pre, k, hl, hn => by simp [loopR1, L62_0]
  | c :: suf, pre, k, hl, hn => by
    have ih := l62 n suf (pre ++ [c]) k (by simpa using hl) (by simpa using hn)
    simp only [List.append_assoc, List.singleton_append, List.length_append, List.length_singleton] at ih
    simp only [List.length_cons, List.length_append] at hl ih ⊢
    rw [loopR1]
    have hw : IntKind.i64.wrap ((pre.length : Int) + 1) = ((pre.length + 1 : Nat) : Int) := by rw [wrap_id (by omega) (by omega)]; simp
    have hr : (List.map rChain (pre ++ c :: suf))[pre.length]? = some (rChain c) := by simp
    have hlt : (pre.length : Int) < ((pre.length + (suf.length + 1) : Nat) : Int) := by omega
    have hd : ∀ d ∈ pre, d.id ≠ c.id := by
      intro d hd e
      simp only [List.map_append, List.map_cons, List.nodup_append] at hn
      exact hn.2.2 d.id (List.mem_map.2 ⟨d, hd, rfl⟩) c.id (by simp) e
    simp only [L62_0, dChains, r_ld0, r_lds, r_lss, r_cond, hlt, decide_true, if_true]
    rw [r_rowDn 3 _ _ _ _ hr rfl]
    simp only [rChain, r_cell0, r_lms, r_lm0]
    rw [r_upd 0 _ _ _ _ _ (upd_ok pre c hd)]
    simp only [r_liti, r_add, hw]
    exact ih
theorem s62 (n : Nat) (cs : List Chain) (x : D) (hl : cs.length ≤ 9223372036854775806) (hn : (cs.map (·.id)).Nodup) : FN (n + 1) 62 [dChains cs, x] = some (0, [.m (mpOf cs)]) := by
  rw [F62]
  obtain ⟨k, hk⟩ := rounds (l := cs.length) (by omega)
  have := l62 n cs [] k (by simpa using hl) (by simpa using hn)
  simp only [List.nil_append, List.length_nil] at this
  simp only [G62, dChains, r_lenD, List.length_map, r_loop, hk, r_liti, r_emp]
  rw [show (0 : Int) = ((0 : Nat) : Int) from rfl, show (([], []) : Mr) = mpOf [] from rfl]
  simp only [dChains] at this
  rw [this]
  simp
end Go.VE
/- Grounds: what both checks hand back. -/
namespace Go.VE
open Go.RowKit Go.Proofs

theorem ids_nodup : ∀ {l : List Chain} {p : Option Int}, okChains p l = true → (∀ c ∈ l, ltO p c.id = true) ∧ (l.map (·.id)).Nodup
  | [], p, _ => by simp
  | c :: l, p, h => by
    simp only [okChains, Bool.and_eq_true] at h
    obtain ⟨h1, h2⟩ := ids_nodup h.2
    refine ⟨?_, ?_⟩
    · intro d hd
      rcases List.mem_cons.1 hd with rfl | hd
      · exact h.1.2
      · have := h1 d hd
        have h3 := h.1.2
        cases p with
        | none => rfl
        | some q => simp only [ltO, decide_eq_true_eq] at this h3 ⊢; omega
    · simp only [List.map_cons, List.nodup_cons, List.mem_map, not_exists, not_and]
      refine ⟨fun d hd e => ?_, h2⟩
      have := h1 d hd
      simp only [ltO, decide_eq_true_eq] at this
      omega

/-- The cells are valid, their chains known. -/
def okCells (cs : List Chain) : List Cell → Bool
  | [] => true
  | c :: r => vCell c.chain c.links c.worth && (findC c.chain cs 0).isSome && okCells cs r

set_option maxRecDepth 10000 in
theorem l15b (n : Nat) (cs : List Chain) : ∀ (suf pre : List Cell) (k : Nat), (pre ++ suf).length ≤ 9223372036854775806 →
    loopR [L15_1 (RP (n + 2))] (k + suf.length + 1) 0 [.d (dCells (pre ++ suf)), .d (il (pre ++ suf).length), .d (il pre.length), .m (mpOf cs)] =
      if okCells cs suf = true then some (1, []) else some (0, [.d (il 42)])
  | [], pre, k, hl => by simp [loopR1, L15_1, okCells]
  | c :: suf, pre, k, hl => by
    have ih := l15b n cs suf (pre ++ [c]) k (by simpa using hl)
    simp only [List.append_assoc, List.singleton_append, List.length_append, List.length_singleton] at ih
    simp only [List.length_cons, List.length_append] at hl ih ⊢
    rw [loopR1]
    have hw : IntKind.i64.wrap ((pre.length : Int) + 1) = ((pre.length + 1 : Nat) : Int) := by rw [wrap_id (by omega) (by omega)]; simp
    have hr : (List.map rCell (pre ++ c :: suf))[pre.length]? = some (rCell c) := by simp
    have hlt : (pre.length : Int) < ((pre.length + (suf.length + 1) : Nat) : Int) := by omega
    obtain ⟨r, hlook⟩ := look_ok cs c.chain
    simp only [L15_1, dCells, r_ld0, r_lds, r_lss, r_cond, hlt, decide_true, if_true]
    rw [r_rowDn 3 _ _ _ _ hr rfl]
    simp only [rCell, r_cell0, r_cells, r_lms, r_lm0]
    rw [r_look 0 _ _ _ _ _ hlook]
    simp only [r_call, s21, r_bnd0, r_ld0, r_liti, r_neq, r_cond, r_out, r_not, r_add, hw, okCells]
    by_cases hv : vCell c.chain c.links c.worth = true
    · simp only [hv, if_true, Bool.true_and]
      rw [if_neg (by simp)]
      cases hf : (findC c.chain cs 0).isSome with
      | true => simp only [Bool.not_true, Bool.true_and]; exact ih
      | false => simp
    · simp only [hv, Bool.false_and]
      simp

def okGround (cs : List Chain) (cl : List Cell) : Bool := decide (1 ≤ cs.length ∧ cs.length ≤ 6 ∧ 1 ≤ cl.length ∧ cl.length ≤ 24) && okChains none cs && okCells cs cl

set_option maxRecDepth 10000 in
theorem s15 (n : Nat) (cs : List Chain) (cl : List Cell) : FN (n + 3) 15 [dChains cs, dCells cl] = some (0, [.d (il (if okGround cs cl then 0 else 42))]) := by
  rw [F15]
  simp only [G15, dChains, dCells, r_lenD, List.length_map, r_liti, r_call, s59, r_bnd0, r_ld0, r_not, r_cond, r_out]
  by_cases h1 : 1 ≤ (cs.length : Int) ∧ (cs.length : Int) ≤ 6
  · by_cases h2 : 1 ≤ (cl.length : Int) ∧ (cl.length : Int) ≤ 24
    · simp only [h1, h2, decide_true, and_self, Bool.not_true, Bool.false_eq_true, if_false, r_loop]
      obtain ⟨k, hk⟩ := rounds (l := cs.length) (by omega)
      have e1 := l15a n (dCells cl) cs [] k (by simp; omega)
      simp only [List.nil_append, List.length_nil, dChains, dCells, ← hk] at e1
      rw [show (0 : Int) = ((0 : Nat) : Int) from rfl, e1]
      by_cases h3 : okChains none cs = true
      · rw [if_pos (by simpa [lastId] using h3)]
        simp only [r_bnd1, r_ld0, r_lds, r_call]
        have e2 := s62 (n + 1) cs (dCells cl) (by omega) (ids_nodup h3).2
        simp only [dChains, dCells] at e2
        rw [e2]
        simp only [r_bnd0, r_lenD, r_lm0, List.length_map, r_loop]
        obtain ⟨k2, hk2⟩ := rounds (l := cl.length) (by omega)
        have e3 := l15b n cs cl [] k2 (by simp; omega)
        simp only [List.nil_append, List.length_nil, dCells, ← hk2] at e3
        rw [e3]
        by_cases h4 : okCells cs cl = true
        · rw [if_pos h4, r_bnd1]
          have : okGround cs cl = true := by simp [okGround, h3, h4]; omega
          simp [this]
        · rw [if_neg h4, r_bnd0]
          have : okGround cs cl = false := by simp [okGround, h4]
          simp [this]
      · rw [if_neg (by simpa [lastId] using h3), r_bnd0]
        have : okGround cs cl = false := by simp [okGround, h3]
        simp [this]
    · have : okGround cs cl = false := by simp [okGround]; intros; omega
      simp [h1, h2, this]
  · have : okGround cs cl = false := by simp [okGround]; intros; omega
    simp [h1, this]

end Go.VE
/- Claims: what both checks hand back. -/
namespace Go.VE
open Go.RowKit Go.Proofs

theorem s65 (n : Nat) (a b c d e f g h : Int) : FN (n + 1) 65 [il a, il b, il c, il d, il e, il f, il g, il h] = some (0, [.d (bl (decide (a = e)))]) := by
  rw [F65]; simp [G65]
theorem d65 (n : Nat) (x c : Claim) : FnDof (cf3 tb Try.prog) (FN (n + 1)) (.fn 65 [.dp (rClaim c) 0]) [.agg 4] (rClaim x) = some (0, [.d (bl (decide (x.family = c.family)))]) := by
  simp [FnDof, vdsOf, flatV, cf3, tb, ashT, rskT, isOneD, rClaim, s65, D.isLit, bl]

/-- The first place of a claim of a family, from a place on. -/
def findF (f : Int) : List Claim → Nat → Option Nat
  | [], _ => none
  | c :: r, i => if c.family = f then some i else findF f r (i + 1)
theorem l90 (n : Nat) (c : Claim) : ∀ (suf pre : List Claim) (k : Nat), (pre ++ suf).length ≤ 9223372036854775806 →
    loopR [L90_0 (RP (n + 1))] (k + suf.length + 1) 0 [.d (dClaims (pre ++ suf)), .d (.fn 65 [.dp (rClaim c) 0]), .d (il (pre ++ suf).length), .d (il pre.length)] =
      match findF c.family suf pre.length with
      | some j => some (0, [.d (il j)])
      | none => some (1, [])
  | [], pre, k, hl => by simp [loopR1, L90_0, findF]
  | x :: suf, pre, k, hl => by
    have ih := l90 n c suf (pre ++ [x]) k (by simpa using hl)
    simp only [List.append_assoc, List.singleton_append, List.length_append, List.length_singleton] at ih
    simp only [List.length_cons, List.length_append] at hl ih ⊢
    rw [loopR1]
    have hw : IntKind.i64.wrap ((pre.length : Int) + 1) = ((pre.length + 1 : Nat) : Int) := by rw [wrap_id (by omega) (by omega)]; simp
    have hr : (List.map rClaim (pre ++ x :: suf))[pre.length]? = some (rClaim x) := by simp
    have hlt : (pre.length : Int) < ((pre.length + (suf.length + 1) : Nat) : Int) := by omega
    have hd := d65 n x c
    simp only [L90_0, dClaims, r_ld0, r_lds, r_lss, r_cond, hlt, decide_true, if_true]
    rw [r_rowDn 4 _ _ _ _ hr rfl]
    simp only [rClaim, r_cell0, r_cells, r_callD] at hd ⊢
    rw [hd]
    simp only [r_bnd0, r_ld0, r_cond, r_out, r_liti, r_add, hw, findF, decide_eq_true_eq]
    by_cases hf : x.family = c.family
    · simp [hf]
    · rw [if_neg hf, if_neg hf]; exact ih
theorem s64 (n : Nat) (l : List Claim) (c : Claim) (hl : l.length ≤ 9223372036854775806) : FN (n + 3) 64 [dClaims l, .fn 65 [.dp (rClaim c) 0]] = some (0, [.d (bl (findF c.family l 0).isSome)]) := by
  rw [F64]
  simp only [G64, r_call]
  rw [F90]
  obtain ⟨k, hk⟩ := rounds (l := l.length) (by omega)
  have e := l90 n c l [] k (by simpa using hl)
  simp only [List.nil_append, List.length_nil, ← hk] at e
  simp only [G90, dClaims, r_lenD, List.length_map, r_loop, r_liti]
  rw [show (0 : Int) = ((0 : Nat) : Int) from rfl]
  simp only [dClaims] at e
  rw [e]
  cases findF c.family l 0 <;> simp
end Go.VE
/- Claims: what both checks hand back, whole. -/
namespace Go.VE
open Go.RowKit Go.Proofs

def okClaims (nc : Nat) : List Claim → List Claim → Bool
  | _, [] => true
  | pre, c :: r => vClaim c.family c.heads c.from_ c.to && !(findF c.family pre 0).isSome && decide (c.to < nc) && okClaims nc (pre ++ [c]) r

set_option maxRecDepth 10000 in
theorem l17 (n : Nat) (a : D) (cl : List Cell) : ∀ (suf pre : List Claim) (k : Nat), (pre ++ suf).length ≤ 9223372036854775806 →
    loopR [L17_0 (RP (n + 3))] (k + suf.length + 1) 0 [.d (dClaims (pre ++ suf)), .d (dClaims (pre ++ suf)), .d (il (pre ++ suf).length), .d (il pre.length), .d a, .d (dCells cl)] =
      if okClaims cl.length pre suf = true then some (1, []) else some (0, [.d (il 44)])
  | [], pre, k, hl => by simp [loopR1, L17_0, okClaims]
  | c :: suf, pre, k, hl => by
    have ih := l17 n a cl suf (pre ++ [c]) k (by simpa using hl)
    simp only [List.append_assoc, List.singleton_append, List.length_append, List.length_singleton] at ih
    simp only [List.length_cons, List.length_append] at hl ih ⊢
    rw [loopR1]
    have hw : IntKind.i64.wrap ((pre.length : Int) + 1) = ((pre.length + 1 : Nat) : Int) := by rw [wrap_id (by omega) (by omega)]; simp
    have hr : (List.map rClaim (pre ++ c :: suf))[pre.length]? = some (rClaim c) := by simp
    have hlt : (pre.length : Int) < ((pre.length + (suf.length + 1) : Nat) : Int) := by omega
    have hcut : (List.map rClaim (pre ++ c :: suf)).take ((pre.length : Int)).toNat = pre.map rClaim := by simp
    have h64 := s64 n pre c (by omega)
    simp only [dClaims, rClaim] at h64
    simp only [L17_0, dClaims, r_ld0, r_lds, r_lss, r_cond, hlt, decide_true, if_true]
    rw [r_rowDn 4 _ _ _ _ hr rfl, r_cutD_hi 4 _ _ _ (by simp; omega), hcut]
    simp only [rClaim, r_cell0, r_cells, r_call, r_fnD, r_dpD]
    rw [h64]
    simp only [r_bnd0, r_ld0, r_lits, s23, r_liti, r_neq, r_cond, r_out, okClaims, dCells, r_lenD, List.length_map, r_geq, r_add, hw]
    rw [if_pos (by simp [ynLit, D.isLit, bl])]
    by_cases hv : vClaim c.family c.heads c.from_ c.to = true
    · simp only [hv, if_true, Bool.true_and]
      rw [if_neg (by simp)]
      cases hf : (findF c.family pre 0).isSome with
      | true => simp
      | false =>
        simp only [Bool.false_eq_true, if_false, Bool.not_false, Bool.true_and]
        by_cases hc : (cl.length : Int) ≤ c.to
        · rw [if_pos (by simpa using hc)]
          have : decide (c.to < (cl.length : Int)) = false := by simp; omega
          simp [this]
        · rw [if_neg (by simpa using hc)]
          have : decide (c.to < (cl.length : Int)) = true := by simp; omega
          simp only [this, Bool.true_and]
          exact ih
    · simp only [hv, Bool.false_and]
      simp

def cOK (cs : List Chain) (cl : List Cell) (l : List Claim) : Int := if okGround cs cl then (if decide (1 ≤ l.length ∧ l.length ≤ 12) && okClaims cl.length [] l then 0 else 44) else 42

set_option maxRecDepth 10000 in
theorem s17 (n : Nat) (cs : List Chain) (cl : List Cell) (l : List Claim) : FN (n + 4) 17 [dChains cs, dCells cl, dClaims l] = some (0, [.d (il (cOK cs cl l))]) := by
  rw [F17]
  simp only [G17, r_call]
  rw [s15]
  simp only [r_bnd0, r_ld0, r_liti, r_neq, r_cond, r_out]
  by_cases hg : okGround cs cl = true
  · simp only [hg, if_true, cOK]
    rw [if_neg (by simp)]
    simp only [dClaims, r_lenD, List.length_map, r_call, s59, r_bnd0, r_ld0, r_not, r_cond, r_out, r_loop]
    by_cases h1 : 1 ≤ (l.length : Int) ∧ (l.length : Int) ≤ 12
    · simp only [h1, decide_true, and_self, Bool.not_true, Bool.false_eq_true, if_false]
      obtain ⟨k, hk⟩ := rounds (l := l.length) (by omega)
      have e := l17 n (dChains cs) cl l [] k (by simp; omega)
      simp only [List.nil_append, List.length_nil, dClaims, ← hk] at e
      rw [show (0 : Int) = ((0 : Nat) : Int) from rfl, e]
      have h1' : decide (1 ≤ l.length ∧ l.length ≤ 12) = true := by simp; omega
      simp only [h1', Bool.true_and]
      by_cases h2 : okClaims cl.length [] l = true
      · simp [h2]
      · simp [h2]
    · have h1' : decide (1 ≤ l.length ∧ l.length ≤ 12) = false := by simp; intros; omega
      simp [h1, h1']
  · simp [hg, cOK]

end Go.VE
/- Grow, Concat, the two Turns, SameClaims. -/
namespace Go.VE
open Go.RowKit Go.Proofs

section
variable (Fn : Nat → List D → Out) (FnD : D → List Sh → List D → Out) (m : Nat)
end

end Go.VE
/- The two Turns. -/
namespace Go.VE
open Go.RowKit Go.Proofs

theorem cOK_len {cs : List Chain} {cl : List Cell} {l : List Claim} (h : cOK cs cl l = 0) : 1 ≤ l.length ∧ l.length ≤ 12 := by
  unfold cOK at h
  split at h
  · split at h
    · rename_i h2; simp at h2; omega
    · simp at h
  · simp at h

end Go.VE
/- Whether claims are the same; the law DriftChecks. -/
namespace Go.VE
open Go.RowKit Go.Proofs

end Go.VE
/- Drifts: whether they are ones, how many links of each chain they have. -/
namespace Go.VE
open Go.RowKit Go.Proofs

structure Drift where
  fr : Int
  to_ : Int
  deriving DecidableEq
def rDrift (d : Drift) : List D := [il d.fr, il d.to_]
def dDrifts (l : List Drift) : D := .sl 2 (l.map rDrift)
def rI (v : List Int) : Rr := v.map fun z => [il z]
def dI (v : List Int) : D := .sl 1 (rI v)

/-! ### links -/
def seg (cl : List Cell) (a b : Int) : List Cell := (cl.take (b + 1).toNat).drop a.toNat
theorem okCells_mem {cs : List Chain} : ∀ {cl : List Cell}, okCells cs cl = true → ∀ c ∈ cl, vCell c.chain c.links c.worth = true ∧ ∃ k, findC c.chain cs 0 = some k ∧ k < cs.length
  | [], _, c, h => by cases h
  | x :: cl, ho, c, h => by
    simp only [okCells, Bool.and_eq_true] at ho
    rcases List.mem_cons.1 h with rfl | h
    · refine ⟨ho.1.1, ?_⟩
      obtain ⟨k, hk⟩ := Option.isSome_iff_exists.1 ho.1.2
      have := findC_lt hk
      exact ⟨k, hk, by omega⟩
    · exact okCells_mem ho.2 c h
end Go.VE
/- How many links of each chain a drift has. -/
namespace Go.VE
open Go.RowKit Go.Proofs

theorem rI_len (v : List Int) : (rI v).length = v.length := by simp [rI]
theorem seg_mem {cl : List Cell} {a b : Int} {c : Cell} (h : c ∈ seg cl a b) : c ∈ cl := List.mem_of_mem_take (List.mem_of_mem_drop h)
theorem seg_len (cl : List Cell) (a b : Int) : (seg cl a b).length ≤ cl.length := by simp [seg]; omega
theorem okG_cells {cs : List Chain} {cl : List Cell} (h : okGround cs cl = true) : ∀ c ∈ cl, vCell c.chain c.links c.worth = true ∧ ∃ k, findC c.chain cs 0 = some k ∧ k < cs.length := by
  simp only [okGround, Bool.and_eq_true] at h
  exact okCells_mem h.2
theorem okG_len {cs : List Chain} {cl : List Cell} (h : okGround cs cl = true) : 1 ≤ cs.length ∧ cs.length ≤ 6 ∧ 1 ≤ cl.length ∧ cl.length ≤ 24 := by
  simp only [okGround, Bool.and_eq_true, decide_eq_true_eq] at h
  exact h.1.1
end Go.VE
/- Lengths of drifts: spans, what is truly so long. -/
namespace Go.VE
open Go.RowKit Go.Proofs
set_option maxRecDepth 100000

theorem mul_bnd {z c A B : Int} (h1 : -A ≤ z) (h2 : z ≤ A) (h3 : 0 ≤ c) (h4 : c ≤ B) (hA : 0 ≤ A) : -(A * B) ≤ z * c ∧ z * c ≤ A * B := by
  have a1 := Int.mul_le_mul_of_nonneg_right h2 h3
  have a2 := Int.mul_le_mul_of_nonneg_left h4 hA
  have a3 := Int.mul_le_mul_of_nonneg_right h1 h3
  rw [Int.neg_mul] at a3
  exact ⟨by omega, by omega⟩
/-! ### spans -/
end Go.VE
/- What drifts are worth. -/
namespace Go.VE
open Go.RowKit Go.Proofs
set_option maxRecDepth 100000

theorem s98 (n : Nat) (v : List Int) (hl : v.length ≤ 1000) (hv : ∀ z ∈ v, -1000000 ≤ z ∧ z ≤ 1000000) : FN (n + 1) 98 [dI v] = some (0, [.d (il v.sum)]) := by
  rw [F98]
  have e := range_loop (β := Int) v (by omega) (L98_0 (RP n)) (fun i p => [.d (il p), .d (dI v), .d (il v.length), .d (il (i : Int))]) (fun i p => -1000000 * i ≤ p ∧ p ≤ 1000000 * i)
    (fun i r p => some (0, [.d (il (p + r.sum))])) (by intro p k hI; simp [L98_0])
    (by
      intro i z r p k hz hd hi hw hI ih
      have hzb := hv z (List.mem_of_getElem? hz)
      have w1 : IntKind.i64.wrap (p + z) = p + z := wrap_id (by omega) (by omega)
      have ih' := ih (p + z) (by omega)
      simp [L98_0, dI, hi, rI, hz, w1, hw, -getElem?_pos] at ih' ⊢
      rw [ih']
      simp; omega)
    M0 0 (by simp) (M0_big (by omega))
  simp only [G98, dI, r_lenD, rI_len, r_loop, r_liti]
  simp only [dI] at e
  rw [show (il 0) = il ((0 : Nat) : Int) from rfl] at e ⊢
  rw [e]
  simp
theorem s98n (n : Nat) : FN (n + 1) 98 [.lit (.slice none 0 0)] = some (0, [.d (il 0)]) := by
  rw [F98]
  simp [G98]
  rw [show M0 = 18446744073709551615 + 1 from rfl, loopR1]
  simp [L98_0]

def worthV (cl : List Cell) (a b : Int) : Int := ((seg cl a b).map Cell.worth).sum
def okWorth (cl : List Cell) : Prop := cl.length ≤ 24 ∧ ∀ c ∈ cl, 0 ≤ c.worth ∧ c.worth ≤ 10000
theorem okG_worth {cs : List Chain} {cl : List Cell} (h : okGround cs cl = true) : okWorth cl := by
  refine ⟨(okG_len h).2.2.2, fun c hc => ?_⟩
  have := (okG_cells h c hc).1
  simp only [vCell, decide_eq_true_eq] at this
  omega
def res81 (v : List Int) : Out := match v with
  | [] => some (0, [])
  | z :: r => some (1, [.n (z :: r).length, .n (z :: r).length, .r (rI (z :: r))])

theorem l81 (n : Nat) (cl : List Cell) (b : Int) (u x : D) (hc : cl.length ≤ 24) (i0 : Nat) (hi0 : i0 ≤ 4611686018427387904) (hb : b ≤ 4611686018427387904) :
    loopR [L81_0 (RP n), L81_1 (RP n)] M0 0 [.d (il i0), .d u, .d (il b), .d x, .d (dCells cl)] = res81 (((cl.take (b + 1).toNat).drop i0).map Cell.worth) := by
  have := loop_ms (σ := Nat × List Int) [L81_0 (RP n), L81_1 (RP n)]
    (fun s => match s.2 with
      | [] => (0, [.d (il s.1), .d u, .d (il b), .d x, .d (dCells cl)])
      | z :: r => (1, [.n (z :: r).length, .n (z :: r).length, .d (il s.1), .r (rI (z :: r)), .d u, .d (il b), .d x, .d (dCells cl)]))
    (fun s => cl.length - s.1) (fun s => s.1 ≤ 4611686018427387904 ∧ (s.2 ≠ [] → s.2.length ≤ s.1 ∧ s.1 ≤ cl.length))
    (fun s => res81 (s.2 ++ ((cl.take (b + 1).toNat).drop s.1).map Cell.worth)) ?_ M0 (i0, []) ⟨by simp only; omega, fun h => absurd rfl h⟩ (M0_big (by simp only; omega))
  · simpa using this
  · rintro ⟨i, acc⟩ k ⟨hi, hacc⟩ ih
    simp only at hi hacc
    by_cases h1 : (i : Int) ≤ b ∧ i < cl.length
    · have hlt : i < (cl.take (b + 1).toNat).length := by simp; omega
      have hd := List.drop_eq_getElem_cons hlt
      have hci : cl[i]? = some cl[i] := by simp [h1.2]
      have hw := wrap_succ (i := i) (n := cl.length) h1.2 (by omega)
      have ih' := ih (i + 1, acc ++ [cl[i].worth]) ⟨by simp only; omega, fun _ => by
        simp only [List.length_append, List.length_singleton]
        by_cases ha : acc = []
        · subst ha; simp; omega
        · have := hacc ha; omega⟩ (by simp only; omega)
      simp only [List.getElem_take] at hd
      cases acc with
      | nil =>
        refine ⟨_, rfl, ?_⟩
        simp [hd] at ih' ⊢
        simp [L81_0, h1, dCells, hci, rCell, hw, rI, -getElem?_pos] at ih' ⊢
        simpa using ih'
      | cons z r =>
        refine ⟨_, rfl, ?_⟩
        have hz := hacc (by simp)
        simp only [List.length_cons] at hz
        simp [hd] at ih' ⊢
        have hf : (r.length + 1 + 1) * 8 ≤ 140737488355328 ∧ r.length + 1 + 1 ≤ 9223372036854775807 := by omega
        simp [L81_1, h1, dCells, hci, rCell, hw, rI, hf, -getElem?_pos] at ih' ⊢
        exact ih'
    · have hdr : (cl.take (b + 1).toNat).drop i = [] := by simp; omega
      cases acc with
      | nil =>
        refine ⟨_, rfl, ?_⟩
        simp [L81_0, dCells, hdr, res81]
        by_cases h2 : (i : Int) ≤ b
        · have : ¬ i < cl.length := fun h => h1 ⟨h2, h⟩
          simp [h2, this]
        · simp [h2]
      | cons z r =>
        refine ⟨_, rfl, ?_⟩
        simp [L81_1, dCells, hdr, res81]
        by_cases h2 : (i : Int) ≤ b
        · have : ¬ i < cl.length := fun h => h1 ⟨h2, h⟩
          simp [h2, this]
        · simp [h2]
theorem s81 (n : Nat) (cl : List Cell) (a b : Int) (x : D) (hc : okWorth cl) (ha : a ≤ 4611686018427387904) (hb : b ≤ 4611686018427387904) :
    FN (n + 2) 81 [x, dCells cl, il a, il b] = some (0, [.d (il (worthV cl a b))]) := by
  rw [F81]
  have e := l81 (n + 1) cl b (il a) x hc.1 a.toNat (by omega) hb
  rw [show ((a.toNat : Nat) : Int) = max a 0 by omega] at e
  simp only [G81, r_mm, if_true, r_loop, r_liti, e, worthV, seg]
  have hlen : (((cl.take (b + 1).toNat).drop a.toNat).map Cell.worth).length ≤ 24 := by
    have := hc.1
    simp; omega
  have hv : ∀ z ∈ ((cl.take (b + 1).toNat).drop a.toNat).map Cell.worth, -1000000 ≤ z ∧ z ≤ 1000000 := by
    intro z hz
    obtain ⟨c, hc1, rfl⟩ := List.mem_map.1 hz
    have := hc.2 c (List.mem_of_mem_take (List.mem_of_mem_drop hc1))
    omega
  generalize ((cl.take (b + 1).toNat).drop a.toNat).map Cell.worth = v at hlen hv
  cases v with
  | nil => simp [res81, s98n]
  | cons z r =>
    have := s98 n (z :: r) (by omega) hv
    simp only [dI] at this
    simp [res81, rI_len]
    rw [List.take_of_length_le (by simp [rI_len]), this]
    simp
end Go.VE
/- How long drifts are, which one is longer, what they are worth, which gain is greater: both programs. -/
namespace Go.VE
open Go.RowKit Go.Proofs
set_option maxRecDepth 100000

theorem rI_take (v : List Int) (n : Nat) (h : v.length ≤ n) : (rI v).take n = rI v := List.take_of_length_le (by rw [rI_len]; exact h)
/-! ### longer -/
end Go.VE
/- What is truly so long, what it is worth, which gain is greater; the law DriftLengths. -/
namespace Go.VE
open Go.RowKit Go.Proofs
set_option maxRecDepth 100000

/-! ### gains -/
def isG (a b : Int) : Bool := decide (0 ≤ a ∧ a ≤ 1000000 ∧ 1 ≤ b ∧ b ≤ 1000000)
def cmpI (x y : Int) : Int := if x < y then -1 else if y < x then 1 else 0
theorem s69 (n : Nat) (a b : Int) : FN (n + 2) 69 [il a, il b] = some (0, [.d (bl (isG a b))]) := by
  rw [F69]
  simp only [G69, r_call, r_liti, s59, r_bnd0, r_ld0, r_cond, r_out, r_litb, isG]
  by_cases h : 0 ≤ a ∧ a ≤ 1000000
  · simp [h]
  · have : ¬ (0 ≤ a ∧ a ≤ 1000000 ∧ 1 ≤ b ∧ b ≤ 1000000) := fun h' => h ⟨h'.1, h'.2.1⟩
    simp only [h, this, decide_false, Bool.false_eq_true, if_false]
theorem s106 (n : Nat) (a : Int) : FN (n + 1) 106 [il a] = some (0, [.d (bl false)]) := by
  rw [F106]; simp [G106]
theorem s93 (n : Nat) (a b : Int) : FN (n + 2) 93 [il a, il b] = some (0, [.d (il (cmpI a b))]) := by
  rw [F93]
  simp only [G93, r_call, s106, r_bnd0, r_ld0, r_cond, Bool.false_eq_true, if_false, r_lss, r_gtr, r_out, r_liti, cmpI, decide_eq_true_eq]
  split
  · rfl
  · split <;> rfl
/-- The product of numbers that a gain has. -/
theorem gmul {a b : Int} (ha : -4294967296 ≤ a ∧ a ≤ 4294967296) (hb : 0 ≤ b ∧ b ≤ 1000000) : IntKind.i64.wrap (a * b) = a * b := by
  have := mul_bnd (z := a) (c := b) (A := 4294967296) (B := 1000000) (by omega) (by omega) hb.1 hb.2 (by omega)
  exact wrap_id (by omega) (by omega)
theorem s70 (n : Nat) (a b c d : Int) (ha : -4294967296 ≤ a ∧ a ≤ 4294967296) (hb : 0 ≤ b ∧ b ≤ 1000000) (hc : -4294967296 ≤ c ∧ c ≤ 4294967296) (hd : 0 ≤ d ∧ d ≤ 1000000) : FN (n + 3) 70 [il a, il b, il c, il d] = some (0, [.d (il (cmpI (a * d) (c * b)))]) := by
  rw [F70]
  simp only [G70, r_mul, gmul ha hd, gmul hc hb, r_call, s93, r_bnd0, r_ld0, r_out]
def cErr (a b c d : Int) : Int := if isG a b && isG c d then 0 else 1
def cRes (a b c d : Int) : Int := if cErr a b c d = 0 then cmpI (a * d) (c * b) else 0
theorem s28 (n : Nat) (a b c d : Int) : FN (n + 4) 28 [il a, il b, il c, il d] = some (0, [.d (il (cRes a b c d)), .d (il (cErr a b c d))]) := by
  rw [F28]
  simp only [G28, r_call, s69, r_bnd0, r_ld0, r_not, r_cond, r_out, r_liti]
  by_cases h1 : isG a b = true
  · by_cases h2 : isG c d = true
    · have h1' := h1; have h2' := h2
      simp only [isG, decide_eq_true_eq] at h1' h2'
      have e := s70 n a b c d (by omega) (by omega) (by omega) (by omega)
      simp [h1, h2, e, cRes, cErr]
    · simp [h1, h2, cRes, cErr]
  · simp [h1, cRes, cErr]
end Go.VE
/- The ground and the claims that numbers determine are valid. -/
namespace Go.VE
open Go.RowKit Go.Proofs
set_option maxRecDepth 100000

def modI (a b : Int) : Int := a % b
theorem modI_bnd (a : Int) {b : Int} (h : 0 < b) : 0 ≤ modI a b ∧ modI a b < b := ⟨Int.emod_nonneg _ (by omega), Int.emod_lt_of_pos _ h⟩
theorem s26 (n : Nat) (a b : Int) (h : 0 < b) (hb : b ≤ 1099511627776) : FN (n + 1) 26 [il a, il b] = some (0, [.d (il (modI a b))]) := by
  rw [F26]
  have h1 : -b < a.tmod b ∧ a.tmod b < b := by
    refine ⟨?_, Int.tmod_lt_of_pos a h⟩
    have := Int.lt_tmod_of_pos a h
    omega
  have w : IntKind.i64.wrap (a.tmod b + b) = a.tmod b + b := wrap_id (by omega) (by omega)
  have e : (a.tmod b + b).tmod b = modI a b := by
    rw [Int.tmod_eq_emod_of_nonneg (by omega), Int.add_emod_right, Int.tmod_def, modI, Int.sub_mul_emod_self_left]
  simp only [G26]
  rw [r_rem _ _ _ _ (by omega)]
  simp only [r_add, w]
  rw [r_rem _ _ _ _ (by omega), e, r_out]

def dR2 (l : List (Int × Int)) : D := .sl 2 (l.map fun p => [il p.1, il p.2])
def dR3 (l : List (Int × Int × Int)) : D := .sl 3 (l.map fun p => [il p.1, il p.2.1, il p.2.2])
def MC (cs : List Chain) : Prop := ∀ (j : Nat) c, cs[j]? = some c → c.id = (j : Int) + 1 ∧ 90 ≤ c.lo ∧ c.lo ≤ c.hi ∧ c.hi ≤ 121
def MK (nc : Nat) (cl : List Cell) : Prop := ∀ c ∈ cl, 1 ≤ c.chain ∧ c.chain ≤ (nc : Int) ∧ 1 ≤ c.links ∧ c.links ≤ 9 ∧ 0 ≤ c.worth ∧ c.worth ≤ 11
def ML (nk : Nat) (l : List Claim) : Prop := ∀ (j : Nat) c, l[j]? = some c → c.family = 3 + 2 * (j : Int) ∧ 1 ≤ c.heads ∧ c.heads ≤ 4 ∧ 0 ≤ c.from_ ∧ c.from_ ≤ c.to ∧ c.to < (nk : Int)
theorem MC_snoc {cs : List Chain} {c : Chain} (h : MC cs) (hc : c.id = (cs.length : Int) + 1 ∧ 90 ≤ c.lo ∧ c.lo ≤ c.hi ∧ c.hi ≤ 121) : MC (cs ++ [c]) := by
  intro j d hd
  rw [List.getElem?_append] at hd
  split at hd
  · exact h j d hd
  · rename_i hj
    have : j = cs.length := by
      have := (List.getElem?_eq_some_iff.1 hd).1; simp at this; omega
    subst this
    simp at hd; subst hd; exact hc
theorem ML_snoc {nk : Nat} {l : List Claim} {c : Claim} (h : ML nk l) (hc : c.family = 3 + 2 * (l.length : Int) ∧ 1 ≤ c.heads ∧ c.heads ≤ 4 ∧ 0 ≤ c.from_ ∧ c.from_ ≤ c.to ∧ c.to < (nk : Int)) : ML nk (l ++ [c]) := by
  intro j d hd
  rw [List.getElem?_append] at hd
  split at hd
  · exact h j d hd
  · rename_i hj
    have : j = l.length := by
      have := (List.getElem?_eq_some_iff.1 hd).1; simp at this; omega
    subst this
    simp at hd; subst hd; exact hc
theorem MK_snoc {nc : Nat} {cl : List Cell} {c : Cell} (h : MK nc cl) (hc : 1 ≤ c.chain ∧ c.chain ≤ (nc : Int) ∧ 1 ≤ c.links ∧ c.links ≤ 9 ∧ 0 ≤ c.worth ∧ c.worth ≤ 11) : MK nc (cl ++ [c]) := by
  intro d hd
  rcases List.mem_append.1 hd with hd | hd
  · exact h d hd
  · simp at hd; subst hd; exact hc

theorem l25a (n : Nat) (raws : List (Int × Int)) (hr : raws.length ≤ 140737488355328) (a1 a2 : D) :
    ∃ cs : List Chain, loopR [L25_0 (RP (n + 1)), L25_1 (RP (n + 1))] M0 0 [.d (il 0), .d (dR2 raws), .d a1, .d a2] = some (1, [.r (cs.map rChain), .n cs.length, .n cs.length, .d (dR2 raws), .d a1, .d a2]) ∧ MC cs ∧ 1 ≤ cs.length ∧ cs.length ≤ 3 := by
  refine loop_acc (α := Chain) (L25_0 (RP (n + 1))) (L25_1 (RP (n + 1))) [.d (il 0), .d (dR2 raws), .d a1, .d a2] (fun acc => [.d (il acc.length), .r (acc.map rChain), .n acc.length, .n acc.length, .d (dR2 raws), .d a1, .d a2]) 3 MC
    (fun o => ∃ cs : List Chain, o = some (1, [.r (cs.map rChain), .n cs.length, .n cs.length, .d (dR2 raws), .d a1, .d a2]) ∧ MC cs ∧ 1 ≤ cs.length ∧ cs.length ≤ 3) (by intro j c h; simp at h) ?_ ?_ M0 (by decide)
  · intro k ih
    have hx : ∃ x y, (if 0 < raws.length then raws[0]? else some (0, 0)) = some (x, y) := by
      by_cases h : 0 < raws.length
      · rw [if_pos h]; exact ⟨raws[0].1, raws[0].2, by simp [h]⟩
      · rw [if_neg h]; exact ⟨0, 0, rfl⟩
    obtain ⟨x, y, hxy⟩ := hx
    have b1 := modI_bnd x (b := 20) (by omega)
    have b2 := modI_bnd y (b := 12) (by omega)
    have w1 : IntKind.i64.wrap (90 + modI x 20) = 90 + modI x 20 := wrap_id (by omega) (by omega)
    have w2 : IntKind.i64.wrap (90 + modI x 20 + modI y 12) = 90 + modI x 20 + modI y 12 := wrap_id (by omega) (by omega)
    have w3 : IntKind.i64.wrap (1 + 0) = 1 := rfl
    have w4 : IntKind.i64.wrap (0 + 1) = 1 := rfl
    have e1 := s26 n x 20 (by omega) (by omega)
    have e2 := s26 n y 12 (by omega) (by omega)
    have go := ih ⟨1, 90 + modI x 20, 90 + modI x 20 + modI y 12⟩ (MC_snoc (cs := []) (by intro j c h; simp at h) ⟨rfl, by simp only; omega, by simp only; omega, by simp only; omega⟩) (by omega)
    cases raws with
    | nil =>
      simp at hxy
      obtain ⟨rfl, rfl⟩ := hxy
      simp [L25_0, dR2, e1, e2, w1, w2, w3, w4, rChain] at go ⊢
      exact go
    | cons p t =>
      simp at hxy
      subst hxy
      have h0 : (0 : Int) < (t.length : Int) + 1 := by omega
      simp [L25_0, dR2, e1, e2, w1, w2, w3, w4, rChain, h0] at go ⊢
      exact go
  · intro acc k hM hne hl ih
    have hp : 0 < acc.length := List.length_pos_iff.2 hne
    have hne0 : ¬ ((acc.length : Int) = 0) := by omega
    by_cases h1 : acc.length < raws.length ∧ acc.length < 3
    · obtain ⟨⟨x, y⟩, hxy⟩ : ∃ p, raws[acc.length]? = some p := ⟨raws[acc.length], by simp [h1.1]⟩
      have b1 := modI_bnd x (b := 20) (by omega)
      have b2 := modI_bnd y (b := 12) (by omega)
      have w1 : IntKind.i64.wrap (90 + modI x 20) = 90 + modI x 20 := wrap_id (by omega) (by omega)
      have w2 : IntKind.i64.wrap (90 + modI x 20 + modI y 12) = 90 + modI x 20 + modI y 12 := wrap_id (by omega) (by omega)
      have w3 : IntKind.i64.wrap (1 + (acc.length : Int)) = acc.length + 1 := by rw [wrap_id (by omega) (by omega)]; omega
      have w4 : IntKind.i64.wrap ((acc.length : Int) + 1) = acc.length + 1 := wrap_id (by omega) (by omega)
      have e1 := s26 n x 20 (by omega) (by omega)
      have e2 := s26 n y 12 (by omega) (by omega)
      have hi : (acc.length : Int) < (raws.length : Int) := by omega
      have hi3 : (acc.length : Int) < 3 := by omega
      have hf : (acc.length + 1) * 24 ≤ 140737488355328 ∧ acc.length ≤ 9223372036854775806 := by omega
      have go := ih ⟨acc.length + 1, 90 + modI x 20, 90 + modI x 20 + modI y 12⟩ (MC_snoc hM ⟨rfl, by simp only; omega, by simp only; omega, by simp only; omega⟩) h1.2
      simp [L25_1, dR2, hi, hi3, hxy, e1, e2, w1, w2, w3, w4, rChain, hf, h1, List.getElem?_cons_zero, List.getElem?_cons_succ, -getElem?_pos] at go ⊢
      exact go
    · refine ⟨acc, ?_, hM, hp, hl⟩
      by_cases h2 : acc.length < raws.length
      · have h3 : ¬ acc.length < 3 := fun h => h1 ⟨h2, h⟩
        have hi : (acc.length : Int) < (raws.length : Int) := by omega
        have hi3 : ¬ (acc.length : Int) < 3 := by omega
        simp [L25_1, dR2, hi, hi3, hne0, hne, h2, h3]
      · have hi : ¬ (acc.length : Int) < (raws.length : Int) := by omega
        simp [L25_1, dR2, hi, hne0, hne, h2]

theorem l25b (n : Nat) (raws : List (Int × Int × Int)) (hr : raws.length ≤ 140737488355328) (R : Rr) (nc : Nat) (hnc : 1 ≤ nc ∧ nc ≤ 3) (u a1 a2 : D) :
    ∃ cl : List Cell, loopR [L25_8 (RP (n + 1)), L25_9 (RP (n + 1))] M0 0 [.d (il 0), .r R, .n nc, .n nc, .d a1, .d (dR3 raws), .d a2] = some (1, [.r (cl.map rCell), .r R, .n nc, .n nc, .n cl.length, .n cl.length, .d a1, .d (dR3 raws), .d a2]) ∧ MK nc cl ∧ 1 ≤ cl.length ∧ cl.length ≤ 10 := by
  refine loop_acc (α := Cell) (L25_8 (RP (n + 1))) (L25_9 (RP (n + 1))) [.d (il 0), .r R, .n nc, .n nc, .d a1, .d (dR3 raws), .d a2] (fun acc => [.d (il acc.length), .r (acc.map rCell), .r R, .n nc, .n nc, .n acc.length, .n acc.length, .d a1, .d (dR3 raws), .d a2]) 10 (MK nc)
    (fun o => ∃ cl : List Cell, o = some (1, [.r (cl.map rCell), .r R, .n nc, .n nc, .n cl.length, .n cl.length, .d a1, .d (dR3 raws), .d a2]) ∧ MK nc cl ∧ 1 ≤ cl.length ∧ cl.length ≤ 10) (by intro c h; simp at h) ?_ ?_ M0 (by decide)
  · intro k ih
    have hx : ∃ x y z, (if 0 < raws.length then raws[0]? else some (0, 0, 0)) = some (x, y, z) := by
      by_cases h : 0 < raws.length
      · rw [if_pos h]; exact ⟨raws[0].1, raws[0].2.1, raws[0].2.2, by simp [h]⟩
      · rw [if_neg h]; exact ⟨0, 0, 0, rfl⟩
    obtain ⟨x, y, z, hxy⟩ := hx
    have b1 := modI_bnd x (b := nc) (by omega)
    have b2 := modI_bnd y (b := 9) (by omega)
    have b3 := modI_bnd z (b := 12) (by omega)
    have w1 : IntKind.i64.wrap (1 + modI x nc) = 1 + modI x nc := wrap_id (by omega) (by omega)
    have w2 : IntKind.i64.wrap (1 + modI y 9) = 1 + modI y 9 := wrap_id (by omega) (by omega)
    have w4 : IntKind.i64.wrap (0 + 1) = 1 := rfl
    have e1 := s26 n x nc (by omega) (by omega)
    have e2 := s26 n y 9 (by omega) (by omega)
    have e3 := s26 n z 12 (by omega) (by omega)
    have go := ih ⟨1 + modI x nc, 1 + modI y 9, modI z 12⟩ (MK_snoc (cl := []) (by intro c h; simp at h) (by simp only; omega)) (by omega)
    cases raws with
    | nil =>
      simp at hxy
      obtain ⟨rfl, rfl, rfl⟩ := hxy
      simp [L25_8, dR3, e1, e2, e3, w1, w2, w4, rCell] at go ⊢
      exact go
    | cons p t =>
      simp at hxy
      subst hxy
      have h0 : (0 : Int) < (t.length : Int) + 1 := by omega
      simp [L25_8, dR3, e1, e2, e3, w1, w2, w4, rCell, h0] at go ⊢
      exact go
  · intro acc k hM hne hl ih
    have hp : 0 < acc.length := List.length_pos_iff.2 hne
    have hne0 : ¬ ((acc.length : Int) = 0) := by omega
    by_cases h1 : acc.length < raws.length ∧ acc.length < 10
    · obtain ⟨⟨x, y, z⟩, hxy⟩ : ∃ p, raws[acc.length]? = some p := ⟨raws[acc.length], by simp [h1.1]⟩
      have b1 := modI_bnd x (b := nc) (by omega)
      have b2 := modI_bnd y (b := 9) (by omega)
      have b3 := modI_bnd z (b := 12) (by omega)
      have w1 : IntKind.i64.wrap (1 + modI x nc) = 1 + modI x nc := wrap_id (by omega) (by omega)
      have w2 : IntKind.i64.wrap (1 + modI y 9) = 1 + modI y 9 := wrap_id (by omega) (by omega)
      have w4 : IntKind.i64.wrap ((acc.length : Int) + 1) = acc.length + 1 := wrap_id (by omega) (by omega)
      have e1 := s26 n x nc (by omega) (by omega)
      have e2 := s26 n y 9 (by omega) (by omega)
      have e3 := s26 n z 12 (by omega) (by omega)
      have hi : (acc.length : Int) < (raws.length : Int) := by omega
      have hi3 : (acc.length : Int) < 10 := by omega
      have hf : (acc.length + 1) * 24 ≤ 140737488355328 ∧ acc.length ≤ 9223372036854775806 := by omega
      have go := ih ⟨1 + modI x nc, 1 + modI y 9, modI z 12⟩ (MK_snoc hM (by simp only; omega)) h1.2
      simp [L25_9, dR3, hi, hi3, hxy, e1, e2, e3, w1, w2, w4, rCell, hf, h1, List.getElem?_cons_zero, List.getElem?_cons_succ, -getElem?_pos] at go ⊢
      exact go
    · refine ⟨acc, ?_, hM, hp, hl⟩
      by_cases h2 : acc.length < raws.length
      · have h3 : ¬ acc.length < 10 := fun h => h1 ⟨h2, h⟩
        have hi : (acc.length : Int) < (raws.length : Int) := by omega
        have hi3 : ¬ (acc.length : Int) < 10 := by omega
        simp [L25_9, dR3, hi, hi3, hne0, hne, h2, h3]
      · have hi : ¬ (acc.length : Int) < (raws.length : Int) := by omega
        simp [L25_9, dR3, hi, hne0, hne, h2]

theorem l25c (n : Nat) (raws : List (Int × Int × Int)) (hr : raws.length ≤ 140737488355328) (RK RC : Rr) (nc nk : Nat) (hnk : 1 ≤ nk ∧ nk ≤ 10) (u a1 a2 : D) :
    ∃ l : List Claim, loopR [L25_12 (RP (n + 1)), L25_13 (RP (n + 1))] M0 0 [.d (il 0), .r RK, .r RC, .n nc, .n nc, .n nk, .n nk, .d a1, .d a2, .d (dR3 raws)] = some (1, [.n l.length, .n l.length, .r RK, .r RC, .r (l.map rClaim), .n nc, .n nc, .n nk, .n nk]) ∧ ML nk l ∧ 1 ≤ l.length ∧ l.length ≤ 6 := by
  refine loop_acc (α := Claim) (L25_12 (RP (n + 1))) (L25_13 (RP (n + 1))) [.d (il 0), .r RK, .r RC, .n nc, .n nc, .n nk, .n nk, .d a1, .d a2, .d (dR3 raws)] (fun acc => [.n acc.length, .n acc.length, .d (il acc.length), .r RK, .r RC, .r (acc.map rClaim), .n nc, .n nc, .n nk, .n nk, .d a1, .d a2, .d (dR3 raws)]) 6 (ML nk)
    (fun o => ∃ l : List Claim, o = some (1, [.n l.length, .n l.length, .r RK, .r RC, .r (l.map rClaim), .n nc, .n nc, .n nk, .n nk]) ∧ ML nk l ∧ 1 ≤ l.length ∧ l.length ≤ 6) (by intro j c h; simp at h) ?_ ?_ M0 (by decide)
  · intro k ih
    have hx : ∃ x y z, (if 0 < raws.length then raws[0]? else some (0, 0, 0)) = some (x, y, z) := by
      by_cases h : 0 < raws.length
      · rw [if_pos h]; exact ⟨raws[0].1, raws[0].2.1, raws[0].2.2, by simp [h]⟩
      · rw [if_neg h]; exact ⟨0, 0, 0, rfl⟩
    obtain ⟨x, y, z, hxy⟩ := hx
    have b1 := modI_bnd x (b := 4) (by omega)
    have b2 := modI_bnd y (b := nk) (by omega)
    have b3 := modI_bnd z (b := nk - modI y nk) (by omega)
    have w1 : IntKind.i64.wrap (1 + modI x 4) = 1 + modI x 4 := wrap_id (by omega) (by omega)
    have w2 : IntKind.i64.wrap (nk - modI y nk) = nk - modI y nk := wrap_id (by omega) (by omega)
    have w3 : IntKind.i64.wrap (modI y nk + modI z (nk - modI y nk)) = modI y nk + modI z (nk - modI y nk) := wrap_id (by omega) (by omega)
    have w4 : IntKind.i64.wrap (0 + 1) = 1 := rfl
    have w5 : IntKind.i64.wrap (2 * 0) = 0 := rfl
    have w6 : IntKind.i64.wrap (3 + 0) = 3 := rfl
    have w7 : IntKind.i64.wrap 0 = 0 := rfl
    have w8 : IntKind.i64.wrap 3 = 3 := rfl
    have e1 := s26 n x 4 (by omega) (by omega)
    have e2 := s26 n y nk (by omega) (by omega)
    have e3 := s26 n z (nk - modI y nk) (by omega) (by omega)
    have go := ih ⟨3, 1 + modI x 4, modI y nk, modI y nk + modI z (nk - modI y nk)⟩ (ML_snoc (l := []) (by intro j c h; simp at h) (by simp only [List.length_nil]; omega)) (by omega)
    cases raws with
    | nil =>
      simp at hxy
      obtain ⟨rfl, rfl, rfl⟩ := hxy
      simp [L25_12, dR3, e1, e2, e3, w1, w2, w3, w4, w5, w6, w7, w8, rClaim] at go ⊢
      exact go
    | cons p t =>
      simp at hxy
      subst hxy
      have h0 : (0 : Int) < (t.length : Int) + 1 := by omega
      simp [L25_12, dR3, e1, e2, e3, w1, w2, w3, w4, w5, w6, w7, w8, rClaim, h0] at go ⊢
      exact go
  · intro acc k hM hne hl ih
    have hp : 0 < acc.length := List.length_pos_iff.2 hne
    have hne0 : ¬ ((acc.length : Int) = 0) := by omega
    by_cases h1 : acc.length < raws.length ∧ acc.length < 6
    · obtain ⟨⟨x, y, z⟩, hxy⟩ : ∃ p, raws[acc.length]? = some p := ⟨raws[acc.length], by simp [h1.1]⟩
      have b1 := modI_bnd x (b := 4) (by omega)
      have b2 := modI_bnd y (b := nk) (by omega)
      have b3 := modI_bnd z (b := nk - modI y nk) (by omega)
      have w1 : IntKind.i64.wrap (1 + modI x 4) = 1 + modI x 4 := wrap_id (by omega) (by omega)
      have w2 : IntKind.i64.wrap (nk - modI y nk) = nk - modI y nk := wrap_id (by omega) (by omega)
      have w3 : IntKind.i64.wrap (modI y nk + modI z (nk - modI y nk)) = modI y nk + modI z (nk - modI y nk) := wrap_id (by omega) (by omega)
      have w4 : IntKind.i64.wrap ((acc.length : Int) + 1) = acc.length + 1 := wrap_id (by omega) (by omega)
      have w5 : IntKind.i64.wrap (2 * (acc.length : Int)) = 2 * acc.length := wrap_id (by omega) (by omega)
      have w6 : IntKind.i64.wrap (3 + 2 * (acc.length : Int)) = 3 + 2 * acc.length := wrap_id (by omega) (by omega)
      have e1 := s26 n x 4 (by omega) (by omega)
      have e2 := s26 n y nk (by omega) (by omega)
      have e3 := s26 n z (nk - modI y nk) (by omega) (by omega)
      have hi : (acc.length : Int) < (raws.length : Int) := by omega
      have hi3 : (acc.length : Int) < 6 := by omega
      have hf : (acc.length + 1) * 32 ≤ 140737488355328 ∧ acc.length ≤ 9223372036854775806 := by omega
      have go := ih ⟨3 + 2 * acc.length, 1 + modI x 4, modI y nk, modI y nk + modI z (nk - modI y nk)⟩ (ML_snoc hM ⟨rfl, by simp only; omega, by simp only; omega, by simp only; omega, by simp only; omega, by simp only; omega⟩) h1.2
      simp [L25_13, dR3, hi, hi3, hxy, e1, e2, e3, w1, w2, w3, w4, w5, w6, rClaim, hf, h1, List.getElem?_cons_zero, List.getElem?_cons_succ, -getElem?_pos] at go ⊢
      exact go
    · refine ⟨acc, ?_, hM, hp, hl⟩
      by_cases h2 : acc.length < raws.length
      · have h3 : ¬ acc.length < 6 := fun h => h1 ⟨h2, h⟩
        have hi : (acc.length : Int) < (raws.length : Int) := by omega
        have hi3 : ¬ (acc.length : Int) < 6 := by omega
        simp [L25_13, dR3, hi, hi3, hne0, hne, h2, h3]
      · have hi : ¬ (acc.length : Int) < (raws.length : Int) := by omega
        simp [L25_13, dR3, hi, hne0, hne, h2]

/-- What Made hands back. -/
structure MadeOK (cs : List Chain) (cl : List Cell) (l : List Claim) : Prop where
  mc : MC cs
  lc : 1 ≤ cs.length ∧ cs.length ≤ 3
  mkk : MK cs.length cl
  lk : 1 ≤ cl.length ∧ cl.length ≤ 10
  ml : ML cl.length l
  ll : 1 ≤ l.length ∧ l.length ≤ 6
theorem s25 (n : Nat) (r1 : List (Int × Int)) (r2 r3 : List (Int × Int × Int)) (h1 : r1.length ≤ 140737488355328) (h2 : r2.length ≤ 140737488355328) (h3 : r3.length ≤ 140737488355328) :
    ∃ cs cl l, FN (n + 2) 25 [dR2 r1, dR3 r2, dR3 r3] = some (0, [.d (dChains cs), .r (cl.map rCell), .d (dClaims l)]) ∧ MadeOK cs cl l := by
  obtain ⟨cs, e1, m1, c1, c2⟩ := l25a n r1 h1 (dR3 r2) (dR3 r3)
  obtain ⟨cl, e2, m2, k1, k2⟩ := l25b n r2 h2 (cs.map rChain) cs.length ⟨c1, c2⟩ (il 0) (dR2 r1) (dR3 r3)
  obtain ⟨l, e3, m3, q1, q2⟩ := l25c n r3 h3 (cl.map rCell) (cs.map rChain) cs.length cl.length ⟨k1, k2⟩ (il 0) (dR2 r1) (dR3 r2)
  refine ⟨cs, cl, l, ?_, m1, ⟨c1, c2⟩, m2, ⟨k1, k2⟩, m3, ⟨q1, q2⟩⟩
  rw [F25]
  simp only [G25, r_loop, r_liti, e1, r_bnd1, r_lr0, r_lrs, r_ln0, r_lns, r_ld0, r_lds, e2, e3]
  simp [dChains, dClaims]
  refine ⟨?_, ?_, ?_⟩ <;> exact List.take_of_length_le (by simp)
end Go.VE
/- What is made is valid; the law DriftTurns. -/
namespace Go.VE
open Go.RowKit Go.Proofs
set_option maxRecDepth 100000

theorem okC_of : ∀ (cs : List Chain) (i : Nat) (p : Option Int), (∀ (j : Nat) c, cs[j]? = some c → c.id = (i : Int) + j + 1 ∧ 90 ≤ c.lo ∧ c.lo ≤ c.hi ∧ c.hi ≤ 121) → i + cs.length ≤ 99 → (∀ q, p = some q → q ≤ i) → okChains p cs = true
  | [], i, p, _, _, _ => rfl
  | c :: cs, i, p, h, hl, hp => by
    have hc := h 0 c rfl
    simp only [okChains, Bool.and_eq_true]
    simp only [List.length_cons] at hl
    refine ⟨⟨?_, ?_⟩, okC_of cs (i + 1) (some c.id) (fun j d hd => ?_) (by omega) (fun q hq => ?_)⟩
    · simp only [vChain, decide_eq_true_eq]; omega
    · cases p with
      | none => rfl
      | some q => have := hp q rfl; simp only [ltO, decide_eq_true_eq]; omega
    · have := h (j + 1) d (by simpa using hd); omega
    · cases hq; omega
theorem findC_some {x : Int} : ∀ {cs : List Chain} {i : Nat}, (∃ c ∈ cs, c.id = x) → (findC x cs i).isSome = true
  | [], i, ⟨c, hc, _⟩ => by cases hc
  | d :: cs, i, ⟨c, hc, hx⟩ => by
    simp only [findC]
    split
    · rfl
    · rename_i hne
      rcases List.mem_cons.1 hc with rfl | hc
      · exact absurd hx hne
      · exact findC_some ⟨c, hc, hx⟩
theorem okK_of {cs : List Chain} : ∀ {cl : List Cell}, (∀ c ∈ cl, vCell c.chain c.links c.worth = true ∧ (findC c.chain cs 0).isSome = true) → okCells cs cl = true
  | [], _ => rfl
  | c :: cl, h => by
    simp only [okCells, Bool.and_eq_true]
    exact ⟨h c (by simp), okK_of fun c hc => h c (by simp [hc])⟩
theorem findF_mem {f : Int} : ∀ {l : List Claim} {i : Nat}, (findF f l i).isSome = true → ∃ c ∈ l, c.family = f
  | [], i, h => by cases h
  | c :: l, i, h => by
    simp only [findF] at h
    split at h
    · rename_i hc; exact ⟨c, by simp, hc⟩
    · obtain ⟨d, hd, e⟩ := findF_mem h; exact ⟨d, by simp [hd], e⟩
theorem okL_of (nk : Nat) : ∀ (l pre : List Claim), (∀ c ∈ l, vClaim c.family c.heads c.from_ c.to = true ∧ c.to < nk) → ((pre ++ l).map (·.family)).Nodup → okClaims nk pre l = true
  | [], pre, _, _ => rfl
  | c :: l, pre, h, hn => by
    simp only [okClaims, Bool.and_eq_true, decide_eq_true_eq]
    have hc := h c (by simp)
    refine ⟨⟨⟨hc.1, ?_⟩, hc.2⟩, okL_of nk l (pre ++ [c]) (fun c hc => h c (by simp [hc])) (by simpa using hn)⟩
    cases hf : (findF c.family pre 0).isSome with
    | false => rfl
    | true =>
      obtain ⟨d, hd, e⟩ := findF_mem hf
      simp only [List.map_append, List.map_cons, List.nodup_append] at hn
      exact absurd e (hn.2.2 d.family (List.mem_map.2 ⟨d, hd, rfl⟩) c.family (by simp))
theorem made_ground {cs : List Chain} {cl : List Cell} {l : List Claim} (h : MadeOK cs cl l) : okGround cs cl = true := by
  simp only [okGround, Bool.and_eq_true, decide_eq_true_eq]
  have hc := h.lc; have hk := h.lk
  refine ⟨⟨by omega, okC_of cs 0 none (fun j c hj => ?_) (by omega) (fun q hq => by cases hq)⟩, okK_of fun c hc => ?_⟩
  · have := h.mc j c hj; omega
  · have hb := h.mkk c hc
    refine ⟨by simp only [vCell, decide_eq_true_eq]; omega, findC_some ?_⟩
    have hlt : (c.chain - 1).toNat < cs.length := by omega
    refine ⟨cs[(c.chain - 1).toNat], List.getElem_mem hlt, ?_⟩
    have := h.mc _ _ (List.getElem?_eq_getElem hlt)
    omega
theorem ML_nodup {nk : Nat} {l : List Claim} (h : ML nk l) : (l.map (·.family)).Nodup := by
  unfold List.Nodup
  rw [List.pairwise_iff_getElem]
  intro i j hi hj hij
  simp only [List.length_map] at hi hj
  simp only [List.getElem_map]
  have h1 := h i _ (List.getElem?_eq_getElem hi)
  have h2 := h j _ (List.getElem?_eq_getElem hj)
  omega
theorem made_ok {cs : List Chain} {cl : List Cell} {l : List Claim} (h : MadeOK cs cl l) : cOK cs cl l = 0 := by
  have hl := h.ll; have hk := h.lk
  have e : okClaims cl.length [] l = true := okL_of _ l [] (fun c hc => by
    obtain ⟨j, hj⟩ := List.getElem?_of_mem hc
    have := h.ml j c hj
    have hlt := (List.getElem?_eq_some_iff.1 hj).1
    refine ⟨by simp only [vClaim, decide_eq_true_eq]; omega, by omega⟩) (by simpa using ML_nodup h.ml)
  simp [cOK, made_ground h, e]
  omega

/-! ### turning -/
end Go.VE
/- The drifts that end as early as they can. -/
namespace Go.VE
open Go.RowKit Go.Proofs
set_option maxRecDepth 100000

theorem seg_worth {cl : List Cell} (h : okWorth cl) (a b : Int) : 0 ≤ worthV cl a b ∧ worthV cl a b ≤ 240000 := by
  have key : ∀ (l : List Cell), (∀ c ∈ l, 0 ≤ c.worth ∧ c.worth ≤ 10000) → 0 ≤ (l.map Cell.worth).sum ∧ (l.map Cell.worth).sum ≤ 10000 * l.length := by
    intro l
    induction l with
    | nil => intro _; simp
    | cons c l ih =>
      intro hc
      have h1 := hc c (by simp)
      have h2 := ih fun c h => hc c (by simp [h])
      simp only [List.map_cons, List.sum_cons, List.length_cons]
      omega
  have h1 := key (seg cl a b) fun c hc => h.2 c (seg_mem hc)
  have h2 := seg_len cl a b
  have h3 := h.1
  unfold worthV
  omega

/-- The first end of a drift with which a claim is content. -/
def ltry (P : Claim → Int → Bool) (cl : List Cell) (c : Claim) (fr : Int) : Nat → Int → Option Int
  | 0, _ => none
  | n + 1, to => if to ≤ c.to ∧ to < cl.length then (if P c (worthV cl fr to) then some to else ltry P cl c fr n (to + 1)) else none
def ltr (P : Claim → Int → Bool) (cl : List Cell) (c : Claim) (fr to : Int) : Option Int := ltry P cl c fr ((cl.length : Int) - to).toNat to
theorem ltr_in {P : Claim → Int → Bool} {cl : List Cell} {c : Claim} {fr to : Int} (h : to ≤ c.to ∧ to < cl.length) : ltr P cl c fr to = if P c (worthV cl fr to) then some to else ltr P cl c fr (to + 1) := by
  unfold ltr
  rw [show ((cl.length : Int) - to).toNat = ((cl.length : Int) - (to + 1)).toNat + 1 by omega, ltry, if_pos h]
theorem ltr_out {P : Claim → Int → Bool} {cl : List Cell} {c : Claim} {fr to : Int} (h : ¬ (to ≤ c.to ∧ to < cl.length)) : ltr P cl c fr to = none := by
  unfold ltr
  cases ((cl.length : Int) - to).toNat with
  | zero => rfl
  | succ n => rw [ltry, if_neg h]
/-- The drifts of the first claims, where each may begin, and whether all have one. -/
def grd (P : Claim → Int → Bool) (cl : List Cell) : List Claim → Int → List Drift → List Int → List Drift × List Int × Bool
  | [], _, ds, ss => (ds, ss, true)
  | c :: r, a, ds, ss => match ltr P cl c (max a c.from_) (max a c.from_) with
    | some t => grd P cl r (t + 1) (ds ++ [⟨max a c.from_, t⟩]) (ss ++ [a])
    | none => (ds, ss ++ [a], false)

/-- What a function value answers of a claim and a worth. -/
def ContOK (FnD : D → List Sh → List D → Out) (cont : D) (P : Claim → Int → Bool) : Prop :=
  ∀ (c : Claim) (w : Int), vClaim c.family c.heads c.from_ c.to = true → 0 ≤ w → w ≤ 240000 → FnD cont [.agg 4, .one] [il c.family, il c.heads, il c.from_, il c.to, il w] = some (0, [.d (bl (P c w))])

theorem l74_1 (n : Nat) (P : Claim → Int → Bool) (cont : D) (cl : List Cell) (c : Claim) (fr : Int) (a b : Nat) (u8 u19 u20 ch cls : D) (R9 R10 : Rr) (hc : okWorth cl) (hfr : 0 ≤ fr ∧ fr ≤ 100) (hv : vClaim c.family c.heads c.from_ c.to = true)
    (hco : ContOK (FnDof (cf3 tb Try.prog) (FN (n + 2))) cont P) (to : Int) (hto : 0 ≤ to ∧ to ≤ 100) :
    loopR [L74_1 (RP (n + 2))] M0 0 [.d (il to), .d (bl false), .d (il c.family), .d (il c.heads), .d (il c.from_), .d (il c.to), .n a, .n b, .d u8, .r R9, .r R10, .d (il c.family), .d (il c.heads), .d (il c.from_), .d (il c.to), .d cont, .d ch, .d (dCells cl), .d cls, .d u19, .d u20, .d (il fr), .d (il c.family), .d (il c.heads), .d (il c.from_), .d (il c.to), .d ch, .d (dCells cl), .d cls] =
    match ltr P cl c fr to with
    | some t => some (1, [.r [[il fr, il t]], .d (bl true), .d (il c.family), .d (il c.heads), .d (il c.from_), .d (il c.to), .n 1, .n 1, .n a, .n b, .d u8, .r R9, .r R10, .d (il c.family), .d (il c.heads), .d (il c.from_), .d (il c.to), .d cont, .d ch, .d (dCells cl), .d cls, .d (il (t + 1)), .d u20, .d (il fr), .d (il c.family), .d (il c.heads), .d (il c.from_), .d (il c.to), .d ch, .d (dCells cl), .d cls])
    | none => some (2, [.d (bl false), .d (il c.family), .d (il c.heads), .d (il c.from_), .d (il c.to), .n a, .n b, .d u8, .r R9, .r R10, .d (il c.family), .d (il c.heads), .d (il c.from_), .d (il c.to), .d cont, .d ch, .d (dCells cl), .d cls, .d u19, .d u20, .d (il fr), .d (il c.family), .d (il c.heads), .d (il c.from_), .d (il c.to), .d ch, .d (dCells cl), .d cls]) := by
  refine loop_ms (σ := Int) [L74_1 (RP (n + 2))]
    (fun to => (0, [.d (il to), .d (bl false), .d (il c.family), .d (il c.heads), .d (il c.from_), .d (il c.to), .n a, .n b, .d u8, .r R9, .r R10, .d (il c.family), .d (il c.heads), .d (il c.from_), .d (il c.to), .d cont, .d ch, .d (dCells cl), .d cls, .d u19, .d u20, .d (il fr), .d (il c.family), .d (il c.heads), .d (il c.from_), .d (il c.to), .d ch, .d (dCells cl), .d cls]))
    (fun to => ((cl.length : Int) - to).toNat) (fun to => 0 ≤ to ∧ to ≤ 100)
    (fun to => match ltr P cl c fr to with
    | some t => some (1, [.r [[il fr, il t]], .d (bl true), .d (il c.family), .d (il c.heads), .d (il c.from_), .d (il c.to), .n 1, .n 1, .n a, .n b, .d u8, .r R9, .r R10, .d (il c.family), .d (il c.heads), .d (il c.from_), .d (il c.to), .d cont, .d ch, .d (dCells cl), .d cls, .d (il (t + 1)), .d u20, .d (il fr), .d (il c.family), .d (il c.heads), .d (il c.from_), .d (il c.to), .d ch, .d (dCells cl), .d cls])
    | none => some (2, [.d (bl false), .d (il c.family), .d (il c.heads), .d (il c.from_), .d (il c.to), .n a, .n b, .d u8, .r R9, .r R10, .d (il c.family), .d (il c.heads), .d (il c.from_), .d (il c.to), .d cont, .d ch, .d (dCells cl), .d cls, .d u19, .d u20, .d (il fr), .d (il c.family), .d (il c.heads), .d (il c.from_), .d (il c.to), .d ch, .d (dCells cl), .d cls])) ?_ M0 to hto (M0_big (by have := hc.1; omega))
  intro to k hI ih
  refine ⟨_, rfl, ?_⟩
  have hcl := hc.1
  by_cases h : to ≤ c.to ∧ to < cl.length
  · have hw := wrap_id (x := to + 1) (by omega) (by omega)
    have e81 := s81 n cl fr to ch hc (by omega) (by omega)
    have hb := seg_worth hc fr to
    have e := hco c (worthV cl fr to) hv hb.1 hb.2
    have ih' := ih (to + 1) (by omega) (by omega)
    rw [ltr_in h]
    simp only [dCells] at e81 ih' ⊢
    simp [L74_1, h.1, h.2, e81, e, hw]
    cases hP : P c (worthV cl fr to) with
    | true => simp [hw]
    | false => simp; exact ih'
  · rw [ltr_out h]
    by_cases h1 : to ≤ c.to
    · have h2 : ¬ to < cl.length := fun h2 => h ⟨h1, h2⟩
      simp [L74_1, dCells, h1, h2]
    · simp [L74_1, h1]

theorem l74_8 (n : Nat) (P : Claim → Int → Bool) (cont : D) (cl : List Cell) (c : Claim) (fr : Int) (a b : Nat) (u10 u22 u23 ch cls : D) (R11 R12 : Rr) (ds : List Drift) (hds : ds.length ≤ 100) (hc : okWorth cl) (hfr : 0 ≤ fr ∧ fr ≤ 100) (hv : vClaim c.family c.heads c.from_ c.to = true)
    (hco : ContOK (FnDof (cf3 tb Try.prog) (FN (n + 2))) cont P) (to : Int) (hto : 0 ≤ to ∧ to ≤ 100) :
    loopR [L74_8 (RP (n + 2))] M0 0 [.d (il to), .d (bl false), .d (il c.family), .d (il c.heads), .d (il c.from_), .d (il c.to), .n ds.length, .n ds.length, .n a, .n b, .d u10, .r R11, .r R12, .d (il c.family), .d (il c.heads), .d (il c.from_), .d (il c.to), .r (ds.map rDrift), .d cont, .d ch, .d (dCells cl), .d cls, .d u22, .d u23, .d (il fr), .d (il c.family), .d (il c.heads), .d (il c.from_), .d (il c.to), .d ch, .d (dCells cl), .d cls] =
    match ltr P cl c fr to with
    | some t => some (0, [.d (bl true), .d (il c.family), .d (il c.heads), .d (il c.from_), .d (il c.to), .n (ds.length + 1), .n (ds.length + 1), .n a, .n b, .d u10, .r R11, .r R12, .d (il c.family), .d (il c.heads), .d (il c.from_), .d (il c.to), .r ((ds ++ [(⟨fr, t⟩ : Drift)]).map rDrift), .d cont, .d ch, .d (dCells cl), .d cls, .d (il (t + 1)), .d u23, .d (il fr), .d (il c.family), .d (il c.heads), .d (il c.from_), .d (il c.to), .d ch, .d (dCells cl), .d cls])
    | none => some (1, [.d (bl false), .d (il c.family), .d (il c.heads), .d (il c.from_), .d (il c.to), .n ds.length, .n ds.length, .n a, .n b, .d u10, .r R11, .r R12, .d (il c.family), .d (il c.heads), .d (il c.from_), .d (il c.to), .r (ds.map rDrift), .d cont, .d ch, .d (dCells cl), .d cls, .d u22, .d u23, .d (il fr), .d (il c.family), .d (il c.heads), .d (il c.from_), .d (il c.to), .d ch, .d (dCells cl), .d cls]) := by
  refine loop_ms (σ := Int) [L74_8 (RP (n + 2))]
    (fun to => (0, [.d (il to), .d (bl false), .d (il c.family), .d (il c.heads), .d (il c.from_), .d (il c.to), .n ds.length, .n ds.length, .n a, .n b, .d u10, .r R11, .r R12, .d (il c.family), .d (il c.heads), .d (il c.from_), .d (il c.to), .r (ds.map rDrift), .d cont, .d ch, .d (dCells cl), .d cls, .d u22, .d u23, .d (il fr), .d (il c.family), .d (il c.heads), .d (il c.from_), .d (il c.to), .d ch, .d (dCells cl), .d cls]))
    (fun to => ((cl.length : Int) - to).toNat) (fun to => 0 ≤ to ∧ to ≤ 100)
    (fun to => match ltr P cl c fr to with
    | some t => some (0, [.d (bl true), .d (il c.family), .d (il c.heads), .d (il c.from_), .d (il c.to), .n (ds.length + 1), .n (ds.length + 1), .n a, .n b, .d u10, .r R11, .r R12, .d (il c.family), .d (il c.heads), .d (il c.from_), .d (il c.to), .r ((ds ++ [(⟨fr, t⟩ : Drift)]).map rDrift), .d cont, .d ch, .d (dCells cl), .d cls, .d (il (t + 1)), .d u23, .d (il fr), .d (il c.family), .d (il c.heads), .d (il c.from_), .d (il c.to), .d ch, .d (dCells cl), .d cls])
    | none => some (1, [.d (bl false), .d (il c.family), .d (il c.heads), .d (il c.from_), .d (il c.to), .n ds.length, .n ds.length, .n a, .n b, .d u10, .r R11, .r R12, .d (il c.family), .d (il c.heads), .d (il c.from_), .d (il c.to), .r (ds.map rDrift), .d cont, .d ch, .d (dCells cl), .d cls, .d u22, .d u23, .d (il fr), .d (il c.family), .d (il c.heads), .d (il c.from_), .d (il c.to), .d ch, .d (dCells cl), .d cls])) ?_ M0 to hto (M0_big (by have := hc.1; omega))
  intro to k hI ih
  refine ⟨_, rfl, ?_⟩
  have hcl := hc.1
  by_cases h : to ≤ c.to ∧ to < cl.length
  · have hw := wrap_id (x := to + 1) (by omega) (by omega)
    have e81 := s81 n cl fr to ch hc (by omega) (by omega)
    have hb := seg_worth hc fr to
    have e := hco c (worthV cl fr to) hv hb.1 hb.2
    have ih' := ih (to + 1) (by omega) (by omega)
    have hf : (ds.length + 1) * 16 ≤ 140737488355328 ∧ ds.length ≤ 9223372036854775806 := by omega
    rw [ltr_in h]
    simp only [dCells] at e81 ih' ⊢
    simp [L74_8, h.1, h.2, e81, e, hw, hf]
    cases hP : P c (worthV cl fr to) with
    | true => simp [hw, rDrift]
    | false => simp; simpa using ih'
  · rw [ltr_out h]
    by_cases h1 : to ≤ c.to
    · have h2 : ¬ to < cl.length := fun h2 => h ⟨h1, h2⟩
      simp [L74_8, dCells, h1, h2]
    · simp [L74_8, h1]

def resG (p : List Drift × List Int × Bool) : Out := match p.2.2, p.1 with
  | false, [] => some (3, [.r (rI p.2.1), .n p.2.1.length, .n p.2.1.length, .d (bl false)])
  | false, d :: r => some (4, [.r (rI p.2.1), .r ((d :: r).map rDrift), .n (d :: r).length, .n (d :: r).length, .n p.2.1.length, .n p.2.1.length, .d (bl false)])
  | true, ds => some (7, [.r (rI p.2.1), .r (ds.map rDrift), .n ds.length, .n ds.length, .n p.2.1.length, .n p.2.1.length, .d (bl false), .d (bl false)])
theorem ltr_bnd {P : Claim → Int → Bool} {cl : List Cell} {c : Claim} {fr : Int} : ∀ (n : Nat) {to t : Int}, ltry P cl c fr n to = some t → to ≤ t ∧ t ≤ c.to ∧ t < cl.length ∧ P c (worthV cl fr t) = true
  | 0, _, _, h => by cases h
  | n + 1, to, t, h => by
    simp only [ltry] at h
    split at h
    · rename_i hb
      split at h
      · rename_i hp; cases h; exact ⟨by omega, hb.1, hb.2, hp⟩
      · have := ltr_bnd n h; exact ⟨by omega, this.2⟩
    · cases h

theorem l74 (n : Nat) (P : Claim → Int → Bool) (cont : D) (cs : D) (cl : List Cell) (l : List Claim) (hc : okWorth cl) (hv : ∀ c ∈ l, vClaim c.family c.heads c.from_ c.to = true) (hl : 1 ≤ l.length ∧ l.length ≤ 12)
    (hco : ContOK (FnDof (cf3 tb Try.prog) (FN (n + 2))) cont P) :
    loopR [L74_2 (RP (n + 2)), L74_5 (RP (n + 2)), L74_7 (RP (n + 2)), L74_9 (RP (n + 2))] M0 0 [.d (dClaims l), .d (il l.length), .d (il 0), .d cont, .d cs, .d (dCells cl), .d (dClaims l), .d (il 0), .d (bl false), .d (bl false)] = resG (grd P cl l 0 [] []) := by
  have := loop_ms (σ := Nat × List Drift × List Int × Int) [L74_2 (RP (n + 2)), L74_5 (RP (n + 2)), L74_7 (RP (n + 2)), L74_9 (RP (n + 2))]
    (fun s => match s.1 with
      | 0 => (0, [.d (dClaims l), .d (il l.length), .d (il 0), .d cont, .d cs, .d (dCells cl), .d (dClaims l), .d (il 0), .d (bl false), .d (bl false)])
      | i + 1 => (3, [.d (dClaims l), .d (il l.length), .d (il ((i : Int) + 1)), .r (rI s.2.2.1), .r (s.2.1.map rDrift), .d cont, .d cs, .d (dCells cl), .d (dClaims l), .d (il s.2.2.2), .n s.2.1.length, .n s.2.1.length, .n s.2.2.1.length, .n s.2.2.1.length, .d (bl false), .d (bl false)]))
    (fun s => l.length - s.1) (fun s => s.1 ≤ l.length ∧ s.2.1.length = s.1 ∧ s.2.2.1.length = s.1 ∧ 0 ≤ s.2.2.2 ∧ s.2.2.2 ≤ 50 ∧ (s.1 = 0 → s.2.2.2 = 0))
    (fun s => resG (grd P cl (l.drop s.1) s.2.2.2 s.2.1 s.2.2.1)) ?_ M0 (0, [], [], 0) (by simp) (M0_big (by simp only; omega))
  · simpa using this
  · rintro ⟨i, ds, ss, a⟩ k ⟨hi, h1, h2, h3, h4, h5⟩ ih
    simp only at hi h1 h2 h3 h4 h5
    have hcl := hc.1
    cases i with
    | zero =>
      have ha := h5 rfl
      subst ha
      have hds : ds = [] := List.length_eq_zero_iff.1 h1
      have hss : ss = [] := List.length_eq_zero_iff.1 h2
      subst hds hss
      refine ⟨_, rfl, ?_⟩
      obtain ⟨c, r, rfl⟩ : ∃ c r, l = c :: r := by
        cases l with
        | nil => simp at hl
        | cons c r => exact ⟨c, r, rfl⟩
      have hvc := hv c (by simp)
      have hvc' := hvc
      simp only [vClaim, decide_eq_true_eq] at hvc'
      have e := l74_1 n P cont cl c (max 0 c.from_) 1 1 (bl false) (il 0) (bl false) cs (dClaims (c :: r)) (rI [0]) (rI [0]) hc (by omega) hvc hco (max 0 c.from_) (by omega)
      have hlen : (0 : Int) < (r.length : Int) + 1 := by omega
      simp only [dClaims, List.map_cons, rClaim, rI, List.map_nil, dCells] at e
      simp only [List.drop_zero, grd]
      simp [L74_2, dClaims, hlen, rClaim, dCells]
      rw [e]
      cases hlt : ltr P cl c (max 0 c.from_) (max 0 c.from_) with
      | none => simp [resG, rI]
      | some t =>
        have hb := ltr_bnd _ hlt
        have ih' := ih (1, [⟨max 0 c.from_, t⟩], [0], t + 1) ⟨by simp, rfl, rfl, by simp only; omega, by simp only; omega, fun h => by cases h⟩ (by simp)
        simp only [dClaims, List.map_cons, rClaim, rI, List.map_nil, dCells, List.drop_succ_cons, List.drop_zero, rDrift, List.length_cons, List.length_nil] at ih'
        have w1 : IntKind.i64.wrap 1 = 1 := rfl
        simp [w1]
        simpa using ih'
    | succ i =>
      refine ⟨L74_9 (RP (n + 2)), rfl, ?_⟩
      by_cases hlt : i + 1 < l.length
      · have hd := List.drop_eq_getElem_cons hlt
        have hcc : l[i + 1]? = some l[i + 1] := by simp [hlt]
        generalize l[i + 1] = c at hd hcc
        have hvc := hv c (List.mem_of_getElem? hcc)
        have hvc' := hvc
        simp only [vClaim, decide_eq_true_eq] at hvc'
        have hw := wrap_id (x := (i : Int) + 1 + 1) (by omega) (by omega)
        have e := l74_8 n P cont cl c (max a c.from_) (ss.length + 1) (ss.length + 1) (bl false) (il a) (bl false) cs (dClaims l) (rI (ss ++ [a])) (rI [a]) ds (by omega) hc (by omega) hvc hco (max a c.from_) (by omega)
        have hi2 : (i : Int) + 1 < (l.length : Int) := by omega
        have hf : (ss.length + 1) * 8 ≤ 140737488355328 ∧ ss.length ≤ 9223372036854775806 := by omega
        simp only [dClaims, rI, List.map_append, List.map_cons, List.map_nil, dCells] at e
        rw [hd]
        simp only [grd]
        have ht : ((i : Int) + 1).toNat = i + 1 := by omega
        have hi0 : (0 : Int) ≤ (i : Int) + 1 := by omega
        simp [L74_9, dClaims, dCells, hi2, ht, hi0, hcc, rClaim, rI, hf, List.getElem?_cons_zero, List.getElem?_cons_succ, -getElem?_pos]
        rw [e]
        cases hltr : ltr P cl c (max a c.from_) (max a c.from_) with
        | none =>
          cases ds with
          | nil => simp at h1
          | cons d r => simp [resG, rI]
        | some t =>
          have hb := ltr_bnd _ hltr
          have ih' := ih (i + 1 + 1, ds ++ [⟨max a c.from_, t⟩], ss ++ [a], t + 1) (by simp only [List.length_append, List.length_singleton]; omega) (by simp only; omega)
          simp only [dClaims, List.map_append, List.map_cons, rClaim, rI, List.map_nil, dCells, rDrift, List.length_append, List.length_cons, List.length_nil] at ih'
          simp [hw, rDrift]
          simpa using ih'
      · have hd : l.drop (i + 1) = [] := by simp; omega
        have hi2 : ¬ (i : Int) + 1 < (l.length : Int) := by omega
        rw [hd]
        simp [L74_9, grd, resG, hi2]
end Go.VE
/- Gains, the poorest one, contents. -/
namespace Go.VE
open Go.RowKit Go.Proofs
set_option maxRecDepth 100000

theorem s67 (n : Nat) (cs : List Chain) (cl : List Cell) (l : List Claim) : FN (n + 5) 67 [dChains cs, dCells cl, dClaims l] = some (0, [.d (if cOK cs cl l = 0 then .dp [dChains cs, dCells cl, dClaims l] 0 else .lit (.pointer none)), .d (il (cOK cs cl l))]) := by
  rw [F67]
  simp only [G67, r_call, s17, r_bnd0, r_ld0, r_liti, r_neq, r_cond, r_out, r_dpD]
  by_cases h : cOK cs cl l = 0
  · simp [h]
  · simp [h]; rfl

def anyP : Claim → Int → Bool := fun _ _ => true
def aboveP (g : Int × Int) : Claim → Int → Bool := fun c w => decide (g.1 * c.heads < w * g.2)
theorem c75 (n : Nat) : ContOK (FnDof (cf3 tb Try.prog) (FN (n + 1))) (.fn 75 []) anyP := by
  intro c w _ _ _
  have e : FN (n + 1) 75 [il c.family, il c.heads, il c.from_, il c.to, il w] = some (0, [.d (bl true)]) := by
    rw [F75]; simp [G75]
  simp [FnDof, vdsOf, flatV, cf3, tb, ashT, rskT, isOneD, e, D.isLit, bl, anyP]
theorem c105 (n : Nat) (g : Int × Int) (hg : 0 ≤ g.1 ∧ g.1 ≤ 1000000 ∧ 0 ≤ g.2 ∧ g.2 ≤ 1000000) : ContOK (FnDof (cf3 tb Try.prog) (FN (n + 4))) (.fn 105 [.dp [il g.1, il g.2] 0]) (aboveP g) := by
  intro c w hv hw0 hw
  simp only [vClaim, decide_eq_true_eq] at hv
  have e : FN (n + 4) 105 [il c.family, il c.heads, il c.from_, il c.to, il w, il g.1, il g.2] = some (0, [.d (bl (aboveP g c w))]) := by
    rw [F105]
    have e70 := s70 n w c.heads g.1 g.2 (by omega) (by omega) (by omega) (by omega)
    simp only [G105, r_call, e70, r_bnd0, r_ld0, r_liti, r_gtr, r_out, aboveP]
    congr 5
    unfold cmpI
    by_cases h1 : w * g.2 < g.1 * c.heads
    · have : ¬ g.1 * c.heads < w * g.2 := by omega
      simp [h1, this]
    · by_cases h2 : g.1 * c.heads < w * g.2
      · simp [h1, h2]
      · simp [h1, h2]
  simp [FnDof, vdsOf, flatV, cf3, tb, ashT, rskT, isOneD, e, D.isLit, bl]
theorem s92 (n : Nat) (a b : Int) : FN (n + 1) 92 [il a, il b] = some (0, [.d (.fn 105 [.dp [il a, il b] 0])]) := by
  rw [F92]; simp [G92]

/-! ### lowest terms -/
def lowI (a b : Int) : Int × Int := (a / (Int.gcd a b : Int), b / (Int.gcd a b : Int))
theorem l101 (n : Nat) (x y u v : D) : ∀ (a b : Nat), a ≤ 1000000000 → b ≤ 1000000000 →
    loopR [L101_0 (RP n)] M0 0 [.d x, .d y, .d (il a), .d (il b), .d u, .d v] = some (0, [.d x, .d y, .d (il (Nat.gcd a b)), .d u, .d v]) := by
  intro a b ha hb
  refine loop_ms (σ := Nat × Nat) [L101_0 (RP n)] (fun s => (0, [.d x, .d y, .d (il s.1), .d (il s.2), .d u, .d v])) (fun s => s.2) (fun s => s.1 ≤ 1000000000 ∧ s.2 ≤ 1000000000) (fun s => some (0, [.d x, .d y, .d (il (Nat.gcd s.1 s.2)), .d u, .d v])) ?_ M0 (a, b) ⟨ha, hb⟩ (M0_big (by simp only; omega))
  rintro ⟨a, b⟩ k ⟨ha, hb⟩ ih
  refine ⟨_, rfl, ?_⟩
  simp only at ha hb
  by_cases h : b = 0
  · subst h; simp [L101_0]
  · have hbi : ¬ (b : Int) = 0 := by omega
    have hm : (a : Int).tmod (b : Int) = ((a % b : Nat) : Int) := by rw [Int.tmod_eq_emod_of_nonneg (by omega)]; simp
    have hlt := Nat.mod_lt a (show b > 0 by omega)
    have ih' := ih (b, a % b) ⟨hb, by simp only; omega⟩ hlt
    simp only [L101_0, r_ld0, r_lds, r_liti, r_neq, r_cond, ne_eq, hbi, not_false_eq_true, decide_true, if_true]
    rw [r_rem _ _ _ _ hbi, hm]
    simp only at ih'
    rw [ih', Nat.gcd_comm b, ← Nat.gcd_rec, Nat.gcd_comm]
theorem s101 (n : Nat) (a b : Int) (ha : 0 ≤ a ∧ a ≤ 1000000000) (hb : 1 ≤ b ∧ b ≤ 1000000000) : FN (n + 1) 101 [il a, il b] = some (0, [.d (il (lowI a b).1), .d (il (lowI a b).2)]) := by
  rw [F101]
  have e := l101 n (il a) (il b) (il 0) (il 0) a.toNat b.toNat (by omega) (by omega)
  rw [show ((a.toNat : Nat) : Int) = a by omega, show ((b.toNat : Nat) : Int) = b by omega] at e
  have hg : Nat.gcd a.toNat b.toNat = Int.gcd a b := by
    unfold Int.gcd
    rw [show a.natAbs = a.toNat by omega, show b.natAbs = b.toNat by omega]
  rw [hg] at e
  have hg0 : 0 < Int.gcd a b := Int.gcd_pos_of_ne_zero_right _ (by omega)
  have hgi : ¬ ((Int.gcd a b : Nat) : Int) = 0 := by omega
  have q1 : a.tdiv (Int.gcd a b) = a / (Int.gcd a b : Int) := Int.tdiv_eq_ediv_of_nonneg ha.1
  have q2 : b.tdiv (Int.gcd a b) = b / (Int.gcd a b : Int) := Int.tdiv_eq_ediv_of_nonneg (by omega)
  have b1 : a / (Int.gcd a b : Int) ≤ a := Int.ediv_le_self _ ha.1
  have b2 : b / (Int.gcd a b : Int) ≤ b := Int.ediv_le_self _ (by omega)
  have p1 : 0 ≤ a / (Int.gcd a b : Int) := Int.ediv_nonneg ha.1 (by omega)
  have p2 : 0 ≤ b / (Int.gcd a b : Int) := Int.ediv_nonneg (by omega) (by omega)
  simp only [G101, r_loop, r_liti, e, r_bnd0, r_ld0, r_lds]
  rw [r_quo _ _ _ _ hgi, r_quo _ _ _ _ hgi, q1, q2, wrap_id (by omega) (by omega), wrap_id (by omega) (by omega)]
  simp [lowI]
theorem lowI_ok {a b : Int} (ha : 0 ≤ a) (hb : 1 ≤ b) : 0 ≤ (lowI a b).1 ∧ (lowI a b).1 ≤ a ∧ 1 ≤ (lowI a b).2 ∧ (lowI a b).2 ≤ b ∧ ∃ g : Int, 0 < g ∧ (lowI a b).1 * g = a ∧ (lowI a b).2 * g = b := by
  have hg0 : 0 < Int.gcd a b := Int.gcd_pos_of_ne_zero_right _ (by omega)
  have d1 : (lowI a b).1 * (Int.gcd a b : Int) = a := Int.ediv_mul_cancel (Int.gcd_dvd_left ..)
  have d2 : (lowI a b).2 * (Int.gcd a b : Int) = b := Int.ediv_mul_cancel (Int.gcd_dvd_right ..)
  have b1 : (lowI a b).1 ≤ a := Int.ediv_le_self _ ha
  have b2 : (lowI a b).2 ≤ b := Int.ediv_le_self _ (by omega)
  have p1 : 0 ≤ (lowI a b).1 := Int.ediv_nonneg ha (by omega)
  have p2 : 0 ≤ (lowI a b).2 := Int.ediv_nonneg (by omega) (by omega)
  refine ⟨p1, b1, ?_, b2, _, by omega, d1, d2⟩
  rcases Int.lt_or_le 0 (lowI a b).2 with h | h
  · omega
  · have : (lowI a b).2 = 0 := by omega
    rw [this] at d2; omega

/-! ### gains of a sharing -/
def rG (p : Int × Int) : List D := [il p.1, il p.2]
def dGains (l : List (Int × Int)) : D := .sl 2 (l.map rG)
def gainOf (cl : List Cell) (d : Drift) (c : Claim) : Int × Int := lowI (worthV cl d.fr d.to_) c.heads
def gainsL (cl : List Cell) (l : List Claim) (ds : List Drift) : List (Int × Int) := (ds.zip l).map fun p => gainOf cl p.1 p.2
theorem s85 (n : Nat) (cl : List Cell) (l : List Claim) (ds : List Drift) (x : D) (hc : okWorth cl) (hv : ∀ c ∈ l, vClaim c.family c.heads c.from_ c.to = true) (hl : 1 ≤ l.length ∧ l.length ≤ 12) (hd : ds.length = l.length) (hb : ∀ d ∈ ds, d.fr ≤ 1000 ∧ d.to_ ≤ 1000) :
    FN (n + 3) 85 [x, dCells cl, dClaims l, dDrifts ds] = some (0, [.r ((gainsL cl l ds).map rG)]) := by
  rw [F85]
  have hzl : (ds.zip l).length = l.length := by simp [hd]
  have key : loopR [L85_0 (RP (n + 2)), L85_1 (RP (n + 2))] M0 0 [.d x, .d (dCells cl), .d (dClaims l), .d (dDrifts ds), .d (il ds.length), .d (il 0)] = some (1, [.n l.length, .n l.length, .r ((gainsL cl l ds).map rG)]) := by
    have := loop_ms (σ := Nat) [L85_0 (RP (n + 2)), L85_1 (RP (n + 2))]
      (fun i => match i with
        | 0 => (0, [.d x, .d (dCells cl), .d (dClaims l), .d (dDrifts ds), .d (il ds.length), .d (il 0)])
        | i + 1 => (1, [.d x, .d (dCells cl), .d (dClaims l), .n (i + 1), .n (i + 1), .d (dDrifts ds), .d (il ds.length), .d (il ((i : Int) + 1)), .r (((gainsL cl l ds).take (i + 1)).map rG)]))
      (fun i => l.length - i) (fun i => i ≤ l.length) (fun _ => some (1, [.n l.length, .n l.length, .r ((gainsL cl l ds).map rG)])) ?_ M0 0 (by omega) (M0_big (by omega))
    · exact this
    · intro i k hi ih
      have hgl : (gainsL cl l ds).length = l.length := by simp [gainsL, hd]
      by_cases hlt : i < l.length
      · obtain ⟨d, hdi⟩ : ∃ d, ds[i]? = some d := ⟨ds[i], by simp [show i < ds.length by omega]⟩
        obtain ⟨c, hci⟩ : ∃ c, l[i]? = some c := ⟨l[i], by simp [hlt]⟩
        have hg : (gainsL cl l ds)[i]? = some (gainOf cl d c) := by
          have hz : (ds.zip l)[i]? = some (d, c) := List.getElem?_zip_eq_some.2 ⟨hdi, hci⟩
          simp [gainsL, hz, -getElem?_pos]
        have ht : (gainsL cl l ds).take (i + 1) = (gainsL cl l ds).take i ++ [gainOf cl d c] := by
          rw [List.take_add_one, hg]; rfl
        have hbd := hb d (List.mem_of_getElem? hdi)
        have hvc := hv c (List.mem_of_getElem? hci)
        simp only [vClaim, decide_eq_true_eq] at hvc
        have hw := seg_worth hc d.fr d.to_
        have e81 := s81 n cl d.fr d.to_ x hc (by omega) (by omega)
        have e101 := s101 (n + 1) (worthV cl d.fr d.to_) c.heads (by omega) (by omega)
        have ih' := ih (i + 1) (by omega) (by omega)
        simp only [ht] at ih'
        simp only [dCells] at e81
        cases i with
        | zero =>
          refine ⟨_, rfl, ?_⟩
          have h0 : 0 < ds.length := by omega
          simp only [List.take_zero, List.nil_append, gainOf, dCells, dClaims, dDrifts, rG, List.map_cons, List.map_nil] at ih'
          have w1 : IntKind.i64.wrap 1 = 1 := rfl
          simp [L85_0, dCells, dClaims, dDrifts, h0, hdi, hci, rDrift, rClaim, e81, e101, w1, List.getElem?_cons_zero, List.getElem?_cons_succ, -getElem?_pos]
          simpa using ih'
        | succ i =>
          refine ⟨_, rfl, ?_⟩
          have hi1 : (i : Int) + 1 < (ds.length : Int) := by omega
          have ht' : ((i : Int) + 1).toNat = i + 1 := by omega
          have hi0 : (0 : Int) ≤ (i : Int) + 1 := by omega
          have hw1 := wrap_id (x := (i : Int) + 1 + 1) (by omega) (by omega)
          have hf : (i + 1 + 1) * 16 ≤ 140737488355328 ∧ i + 1 ≤ 9223372036854775806 := by omega
          have hlt' : ((gainsL cl l ds).take (i + 1)).length = i + 1 := by simp; omega
          simp only [List.map_append, gainOf, dCells, dClaims, dDrifts, rG, List.map_cons, List.map_nil] at ih'
          simp only [L85_1, r_ld0, r_lds, r_ln0, r_lns, r_lr0, r_lrs, r_lss, r_cond, hi1, decide_true, if_true, dCells, dClaims, dDrifts, r_rowDg, ht', hi0, and_self, List.getElem?_map, hdi, hci, Option.map_some, rDrift, rClaim, r_cell0, r_cells, r_call, e81, r_bnd0, e101, List.length_cons, List.length_nil, r_natN, r_rows, r_len, r_eqN, List.length_map, hlt', r_addN, r_seg0, List.take_succ_cons, List.take_zero, r_fitsg, hf, r_add, hw1, r_liti, r_app]
          simp [hf, rG]
          exact ⟨by omega, by simpa using ih'⟩
      · have he : i = l.length := by omega
        subst he
        cases hll : l.length with
        | zero => omega
        | succ m =>
          refine ⟨_, rfl, ?_⟩
          have h1 : ¬ (m : Int) + 1 < (ds.length : Int) := by omega
          rw [hll] at hgl
          simp [L85_1, h1, List.take_of_length_le (show (gainsL cl l ds).length ≤ m + 1 by omega)]
  simp only [dDrifts, dClaims, dCells] at key
  simp only [G85, dDrifts, dClaims, dCells, r_lenD, List.length_map, r_loop, r_liti, key, r_bnd1, r_ln0, r_lns, r_lr0, r_lrs]
  have hgl : (gainsL cl l ds).length = l.length := by simp [gainsL, hd]
  simp [hgl]
  exact List.take_of_length_le (by simp [hgl])
end Go.VE
/- Fairest sharings: what the search hands back. -/
namespace Go.VE
open Go.RowKit Go.Proofs
set_option maxRecDepth 100000

def gLt (a b : Int × Int) : Bool := decide (a.1 * b.2 < b.1 * a.2)
def minFrom : Int × Int → List (Int × Int) → Int × Int
  | m, [] => m
  | m, x :: r => if gLt x m then minFrom x r else minFrom m r
def okGn (p : Int × Int) : Prop := 0 ≤ p.1 ∧ p.1 ≤ 1000000 ∧ 1 ≤ p.2 ∧ p.2 ≤ 1000000
theorem isLit_il (x : Int) : (il x).isLit = true := rfl
theorem take_map_len {α β : Type} (f : α → β) (l : List α) : (l.map f).take l.length = l.map f := List.take_of_length_le (by simp)
theorem c104 (n : Nat) (a b : Int × Int) (ha : okGn a) (hb : okGn b) : FnDof (cf3 tb Try.prog) (FN (n + 4)) (.fn 104 []) [.agg 2, .agg 2] [il a.1, il a.2, il b.1, il b.2] = some (0, [.d (il (cmpI (a.1 * b.2) (b.1 * a.2)))]) := by
  obtain ⟨a1, a2, a3, a4⟩ := ha
  obtain ⟨b1, b2, b3, b4⟩ := hb
  have e : FN (n + 4) 104 [il a.1, il a.2, il b.1, il b.2] = some (0, [.d (il (cmpI (a.1 * b.2) (b.1 * a.2)))]) := by
    rw [F104]
    have e70 := s70 n a.1 a.2 b.1 b.2 (by omega) (by omega) (by omega) (by omega)
    simp only [G104, r_call, e70, r_bnd0, r_ld0, r_out]
  simp [FnDof, vdsOf, flatV, cf3, tb, ashT, rskT, isOneD, e, isLit_il]
theorem cmp_lt (x y : Int) : cmpI x y < 0 ↔ x < y := by
  unfold cmpI
  split
  · simp [*]
  · split <;> simp [*]
theorem s103 (n : Nat) (g : Int × Int) (gs : List (Int × Int)) (hl : gs.length ≤ 100) (hg : ∀ p ∈ g :: gs, okGn p) : FN (n + 5) 103 [dGains (g :: gs), .fn 104 []] = some (0, [.d (il (minFrom g gs).1), .d (il (minFrom g gs).2)]) := by
  rw [F103]
  have key := range_from (β := Int × Int) (g :: gs) (by simp; omega) (L103_0 (RP (n + 4))) (fun i m => [.d (dGains (g :: gs)), .d (.fn 104 []), .d (il (i : Int)), .d (il m.1), .d (il m.2), .d (il 0), .d (il 0)]) (fun _ m => okGn m)
    (fun i r m => some (0, [.d (il (minFrom m r).1), .d (il (minFrom m r).2), .d (il 0), .d (il 0)])) ?_ ?_ M0 1 (by simp) g (hg g (by simp)) (M0_big (by simp; omega))
  · simp only [List.drop_succ_cons, List.drop_zero, dGains, List.map_cons, rG, Int.cast_ofNat_Int] at key
    have h1 : ¬ ((gs.length : Int) + 1 < 1) := by omega
    simp [G103, dGains, rG, h1]
    rw [key]
    simp
  · intro m k _; simp [L103_0, dGains, minFrom]
  · intro i x r m k hx hd hi hw hI ih
    have hgx := hg x (List.mem_of_getElem? hx)
    have e := c104 n x m hgx hI
    have hi' : (i : Int) < ((g :: gs).length : Int) := by omega
    generalize g :: gs = G at *
    simp only [L103_0, r_ld0, r_lds, dGains, r_lenD, List.length_map, r_lss, r_cond, hi', decide_true, if_true, r_rowDg, Int.toNat_natCast, List.getElem?_map, hx, Option.map_some, rG, r_cell0, r_cells, r_callD, e, r_bnd0, r_liti, r_add, hw]
    simp only [minFrom]
    cases hlt : gLt x m with
    | true =>
      have ih' := ih x hgx
      have : cmpI (x.1 * m.2) (m.1 * x.2) < 0 := (cmp_lt _ _).2 (by simpa [gLt] using hlt)
      simp only [dGains, Int.natCast_add, Int.cast_ofNat_Int] at ih'
      simp [this]
      simpa [rG] using ih'
    | false =>
      have ih' := ih m hI
      have : ¬ cmpI (x.1 * m.2) (m.1 * x.2) < 0 := fun h => by
        have := (cmp_lt _ _).1 h
        simp [gLt] at hlt; omega
      simp only [dGains, Int.natCast_add, Int.cast_ofNat_Int] at ih'
      simp [this]
      simpa [rG] using ih'
theorem s91 (n : Nat) (g : Int × Int) (gs : List (Int × Int)) (hl : gs.length ≤ 100) (hg : ∀ p ∈ g :: gs, okGn p) : FN (n + 6) 91 [dGains (g :: gs)] = some (0, [.d (il (minFrom g gs).1), .d (il (minFrom g gs).2)]) := by
  rw [F91]
  simp [G91, s103 _ _ _ hl hg]
def minL : List (Int × Int) → Int × Int
  | [] => (0, 1)
  | g :: gs => minFrom g gs
theorem minFrom_ok : ∀ (gs : List (Int × Int)) (m : Int × Int), minFrom m gs ∈ m :: gs
  | [], m => by simp [minFrom]
  | x :: r, m => by
    simp only [minFrom]
    split
    · have := minFrom_ok r x; simp at this ⊢; rcases this with h | h <;> simp [h]
    · have := minFrom_ok r m; simp at this ⊢; rcases this with h | h <;> simp [h]
theorem minL_mem {l : List (Int × Int)} (h : l ≠ []) : minL l ∈ l := by
  cases l with
  | nil => exact absurd rfl h
  | cons g gs => exact minFrom_ok gs g

/-! ### the greedy drifts -/
def dsD (ds : List Drift) : D := match ds with
  | [] => .lit (.slice none 0 0)
  | d :: r => dDrifts (d :: r)
theorem dsD_ne {ds : List Drift} (h : ds ≠ []) : dsD ds = dDrifts ds := by
  cases ds with
  | nil => exact absurd rfl h
  | cons d r => rfl
def shr : Int → List Drift → List Claim → Bool
  | _, [], [] => true
  | last, d :: ds, c :: cs => decide (c.from_ ≤ d.fr ∧ d.fr ≤ d.to_ ∧ d.to_ ≤ c.to ∧ last < d.fr) && shr d.to_ ds cs
  | _, _, _ => false
theorem shr_len : ∀ {ds : List Drift} {l : List Claim} {a : Int}, shr a ds l = true → ds.length = l.length
  | [], [], _, _ => rfl
  | [], _ :: _, _, h => by cases h
  | _ :: _, [], _, h => by cases h
  | d :: ds, c :: l, a, h => by simp only [shr, Bool.and_eq_true] at h; simp [shr_len h.2]
theorem grd_true {P : Claim → Int → Bool} {cl : List Cell} : ∀ {l : List Claim} {a : Int} {ds ds' : List Drift} {ss ss' : List Int}, grd P cl l a ds ss = (ds', ss', true) →
    ∃ e, ds' = ds ++ e ∧ shr (a - 1) e l = true ∧ (∀ p ∈ e.zip l, P p.2 (worthV cl p.1.fr p.1.to_) = true) ∧ ∀ d ∈ e, d.to_ < cl.length
  | [], a, ds, ds', ss, ss', h => by
    simp only [grd, Prod.mk.injEq] at h
    exact ⟨[], by simp [h.1], rfl, by simp, by simp⟩
  | c :: l, a, ds, ds', ss, ss', h => by
    simp only [grd] at h
    split at h
    · rename_i t ht
      obtain ⟨e, h1, h2, h3, h4⟩ := grd_true h
      have hb := ltr_bnd _ ht
      refine ⟨⟨max a c.from_, t⟩ :: e, by simp [h1], ?_, ?_, ?_⟩
      · simp only [shr, Bool.and_eq_true, decide_eq_true_eq]
        refine ⟨by omega, ?_⟩
        rwa [show t + 1 - 1 = t by omega] at h2
      · intro p hp
        simp only [List.zip_cons_cons, List.mem_cons] at hp
        rcases hp with rfl | hp
        · exact hb.2.2.2
        · exact h3 p hp
      · intro d hd
        rcases List.mem_cons.1 hd with rfl | hd
        · exact hb.2.2.1
        · exact h4 d hd
    · simp only [Prod.mk.injEq] at h; cases h.2.2
theorem cOK_in {cs : List Chain} {cl : List Cell} {l : List Claim} (h : cOK cs cl l = 0) : okGround cs cl = true ∧ (1 ≤ l.length ∧ l.length ≤ 12) ∧ okClaims cl.length [] l = true := by
  have hl := cOK_len h
  unfold cOK at h
  split at h
  · rename_i hg
    split at h
    · rename_i h2
      simp only [Bool.and_eq_true] at h2
      exact ⟨hg, hl, h2.2⟩
    · simp at h
  · simp at h
theorem okClaims_mem {nk : Nat} : ∀ {l pre : List Claim}, okClaims nk pre l = true → ∀ c ∈ l, vClaim c.family c.heads c.from_ c.to = true ∧ c.to < nk
  | [], _, _, c, hc => by cases hc
  | d :: l, pre, h, c, hc => by
    simp only [okClaims, Bool.and_eq_true, decide_eq_true_eq] at h
    rcases List.mem_cons.1 hc with rfl | hc
    · exact ⟨h.1.1.1, h.1.2⟩
    · exact okClaims_mem h.2 c hc

theorem s74 (n : Nat) (P : Claim → Int → Bool) (cont : D) (cs : D) (cl : List Cell) (l : List Claim) (hc : okWorth cl) (hv : ∀ c ∈ l, vClaim c.family c.heads c.from_ c.to = true) (hl : 1 ≤ l.length ∧ l.length ≤ 12)
    (hco : ContOK (FnDof (cf3 tb Try.prog) (FN (n + 2))) cont P) {ds : List Drift} {ss : List Int} {b : Bool} (hg : grd P cl l 0 [] [] = (ds, ss, b)) :
    FN (n + 3) 74 [cs, dCells cl, dClaims l, cont] = some (0, [.d (dsD ds), .r (rI ss), .d (bl b)]) := by
  rw [F74]
  have e := l74 n P cont cs cl l hc hv hl hco
  rw [hg] at e
  simp only [dClaims, dCells] at e
  simp only [G74, dClaims, dCells, r_lenD, List.length_map, r_loop, r_liti, r_litb, e]
  cases b with
  | false =>
    cases ds with
    | nil => simp [resG, dsD, rI_len, rI_take]
    | cons d r => simp [resG, dsD, rI_len, rI_take, dDrifts, take_map_len]
  | true =>
    obtain ⟨e1, h1, h2, _, _⟩ := grd_true hg
    have hlen := shr_len h2
    simp only [List.nil_append] at h1
    subst h1
    have hne : ds ≠ [] := by intro h; subst h; simp at hlen; omega
    simp [resG, dsD_ne hne, rI_len, rI_take, dDrifts, take_map_len]
end Go.VE
/- The fairest sharing: what the search hands back. -/
namespace Go.VE
open Go.RowKit Go.Proofs
set_option maxRecDepth 100000

def KG (p : Int × Int) : Int := p.1 * (232792560 / p.2)
theorem KG_div {d : Int} (h : 1 ≤ d ∧ d ≤ 20) : 232792560 / d * d = 232792560 ∧ 0 < 232792560 / d ∧ 232792560 / d ≤ 232792560 := by
  have : d = 1 ∨ d = 2 ∨ d = 3 ∨ d = 4 ∨ d = 5 ∨ d = 6 ∨ d = 7 ∨ d = 8 ∨ d = 9 ∨ d = 10 ∨ d = 11 ∨ d = 12 ∨ d = 13 ∨ d = 14 ∨ d = 15 ∨ d = 16 ∨ d = 17 ∨ d = 18 ∨ d = 19 ∨ d = 20 := by omega
  rcases this with rfl | rfl | rfl | rfl | rfl | rfl | rfl | rfl | rfl | rfl | rfl | rfl | rfl | rfl | rfl | rfl | rfl | rfl | rfl | rfl <;> decide
theorem KG_lt {p q : Int × Int} (hp : 1 ≤ p.2 ∧ p.2 ≤ 20) (hq : 1 ≤ q.2 ∧ q.2 ≤ 20) (h : p.1 * q.2 < q.1 * p.2) : KG p < KG q := by
  obtain ⟨a1, a2, _⟩ := KG_div hp
  obtain ⟨b1, b2, _⟩ := KG_div hq
  unfold KG
  generalize 232792560 / p.2 = A at *
  generalize 232792560 / q.2 = B at *
  -- p.1 * A * (p.2 * q.2) = p.1 * q.2 * L
  have e1 : p.1 * A * (p.2 * q.2) = p.1 * q.2 * 232792560 := by rw [← a1]; simp [Int.mul_comm, Int.mul_left_comm]
  have e2 : q.1 * B * (p.2 * q.2) = q.1 * p.2 * 232792560 := by rw [← b1]; simp [Int.mul_comm, Int.mul_left_comm]
  have hpos : 0 < p.2 * q.2 := Int.mul_pos (by omega) (by omega)
  have : p.1 * A * (p.2 * q.2) < q.1 * B * (p.2 * q.2) := by rw [e1, e2]; omega
  exact Int.lt_of_mul_lt_mul_right this (by omega)
theorem KG_bnd {p : Int × Int} (hp : 1 ≤ p.2 ∧ p.2 ≤ 20) (h0 : 0 ≤ p.1 ∧ p.1 ≤ 240000) : 0 ≤ KG p ∧ KG p ≤ 55870214400000 := by
  obtain ⟨_, a2, a3⟩ := KG_div hp
  have := mul_bnd (z := p.1) (c := 232792560 / p.2) (A := 240000) (B := 232792560) (by omega) h0.2 (by omega) a3 (by omega)
  have h1 : 0 ≤ p.1 * (232792560 / p.2) := Int.mul_nonneg h0.1 (by omega)
  unfold KG
  omega

theorem shr_in : ∀ {ds : List Drift} {l : List Claim} {a : Int}, shr a ds l = true → (∀ c ∈ l, 0 ≤ c.from_ ∧ c.to < 24) → ∀ d ∈ ds, 0 ≤ d.fr ∧ d.fr ≤ d.to_ ∧ d.to_ < 24
  | [], _, _, _, _, d, hd => by cases hd
  | _ :: _, [], _, h, _, _, _ => by cases h
  | x :: ds, c :: l, a, h, hc, d, hd => by
    simp only [shr, Bool.and_eq_true, decide_eq_true_eq] at h
    have := hc c (by simp)
    rcases List.mem_cons.1 hd with rfl | hd
    · omega
    · exact shr_in h.2 (fun c h => hc c (by simp [h])) d hd
theorem gains_ok {cl : List Cell} {l : List Claim} {ds : List Drift} (hc : okWorth cl) (hv : ∀ c ∈ l, vClaim c.family c.heads c.from_ c.to = true) : ∀ g ∈ gainsL cl l ds, 0 ≤ g.1 ∧ g.1 ≤ 240000 ∧ 1 ≤ g.2 ∧ g.2 ≤ 20 := by
  intro g hg
  simp only [gainsL, List.mem_map] at hg
  obtain ⟨⟨d, c⟩, hp, rfl⟩ := hg
  have hvc := hv c (List.of_mem_zip hp).2
  simp only [vClaim, decide_eq_true_eq] at hvc
  have hw := seg_worth hc d.fr d.to_
  have := lowI_ok (a := worthV cl d.fr d.to_) (b := c.heads) hw.1 (by omega)
  simp only [gainOf]
  omega
/-- A sharing that the search hands back, its least gain, and how far claims come that want more. -/
structure Fair (cl : List Cell) (l : List Claim) (best : List Drift) (g : Int × Int) (mds : List Drift) (mss : List Int) : Prop where
  shr_ : shr (-1) best l = true
  low : g = minL (gainsL cl l best)
  more : grd (aboveP g) cl l 0 [] [] = (mds, mss, false)

set_option maxHeartbeats 1000000 in
theorem s68t (n : Nat) (cs : List Chain) (cl : List Cell) (l : List Claim) (hok : cOK cs cl l = 0) {ds : List Drift} {ss : List Int} (hg : grd anyP cl l 0 [] [] = (ds, ss, true)) :
    ∃ best g mds mss, FN (n + 8) 68 [dChains cs, dCells cl, dClaims l] = some (0, [.d (dDrifts best), .d (il g.1), .d (il g.2), .d (dsD mds), .r (rI mss), .d (bl false), .d (bl true)]) ∧ Fair cl l best g mds mss := by
  obtain ⟨hgr, hl, hcl⟩ := cOK_in hok
  have hv := okClaims_mem hcl
  have hvv : ∀ c ∈ l, vClaim c.family c.heads c.from_ c.to = true := fun c hc => (hv c hc).1
  have hc := okG_worth hgr
  have hct : ∀ c ∈ l, 0 ≤ c.from_ ∧ c.to < 24 := fun c h => by
    have := hvv c h; simp only [vClaim, decide_eq_true_eq] at this; omega
  have key := loop_pr (σ := Nat × List Drift × (Int × Int) × List Drift × List Int × Bool) [L68_0 (RP (n + 7)), L68_1 (RP (n + 7)), L68_2 (RP (n + 7)), L68_3 (RP (n + 7))]
    (fun s => match s.1 with
      | 0 => (0, [.d (dChains cs), .d (dCells cl), .d (dClaims l), .d (bl false), .r (rI s.2.2.2.2.1), .d (dsD s.2.2.2.1), .n s.2.2.2.2.1.length, .n s.2.2.2.2.1.length, .d (bl s.2.2.2.2.2), .d (il 0), .d (il 0)])
      | 1 => (1, [.d (dChains cs), .d (dCells cl), .d (dClaims l), .d (dDrifts s.2.1), .d (bl true), .r (rI s.2.2.2.2.1), .d (dsD s.2.2.2.1), .n s.2.2.2.2.1.length, .n s.2.2.2.2.1.length, .d (bl s.2.2.2.2.2), .d (il s.2.2.1.1), .d (il s.2.2.1.2)])
      | _ => (3, [.d (dChains cs), .d (dCells cl), .d (dClaims l), .d (dDrifts s.2.1), .d (bl true), .r (rI s.2.2.2.2.1), .d (dsD s.2.2.2.1), .n s.2.2.2.2.1.length, .n s.2.2.2.2.1.length, .d (bl s.2.2.2.2.2), .d (il s.2.2.1.1), .d (il s.2.2.1.2)]))
    (fun s => match s.1 with
      | 0 => 60000000000000
      | _ => (59999999999999 - KG s.2.2.1).toNat)
    (fun s => match s.1 with
      | 0 => grd anyP cl l 0 [] [] = (s.2.2.2.1, s.2.2.2.2.1, true) ∧ s.2.2.2.2.2 = true
      | _ => shr (-1) s.2.1 l = true ∧ s.2.2.1 = minL (gainsL cl l s.2.1) ∧ grd (aboveP s.2.2.1) cl l 0 [] [] = (s.2.2.2.1, s.2.2.2.2.1, s.2.2.2.2.2))
    (fun o => ∃ best g mds mss, (o = some (1, [.d (dDrifts best), .d (bl true), .r (rI mss), .d (dsD mds), .n mss.length, .n mss.length, .d (bl false), .d (il g.1), .d (il g.2)]) ∨ o = some (3, [.d (dDrifts best), .d (bl true), .r (rI mss), .d (dsD mds), .n mss.length, .n mss.length, .d (bl false), .d (il g.1), .d (il g.2)])) ∧ Fair cl l best g mds mss)
    ?_ M0 (0, [], (0, 0), ds, ss, true) ⟨hg, rfl⟩ (by simp only; decide)
  · obtain ⟨best, g, mds, mss, ho, hf⟩ := key
    refine ⟨best, g, mds, mss, ?_, hf⟩
    rw [F68]
    have e := s74 (n + 4) anyP (.fn 75 []) (dChains cs) cl l hc hvv hl (c75 (n + 5)) hg
    simp only [Int.cast_ofNat_Int] at ho
    simp only [G68, r_call, r_fnD, e, r_bnd0, r_ld0, r_lds, r_lr0, r_lrs, r_len, r_loop, r_liti, r_litb, rI_len]
    rcases ho with ho | ho
    · simp [ho, rI_len, rI_take]
    · simp [ho, rI_len, rI_take]
  · -- one round: from drifts that share, the next ones
    have round : ∀ (mds : List Drift) (h : shr (-1) mds l = true), ∃ g, g = minL (gainsL cl l mds) ∧ (0 ≤ g.1 ∧ g.1 ≤ 240000 ∧ 1 ≤ g.2 ∧ g.2 ≤ 20) ∧ g ∈ gainsL cl l mds ∧
        FN (n + 7) 85 [dChains cs, dCells cl, dClaims l, dsD mds] = some (0, [.r ((gainsL cl l mds).map rG)]) ∧ FN (n + 7) 91 [.sl 2 ((gainsL cl l mds).map rG)] = some (0, [.d (il g.1), .d (il g.2)]) ∧
        FN (n + 7) 92 [il g.1, il g.2] = some (0, [.d (.fn 105 [.dp [il g.1, il g.2] 0])]) ∧ FN (n + 7) 74 [dChains cs, dCells cl, dClaims l, .fn 105 [.dp [il g.1, il g.2] 0]] = some (0, [.d (dsD (grd (aboveP g) cl l 0 [] []).1), .r (rI (grd (aboveP g) cl l 0 [] []).2.1), .d (bl (grd (aboveP g) cl l 0 [] []).2.2)]) := by
      intro mds h
      have hlen := shr_len h
      have hne : mds ≠ [] := by intro h; subst h; simp at hlen; omega
      have hin := shr_in h hct
      have e85 := s85 (n + 4) cl l mds (dChains cs) hc hvv hl hlen (fun d hd => by have := hin d hd; omega)
      have hgl : (gainsL cl l mds).length = l.length := by simp [gainsL, hlen]
      have hgne : gainsL cl l mds ≠ [] := by intro h; rw [h] at hgl; simp at hgl; omega
      have hok := gains_ok (ds := mds) hc hvv
      have hmem := minL_mem hgne
      have hm := hok _ hmem
      refine ⟨_, rfl, hm, hmem, by rw [dsD_ne hne]; exact e85, ?_, s92 _ _ _, ?_⟩
      · cases hgg : gainsL cl l mds with
        | nil => exact absurd hgg hgne
        | cons g0 gs =>
          rw [hgg] at hok hgl
          simp only [List.length_cons] at hgl
          exact s91 (n + 1) g0 gs (by omega) (fun p hp => by have := hok p hp; exact ⟨by omega, by omega, by omega, by omega⟩)
      · exact s74 (n + 4) _ _ (dChains cs) cl l hc hvv hl (c105 (n + 2) (minL (gainsL cl l mds)) (by omega)) rfl
    rintro ⟨k, best, g, mds, mss, all⟩ J hI ih
    cases k with
    | zero =>
      simp only at hI
      obtain ⟨h1, rfl⟩ := hI
      obtain ⟨e, he, hs, _, _⟩ := grd_true h1
      simp only [List.nil_append] at he
      subst he
      obtain ⟨g', hg', hgb, _, e85, e91, e92, e74⟩ := round mds hs
      refine ⟨_, rfl, ?_⟩
      have ih' := ih (1, mds, g', (grd (aboveP g') cl l 0 [] []).1, (grd (aboveP g') cl l 0 [] []).2.1, (grd (aboveP g') cl l 0 [] []).2.2) ⟨hs, hg', rfl⟩ (by
        have := KG_bnd (p := g') (by omega) (by omega)
        simp only; omega)
      have hlen := shr_len hs
      have hne : mds ≠ [] := by intro h; subst h; simp at hlen; omega
      simp only [L68_0, r_ld0, r_lds, r_cond, if_true, r_call, e85, r_bnd0, r_eqN, r_slD, r_seg0, List.take_length, r_litsg, List.all_cons, List.all_nil, yl_i, Bool.and_self, e91, e92, e74, r_lr0, r_lrs, r_len, r_litb, rI_len]
      simp only at ih'
      rw [dsD_ne hne]
      exact ih'
    | succ k =>
      have hI' : shr (-1) best l = true ∧ g = minL (gainsL cl l best) ∧ grd (aboveP g) cl l 0 [] [] = (mds, mss, all) := hI
      obtain ⟨h1, h2, h3⟩ := hI'
      cases all with
      | false =>
        have hf : Fair cl l best g mds mss := ⟨h1, h2, h3⟩
        cases k with
        | zero => exact ⟨_, rfl, best, g, mds, mss, .inl (by simp [L68_1]), hf⟩
        | succ k => exact ⟨_, rfl, best, g, mds, mss, .inr (by simp [L68_3]), hf⟩
      | true =>
        obtain ⟨e, he, hs, hP, _⟩ := grd_true h3
        simp only [List.nil_append] at he
        subst he
        obtain ⟨g', hg', hgb, hmem, e85, e91, e92, e74⟩ := round mds hs
        -- the least gain grows
        have hlen0 := shr_len h1
        have hgl0 : (gainsL cl l best).length = l.length := by simp [gainsL, hlen0]
        have hgne0 : gainsL cl l best ≠ [] := by intro h; rw [h] at hgl0; simp at hgl0; omega
        have hgb0 := gains_ok (ds := best) hc hvv _ (minL_mem hgne0)
        rw [← h2] at hgb0
        have hlt : KG g < KG g' := by
          refine KG_lt (by omega) (by omega) ?_
          simp only [gainsL, List.mem_map] at hmem
          obtain ⟨⟨d, c⟩, hp, hdc⟩ := hmem
          have hab := hP _ hp
          simp only [aboveP, decide_eq_true_eq] at hab
          have hvc := hvv c (List.of_mem_zip hp).2
          simp only [vClaim, decide_eq_true_eq] at hvc
          have hw := seg_worth hc d.fr d.to_
          obtain ⟨_, _, _, _, q, hq, d1, d2⟩ := lowI_ok (a := worthV cl d.fr d.to_) (b := c.heads) hw.1 (by omega)
          simp only [gainOf] at hdc
          rw [← hdc]
          generalize lowI (worthV cl d.fr d.to_) c.heads = w at d1 d2
          rw [← d1, ← d2] at hab
          have : g.1 * w.2 * q < w.1 * g.2 * q := by
            have e1 : g.1 * (w.2 * q) = g.1 * w.2 * q := by rw [Int.mul_assoc]
            have e2 : w.1 * q * g.2 = w.1 * g.2 * q := by rw [Int.mul_assoc, Int.mul_comm q, Int.mul_assoc]
            rw [← e1, ← e2]; exact hab
          exact Int.lt_of_mul_lt_mul_right this (by omega)
        have hkb := KG_bnd (p := g') (by omega) (by omega)
        have hkb0 := KG_bnd (p := g) (by omega) (by omega)
        have hlen := shr_len hs
        have hne : mds ≠ [] := by intro h; subst h; simp at hlen; omega
        cases k with
        | zero =>
          refine ⟨_, rfl, ?_⟩
          have ih' := ih (2, mds, g', (grd (aboveP g') cl l 0 [] []).1, (grd (aboveP g') cl l 0 [] []).2.1, (grd (aboveP g') cl l 0 [] []).2.2) ⟨hs, hg', rfl⟩ (by simp only; omega)
          simp only [L68_1, r_ld0, r_lds, r_cond, if_true, r_call, e85, r_bnd0, r_eqN, r_slD, r_seg0, List.take_length, r_litsg, List.all_cons, List.all_nil, yl_i, Bool.and_self, e91, e92, e74, r_lr0, r_lrs, r_len, r_litb, rI_len]
          simp only at ih'
          rw [dsD_ne hne]
          exact ih'
        | succ k =>
          refine ⟨_, rfl, ?_⟩
          have ih' := ih (1, mds, g', (grd (aboveP g') cl l 0 [] []).1, (grd (aboveP g') cl l 0 [] []).2.1, (grd (aboveP g') cl l 0 [] []).2.2) ⟨hs, hg', rfl⟩ (by simp only; omega)
          simp only [L68_3, r_ld0, r_lds, r_cond, if_true, r_call, e85, r_bnd0, r_eqN, r_slD, r_seg0, List.take_length, r_litsg, List.all_cons, List.all_nil, yl_i, Bool.and_self, e91, e92, e74, r_lr0, r_lrs, r_len, r_litb, rI_len]
          simp only at ih'
          rw [dsD_ne hne]
          exact ih'

theorem s68f (n : Nat) (cs : List Chain) (cl : List Cell) (l : List Claim) (hok : cOK cs cl l = 0) {ds : List Drift} {ss : List Int} (hg : grd anyP cl l 0 [] [] = (ds, ss, false)) :
    FN (n + 8) 68 [dChains cs, dCells cl, dClaims l] = some (0, [.d (.lit (.slice none 0 0)), .d (il 0), .d (il 0), .d (dsD ds), .r (rI ss), .d (bl false), .d (bl false)]) := by
  obtain ⟨hgr, hl, hcl⟩ := cOK_in hok
  have hv := okClaims_mem hcl
  have hvv : ∀ c ∈ l, vClaim c.family c.heads c.from_ c.to = true := fun c hc => (hv c hc).1
  have e := s74 (n + 4) anyP (.fn 75 []) (dChains cs) cl l (okG_worth hgr) hvv hl (c75 (n + 5)) hg
  rw [F68]
  simp only [G68, r_call, r_fnD, e, r_bnd0, r_ld0, r_lds, r_lr0, r_lrs, r_len, r_loop, r_liti, r_litb, rI_len]
  rw [show M0 = 18446744073709551615 + 1 from rfl, loopR_succ _ _ _ _ _ rfl]
  simp [L68_0, rI_len, rI_take]
end Go.VE
/- Sharings, crowds; the law DriftEither. -/
namespace Go.VE
open Go.RowKit Go.Proofs
set_option maxRecDepth 100000

/-! ### what the greedy drifts show -/
end Go.VE
/- Greedy drifts find a sharing where there is one; the law DriftEither. -/
namespace Go.VE
open Go.RowKit Go.Proofs
set_option maxRecDepth 100000

/-! ### the plain law -/
def Mono (P : Claim → Int → Bool) : Prop := ∀ c w w', w ≤ w' → (vClaim c.family c.heads c.from_ c.to = true) → P c w = true → P c w' = true
theorem sum_nonneg : ∀ (l : List Cell), (∀ c ∈ l, 0 ≤ c.worth) → 0 ≤ (l.map Cell.worth).sum
  | [], _ => by simp
  | c :: l, h => by
    have := sum_nonneg l fun c hc => h c (by simp [hc])
    have := h c (by simp)
    simp only [List.map_cons, List.sum_cons]; omega
theorem worth_wide {cl : List Cell} (hc : okWorth cl) {a a' b : Int} (h : a' ≤ a) : worthV cl a b ≤ worthV cl a' b := by
  unfold worthV seg
  have e : (cl.take (b + 1).toNat).drop a'.toNat = ((cl.take (b + 1).toNat).drop a'.toNat).take (a.toNat - a'.toNat) ++ (cl.take (b + 1).toNat).drop a.toNat := by
    rw [show (cl.take (b + 1).toNat).drop a.toNat = ((cl.take (b + 1).toNat).drop a'.toNat).drop (a.toNat - a'.toNat) by rw [List.drop_drop]; congr 1; omega]
    rw [List.take_append_drop]
  rw [e]
  simp only [List.map_append, List.sum_append]
  have := sum_nonneg (((cl.take (b + 1).toNat).drop a'.toNat).take (a.toNat - a'.toNat)) fun c h => (hc.2 c (List.mem_of_mem_take (List.mem_of_mem_drop (List.mem_of_mem_take h)))).1
  omega
theorem ltr_find {P : Claim → Int → Bool} {cl : List Cell} {c : Claim} {fr t0 : Int} (hP : P c (worthV cl fr t0) = true) (h1 : t0 ≤ c.to) (h2 : t0 < cl.length) : ∀ (n : Nat) (t : Int), (t0 - t).toNat = n → t ≤ t0 → ∃ t1, ltr P cl c fr t = some t1 ∧ t1 ≤ t0
  | 0, t, hn, ht => by
    have : t = t0 := by omega
    subst this
    rw [ltr_in ⟨h1, h2⟩, if_pos hP]; exact ⟨t, rfl, Int.le_refl _⟩
  | n + 1, t, hn, ht => by
    rw [ltr_in ⟨by omega, by omega⟩]
    split
    · exact ⟨t, rfl, ht⟩
    · exact ltr_find hP h1 h2 n (t + 1) (by omega) (by omega)
theorem grd_complete {P : Claim → Int → Bool} {cl : List Cell} (hm : Mono P) (hc : okWorth cl) : ∀ {l : List Claim} {e : List Drift} {last a : Int} {ds : List Drift} {ss : List Int}, shr last e l = true → a ≤ last + 1 →
    (∀ c ∈ l, vClaim c.family c.heads c.from_ c.to = true ∧ c.to < cl.length) → (∀ p ∈ e.zip l, P p.2 (worthV cl p.1.fr p.1.to_) = true) → (grd P cl l a ds ss).2.2 = true
  | [], _, _, _, _, _, _, _, _, _ => rfl
  | c :: l, [], _, _, _, _, h, _, _, _ => by cases h
  | c :: l, d :: e, last, a, ds, ss, h, ha, hv, hp => by
    simp only [shr, Bool.and_eq_true, decide_eq_true_eq] at h
    have hvc := hv c (by simp)
    have hP := hp (d, c) (by simp)
    simp only at hP
    have hP2 := hm c _ _ (worth_wide hc (show max a c.from_ ≤ d.fr by omega)) hvc.1 hP
    obtain ⟨t, ht, hle⟩ := ltr_find hP2 h.1.2.2.1 (by omega) _ (max a c.from_) rfl (by omega)
    simp only [grd, ht]
    exact grd_complete hm hc h.2 (by omega) (fun c h => hv c (by simp [h])) (fun p h => hp p (by simp [h]))
theorem mono_any : Mono anyP := fun _ _ _ _ _ _ => rfl

/-! ### Share, Crowded -/
end Go.VE
/- Walls: what shows that nobody gets more. -/
namespace Go.VE
open Go.RowKit Go.Proofs
set_option maxRecDepth 100000

/-! ### the plain law: a wall shows it -/
end Go.VE
/- Least, Wall, CheckWall, Gains. -/
namespace Go.VE
open Go.RowKit Go.Proofs
set_option maxRecDepth 100000

theorem s27t (n : Nat) (cs : List Chain) (cl : List Cell) (l : List Claim) (hok : cOK cs cl l = 0) {y x b : D} {g : Int × Int} {r : Rr} (e : FN (n + 5) 68 [dChains cs, dCells cl, dClaims l] = some (0, [.d y, .d (il g.1), .d (il g.2), .d x, .r r, .d b, .d (bl true)])) :
    FN (n + 6) 27 [dChains cs, dCells cl, dClaims l] = some (0, [.d (il g.1), .d (il g.2), .d (il 0)]) := by
  rw [F27]
  simp only [G27, r_call, s67, hok, if_true, r_bnd0, r_ld0, r_lds, r_liti, r_neq, r_cond]
  rw [r_ptrW [dChains cs, dCells cl, dClaims l] 3 _ rfl]
  simp [e]
theorem s27f (n : Nat) (cs : List Chain) (cl : List Cell) (l : List Claim) (hok : cOK cs cl l = 0) {y a c x b : D} {r : Rr} (e : FN (n + 5) 68 [dChains cs, dCells cl, dClaims l] = some (0, [.d y, .d a, .d c, .d x, .r r, .d b, .d (bl false)])) :
    FN (n + 6) 27 [dChains cs, dCells cl, dClaims l] = some (0, [.d (il 0), .d (il 0), .d (il 47)]) := by
  rw [F27]
  simp only [G27, r_call, s67, hok, if_true, r_bnd0, r_ld0, r_lds, r_liti, r_neq, r_cond]
  rw [r_ptrW [dChains cs, dCells cl, dClaims l] 3 _ rfl]
  simp [e]
end Go.VE
/- The plain law of Least: nothing lies above the least gain of the best sharing; a wall shows it. -/
namespace Go.VE
open Go.RowKit Go.Proofs
set_option maxRecDepth 100000

def gLe (a b : Int × Int) : Prop := a.1 * b.2 ≤ b.1 * a.2
theorem gLe_refl (a : Int × Int) : gLe a a := Int.le_refl _
theorem gLe_trans {a b c : Int × Int} (ha : 1 ≤ a.2) (hb : 1 ≤ b.2) (hc : 1 ≤ c.2) (h1 : gLe a b) (h2 : gLe b c) : gLe a c := by
  unfold gLe at *
  have e1 := Int.mul_le_mul_of_nonneg_right h1 (show 0 ≤ c.2 by omega)
  have e2 := Int.mul_le_mul_of_nonneg_right h2 (show 0 ≤ a.2 by omega)
  have : a.1 * c.2 * b.2 ≤ c.1 * a.2 * b.2 := by
    have x1 : a.1 * c.2 * b.2 = a.1 * b.2 * c.2 := by simp [Int.mul_comm, Int.mul_left_comm]
    have x2 : b.1 * a.2 * c.2 = b.1 * c.2 * a.2 := by simp [Int.mul_comm, Int.mul_left_comm]
    have x3 : c.1 * b.2 * a.2 = c.1 * a.2 * b.2 := by simp [Int.mul_comm, Int.mul_left_comm]
    omega
  exact Int.le_of_mul_le_mul_right this (by omega)
theorem gLt_iff {a b : Int × Int} : gLt a b = true ↔ ¬ gLe b a := by
  simp only [gLt, gLe, decide_eq_true_eq]; omega
theorem minFrom_le : ∀ (gs : List (Int × Int)) (m : Int × Int), (∀ p ∈ m :: gs, 1 ≤ p.2) → ∀ x ∈ m :: gs, gLe (minFrom m gs) x
  | [], m, _, x, hx => by
    simp only [List.mem_singleton] at hx; subst hx; exact gLe_refl _
  | y :: r, m, h, x, hx => by
    have hy := h y (by simp)
    have hm := h m (by simp)
    have hr : ∀ p ∈ r, 1 ≤ p.2 := fun p hp => h p (by simp [hp])
    simp only [minFrom]
    split
    · rename_i hlt
      have h' : ∀ p ∈ y :: r, 1 ≤ p.2 := fun p hp => h p (by simp only [List.mem_cons] at hp ⊢; exact .inr hp)
      have ih := minFrom_le r y h'
      have hmin := h' _ (minFrom_ok r y)
      rcases List.mem_cons.1 hx with rfl | hx
      · refine gLe_trans hmin hy hm (ih y (by simp)) ?_
        have := gLt_iff.1 hlt
        unfold gLe at *; omega
      · exact ih x hx
    · rename_i hlt
      have h' : ∀ p ∈ m :: r, 1 ≤ p.2 := fun p hp => by
        rcases List.mem_cons.1 hp with rfl | hp
        · exact hm
        · exact hr p hp
      have ih := minFrom_le r m h'
      have hmin := h' _ (minFrom_ok r m)
      rcases List.mem_cons.1 hx with rfl | hx
      · exact ih x (by simp)
      · rcases List.mem_cons.1 hx with rfl | hx
        · refine gLe_trans hmin hm hy (ih m (by simp)) ?_
          have : ¬ gLt x m = true := hlt
          rw [gLt_iff] at this
          exact Classical.byContradiction this
        · exact ih x (by simp [hx])
theorem minL_le {l : List (Int × Int)} (h : ∀ p ∈ l, 1 ≤ p.2) : ∀ x ∈ l, gLe (minL l) x := by
  cases l with
  | nil => intro x hx; cases hx
  | cons g gs => exact minFrom_le gs g h
theorem all_above {cl : List Cell} {l : List Claim} {e : List Drift} {g : Int × Int} (hc : okWorth cl) (hv : ∀ c ∈ l, vClaim c.family c.heads c.from_ c.to = true) (hg : 1 ≤ g.2) (h : gLt g (minL (gainsL cl l e)) = true) :
    ∀ p ∈ e.zip l, aboveP g p.2 (worthV cl p.1.fr p.1.to_) = true := by
  rintro ⟨d, c⟩ hp
  have hok := gains_ok (ds := e) hc hv
  have hvc := hv c (List.of_mem_zip hp).2
  simp only [vClaim, decide_eq_true_eq] at hvc
  have hq : gainOf cl d c ∈ gainsL cl l e := by
    simp only [gainsL, List.mem_map]; exact ⟨(d, c), hp, rfl⟩
  have hne : gainsL cl l e ≠ [] := fun h0 => by rw [h0] at hq; cases hq
  have hm := (hok _ (minL_mem hne)).2.2
  have hle := minL_le (fun q h => (hok q h).2.2.1) _ hq
  have hqo := hok _ hq
  have hlt : gLt g (gainOf cl d c) = true := by
    rw [gLt_iff]
    intro hle2
    exact gLt_iff.1 h (gLe_trans (by omega) hqo.2.2.1 hg hle hle2)
  obtain ⟨_, _, _, _, k, hk, h1, h2⟩ := lowI_ok (a := worthV cl d.fr d.to_) (b := c.heads) (seg_worth hc _ _).1 (by omega)
  simp only [gainOf] at hlt
  generalize lowI (worthV cl d.fr d.to_) c.heads = q at *
  have hlt' : g.1 * q.2 < q.1 * g.2 := of_decide_eq_true hlt
  have := Int.mul_lt_mul_of_pos_right hlt' hk
  have x1 : g.1 * c.heads = g.1 * q.2 * k := by rw [← h2, Int.mul_assoc]
  have x2 : worthV cl d.fr d.to_ * g.2 = q.1 * g.2 * k := by rw [← h1]; simp [Int.mul_comm, Int.mul_left_comm]
  exact decide_eq_true (by show g.1 * c.heads < worthV cl d.fr d.to_ * g.2; omega)
theorem mono_above {g : Int × Int} (hg : 0 ≤ g.2) : Mono (aboveP g) := by
  intro c w w' h _ hp
  simp only [aboveP, decide_eq_true_eq] at hp ⊢
  have := Int.mul_le_mul_of_nonneg_right h hg
  omega
/-- No sharing has a greater least gain. -/
theorem fair_best {cl : List Cell} {l : List Claim} {best mds : List Drift} {mss : List Int} {g : Int × Int} (hf : Fair cl l best g mds mss) (hc : okWorth cl) (hv : ∀ c ∈ l, vClaim c.family c.heads c.from_ c.to = true ∧ c.to < cl.length) (hg : 1 ≤ g.2) {e : List Drift} (he : shr (-1) e l = true) :
    gLt g (minL (gainsL cl l e)) = false := by
  cases h : gLt g (minL (gainsL cl l e)) with
  | false => rfl
  | true =>
    have := grd_complete (ds := []) (ss := []) (mono_above (g := g) (by omega)) hc he (show (0 : Int) ≤ -1 + 1 by omega) hv (all_above hc (fun c h => (hv c h).1) hg h)
    rw [hf.more] at this; cases this
end Go.VE
/- The plain law of More: wider claims, fewer heads, more worth, one claim less. -/
namespace Go.VE
open Go.RowKit Go.Proofs
set_option maxRecDepth 100000

theorem gain_le {w w' h h' : Int} (hw : 0 ≤ w) (hww : w ≤ w') (h1 : 1 ≤ h') (hh : h' ≤ h) : gLe (lowI w h) (lowI w' h') := by
  obtain ⟨_, _, _, _, k, hk, e1, e2⟩ := lowI_ok (a := w) (b := h) hw (by omega)
  obtain ⟨_, _, _, _, k', hk', e3, e4⟩ := lowI_ok (a := w') (b := h') (by omega) h1
  unfold gLe
  generalize lowI w h = p at *
  generalize lowI w' h' = q at *
  have a1 := Int.mul_le_mul_of_nonneg_left hh hw
  have a2 := Int.mul_le_mul_of_nonneg_right hww (show 0 ≤ h by omega)
  have hkk : 0 < k * k' := Int.mul_pos hk hk'
  refine Int.le_of_mul_le_mul_right ?_ hkk
  have x1 : p.1 * q.2 * (k * k') = w * h' := by rw [← e1, ← e4]; simp [Int.mul_comm, Int.mul_left_comm]
  have x2 : q.1 * p.2 * (k * k') = w' * h := by rw [← e3, ← e2]; simp [Int.mul_comm, Int.mul_left_comm]
  omega
theorem min_le_of {G G' : List (Int × Int)} (h : ∀ p ∈ G, 1 ≤ p.2) (h' : ∀ p ∈ G', 1 ≤ p.2) (hne : G' ≠ []) (hr : ∀ q ∈ G', ∃ p ∈ G, gLe p q) : gLe (minL G) (minL G') := by
  have hm := minL_mem hne
  obtain ⟨p, hp, hle⟩ := hr _ hm
  have hg : G ≠ [] := fun h0 => by rw [h0] at hp; cases hp
  exact gLe_trans (h _ (minL_mem hg)) (h p hp) (h' _ hm) (minL_le h p hp) hle
/-- Claims each of which reaches as far, for no more heads. -/
def LW : List Claim → List Claim → Prop
  | [], [] => True
  | c :: l, c' :: l' => (c'.from_ ≤ c.from_ ∧ c.to ≤ c'.to ∧ 1 ≤ c'.heads ∧ c'.heads ≤ c.heads) ∧ LW l l'
  | _, _ => False
theorem LW_refl : ∀ {l : List Claim}, (∀ c ∈ l, 1 ≤ c.heads) → LW l l
  | [], _ => trivial
  | c :: l, h => ⟨⟨Int.le_refl _, Int.le_refl _, h c (by simp), Int.le_refl _⟩, LW_refl fun c hc => h c (by simp [hc])⟩
theorem LW_set : ∀ {l : List Claim} (i : Nat) {c c' : Claim}, (∀ c ∈ l, 1 ≤ c.heads) → l[i]? = some c → (c'.from_ ≤ c.from_ ∧ c.to ≤ c'.to ∧ 1 ≤ c'.heads ∧ c'.heads ≤ c.heads) → LW l (l.set i c')
  | [], i, _, _, _, h, _ => by simp at h
  | d :: l, 0, c, c', h, hc, hw => by
    simp at hc; subst hc
    exact ⟨hw, LW_refl fun c hc => h c (by simp [hc])⟩
  | d :: l, i + 1, c, c', h, hc, hw => ⟨⟨Int.le_refl _, Int.le_refl _, h d (by simp), Int.le_refl _⟩, LW_set i (fun c hc => h c (by simp [hc])) (by simpa using hc) hw⟩
theorem shr_LW : ∀ {e : List Drift} {l l' : List Claim} {last : Int}, LW l l' → shr last e l = true → shr last e l' = true
  | [], [], [], _, _, _ => rfl
  | [], _ :: _, _, _, _, h => by cases h
  | [], [], _ :: _, _, h, _ => h.elim
  | _ :: _, [], _, _, _, h => by cases h
  | d :: e, c :: l, [], _, h, _ => h.elim
  | d :: e, c :: l, c' :: l', last, hw, h => by
    simp only [shr, Bool.and_eq_true, decide_eq_true_eq] at h ⊢
    have := hw.1
    exact ⟨by omega, shr_LW hw.2 h.2⟩
theorem gains_LW {cl cl' : List Cell} (hc : okWorth cl) (hww : ∀ a b, worthV cl a b ≤ worthV cl' a b) : ∀ {e : List Drift} {l l' : List Claim}, LW l l' → ∀ q ∈ gainsL cl' l' e, ∃ p ∈ gainsL cl l e, gLe p q
  | [], _, _, _, q, hq => by simp [gainsL] at hq
  | _ :: _, [], [], _, q, hq => by simp [gainsL] at hq
  | _ :: _, [], _ :: _, h, _, _ => h.elim
  | _ :: _, _ :: _, [], h, _, _ => h.elim
  | d :: e, c :: l, c' :: l', hw, q, hq => by
    simp only [gainsL, List.zip_cons_cons, List.map_cons, List.mem_cons] at hq ⊢
    rcases hq with rfl | hq
    · have := hw.1
      exact ⟨_, .inl rfl, gain_le (seg_worth hc _ _).1 (hww _ _) (by omega) (by omega)⟩
    · obtain ⟨p, hp, hle⟩ := gains_LW hc hww hw.2 q hq
      exact ⟨p, .inr hp, hle⟩
theorem shr_last : ∀ {e : List Drift} {l : List Claim} {a b : Int}, b ≤ a → shr a e l = true → shr b e l = true
  | [], [], _, _, _, _ => rfl
  | [], _ :: _, _, _, _, h => by cases h
  | _ :: _, [], _, _, _, h => by cases h
  | d :: e, c :: l, a, b, hb, h => by
    simp only [shr, Bool.and_eq_true, decide_eq_true_eq] at h ⊢
    exact ⟨by omega, h.2⟩
theorem shr_erase : ∀ (i : Nat) {e : List Drift} {l : List Claim} {last : Int}, shr last e l = true → shr last (e.eraseIdx i) (l.eraseIdx i) = true
  | _, [], [], _, _ => by simp [shr]
  | _, [], _ :: _, _, h => by cases h
  | _, _ :: _, [], _, h => by cases h
  | 0, d :: e, c :: l, last, h => by
    simp only [shr, Bool.and_eq_true, decide_eq_true_eq] at h
    exact shr_last (by omega) h.2
  | i + 1, d :: e, c :: l, last, h => by
    simp only [shr, Bool.and_eq_true, decide_eq_true_eq, List.eraseIdx_cons_succ] at h ⊢
    exact ⟨h.1, shr_erase i h.2⟩
theorem gains_erase {cl : List Cell} : ∀ (i : Nat) {e : List Drift} {l : List Claim}, e.length = l.length → ∀ q ∈ gainsL cl (l.eraseIdx i) (e.eraseIdx i), q ∈ gainsL cl l e
  | _, [], _, _, q, hq => by simp [gainsL] at hq
  | _, _ :: _, [], h, _, _ => by simp at h
  | 0, d :: e, c :: l, h, q, hq => by
    simp only [gainsL, List.zip_cons_cons, List.map_cons, List.mem_cons]
    exact .inr hq
  | i + 1, d :: e, c :: l, h, q, hq => by
    simp only [List.eraseIdx_cons_succ, gainsL, List.zip_cons_cons, List.map_cons, List.mem_cons] at hq ⊢
    rcases hq with rfl | hq
    · exact .inl rfl
    · exact .inr (gains_erase i (by simpa using h) q hq)
theorem sum_mono : ∀ {l l' : List Cell}, l.length = l'.length → (∀ (k : Nat) c c', l[k]? = some c → l'[k]? = some c' → c.worth ≤ c'.worth) → (l.map Cell.worth).sum ≤ (l'.map Cell.worth).sum
  | [], [], _, _ => Int.le_refl _
  | [], _ :: _, h, _ => by simp at h
  | _ :: _, [], h, _ => by simp at h
  | c :: l, c' :: l', h, hk => by
    have := sum_mono (l := l) (l' := l') (by simpa using h) fun k c c' h1 h2 => hk (k + 1) c c' (by simpa using h1) (by simpa using h2)
    have := hk 0 c c' rfl rfl
    simp only [List.map_cons, List.sum_cons]; omega
theorem worth_set {cl : List Cell} {j : Nat} {c c' : Cell} (hc : cl[j]? = some c) (h : c.worth ≤ c'.worth) (a b : Int) : worthV cl a b ≤ worthV (cl.set j c') a b := by
  unfold worthV seg
  refine sum_mono (by simp) fun k x y h1 h2 => ?_
  rw [List.getElem?_drop, List.getElem?_take] at h1 h2
  split at h1
  · rename_i hk
    rw [if_pos hk, List.getElem?_set] at h2
    split at h2
    · rename_i hj
      rw [← hj, hc] at h1
      split at h2
      · cases h1; cases h2; exact h
      · cases h2
    · rw [h1] at h2; cases h2; exact Int.le_refl _
  · cases h1
/-- What was shared still is: the least gain of what is best now is no less. -/
theorem more_le {cl cl' : List Cell} {l l' : List Claim} {best mds best' mds' : List Drift} {mss mss' : List Int} {g g' : Int × Int} (hf : Fair cl l best g mds mss) (hf' : Fair cl' l' best' g' mds' mss') (hc : okWorth cl) (hc' : okWorth cl')
    (hv : ∀ c ∈ l, vClaim c.family c.heads c.from_ c.to = true) (hv' : ∀ c ∈ l', vClaim c.family c.heads c.from_ c.to = true ∧ c.to < cl'.length) (hl' : 1 ≤ l'.length) {e : List Drift} (he : shr (-1) e l' = true) (hr : ∀ q ∈ gainsL cl' l' e, ∃ p ∈ gainsL cl l best, gLe p q) : gLe g g' := by
  have hlen : (gainsL cl' l' e).length = l'.length := by simp [gainsL, shr_len he]
  have hlenb : (gainsL cl' l' best').length = l'.length := by simp [gainsL, shr_len hf'.shr_]
  have hne : gainsL cl' l' e ≠ [] := fun h => by rw [h] at hlen; simp at hlen; omega
  have hneb : gainsL cl' l' best' ≠ [] := fun h => by rw [h] at hlenb; simp at hlenb; omega
  have o1 := gains_ok (ds := best) hc hv
  have o2 := gains_ok (ds := e) hc' (fun c h => (hv' c h).1)
  have o3 := gains_ok (ds := best') hc' (fun c h => (hv' c h).1)
  have m3 := o3 _ (minL_mem hneb)
  rw [← hf'.low] at m3
  have m2 := o2 _ (minL_mem hne)
  obtain ⟨p0, hp0, _⟩ := hr _ (minL_mem hne)
  have hg0 : gainsL cl l best ≠ [] := fun h0 => by rw [h0] at hp0; cases hp0
  have m1 := o1 _ (minL_mem hg0)
  rw [← hf.low] at m1
  have h1 := min_le_of (fun p h => (o1 p h).2.2.1) (fun p h => (o2 p h).2.2.1) hne hr
  rw [← hf.low] at h1
  have h2 := fair_best hf' hc' hv' m3.2.2.1 he
  refine gLe_trans m1.2.2.1 m2.2.2.1 m3.2.2.1 h1 ?_
  refine Classical.byContradiction fun h => ?_
  rw [gLt_iff.2 h] at h2; cases h2
end Go.VE
