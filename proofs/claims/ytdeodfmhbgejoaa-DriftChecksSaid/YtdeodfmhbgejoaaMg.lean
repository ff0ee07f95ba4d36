/- DriftChecks returns true for every ground, all claims, and any chain, cell, claim and day; no condition. -/
import Derived.Test.YtdeodfmhbgejoaaMf
import Derived.Test.YtdeodfmhbgejoaaMe
import Derived.Test.YtdeodfmhbgejoaaRows
/- The functions. -/
/- What the checks of the drifts hand back. -/
namespace Go.VE
open Go.RowKit Go.Proofs

theorem s59 (n : Nat) (x lo hi : Int) : FN (n + 1) 59 [il x, il lo, il hi] = some (0, [.d (bl (decide (lo ≤ x ∧ x ≤ hi)))]) := by
  rw [F59]
  simp only [G59, r_leq, r_cond, r_litb, r_out]
  by_cases h : lo ≤ x <;> simp [h]
theorem s61 (n : Nat) (x lo hi : Int) : FN (n + 1) 61 [il x, il lo, il hi] = some (0, [.d (bl (decide (lo ≤ x ∧ x ≤ hi)))]) := by
  rw [F61]
  simp only [G61, r_geq, r_leq, r_cond, r_litb, r_out]
  by_cases h : lo ≤ x <;> simp [h]

def vChain (id lo hi : Int) : Bool := decide (1 ≤ id ∧ id ≤ 99 ∧ 1 ≤ lo ∧ lo ≤ hi ∧ hi ≤ 1000)
theorem s19 (n : Nat) (id lo hi : Int) : FN (n + 2) 19 [il id, il lo, il hi] = some (0, [.d (il (if vChain id lo hi then 0 else 40))]) := by
  rw [F19]
  simp [G19, s59]
  unfold vChain
  repeat' split
  all_goals (first | rfl | (exfalso; simp at *; omega) | (simp at *; omega))
theorem s20 (n : Nat) (id lo hi : Int) : FN (n + 2) 20 [il id, il lo, il hi] = some (0, [.d (il (if vChain id lo hi then 0 else 40))]) := by
  rw [F20]
  simp [G20, s61]
  unfold vChain
  repeat' split
  all_goals (first | rfl | (exfalso; simp at *; omega) | (simp at *; omega))

def vCell (c l w : Int) : Bool := decide (1 ≤ c ∧ c ≤ 99 ∧ 1 ≤ l ∧ l ≤ 1000 ∧ 0 ≤ w ∧ w ≤ 10000)
theorem s21 (n : Nat) (c l w : Int) : FN (n + 2) 21 [il c, il l, il w] = some (0, [.d (il (if vCell c l w then 0 else 41))]) := by
  rw [F21]
  simp [G21, s59]
  unfold vCell
  repeat' split
  all_goals (first | rfl | (exfalso; simp at *; omega) | (simp at *; omega))
theorem s22 (n : Nat) (c l w : Int) : FN (n + 2) 22 [il c, il l, il w] = some (0, [.d (il (if vCell c l w then 0 else 41))]) := by
  rw [F22]
  simp [G22, s61]
  unfold vCell
  repeat' split
  all_goals (first | rfl | (exfalso; simp at *; omega) | (simp at *; omega))

def vClaim (f h a b : Int) : Bool := decide (1 ≤ f ∧ f ≤ 99 ∧ 1 ≤ h ∧ h ≤ 20 ∧ 0 ≤ a ∧ a ≤ b ∧ b < 24)
theorem s23 (n : Nat) (f h a b : Int) : FN (n + 2) 23 [il f, il h, il a, il b] = some (0, [.d (il (if vClaim f h a b then 0 else 43))]) := by
  rw [F23]
  simp [G23, s59]
  unfold vClaim
  repeat' split
  all_goals (first | rfl | (exfalso; simp at *; omega) | (simp at *; omega))
theorem s24 (n : Nat) (f h a b : Int) : FN (n + 2) 24 [il f, il h, il a, il b] = some (0, [.d (il (if vClaim f h a b then 0 else 43))]) := by
  rw [F24]
  simp [G24, s61]
  unfold vClaim
  repeat' split
  all_goals (first | rfl | (exfalso; simp at *; omega) | (simp at *; omega))
end Go.VE
/- Grounds and claims: what the checks hand back. -/
namespace Go.VE
open Go.RowKit Go.Proofs

structure Chain where
  id : Int
  lo : Int
  hi : Int
structure Cell where
  chain : Int
  links : Int
  worth : Int
structure Claim where
  family : Int
  heads : Int
  from_ : Int
  to : Int
  deriving DecidableEq
def rChain (c : Chain) : List D := [il c.id, il c.lo, il c.hi]
def rCell (c : Cell) : List D := [il c.chain, il c.links, il c.worth]
def rClaim (c : Claim) : List D := [il c.family, il c.heads, il c.from_, il c.to]
def dChains (l : List Chain) : D := .sl 3 (l.map rChain)
def dCells (l : List Cell) : D := .sl 3 (l.map rCell)
def dClaims (l : List Claim) : D := .sl 4 (l.map rClaim)

theorem rounds {l : Nat} (h : l ≤ 9223372036854775807) : ∃ k, M0 = k + l + 1 := ⟨M0 - l - 1, by have : M0 = 18446744073709551616 := rfl; omega⟩

/-- The place of a chain, from a place on. -/
def findC (id : Int) : List Chain → Nat → Option Nat
  | [], _ => none
  | c :: r, i => if c.id = id then some i else findC id r (i + 1)
theorem l63 (n : Nat) (id : Int) (cl : D) : ∀ (suf pre : List Chain) (k : Nat), (pre ++ suf).length ≤ 9223372036854775806 →
    loopR [L63_0 (RP n)] (k + suf.length + 1) 0 [.d (il id), .d (il pre.length), .d (dChains (pre ++ suf)), .d cl] = match findC id suf pre.length with
      | some j => some (0, [.d (il j)])
      | none => some (1, [])
  | [], pre, k, hl => by simp [loopR1, L63_0, dChains, findC]
  | c :: suf, pre, k, hl => by
    have ih := l63 n id cl suf (pre ++ [c]) k (by simpa using hl)
    simp only [List.append_assoc, List.singleton_append, List.length_append, List.length_singleton] at ih
    simp only [List.length_cons, List.length_append] at hl ⊢
    rw [loopR1]
    have hw : IntKind.i64.wrap ((pre.length : Int) + 1) = ((pre.length + 1 : Nat) : Int) := by rw [wrap_id (by omega) (by omega)]; simp
    have hr : (List.map rChain (pre ++ c :: suf))[pre.length]? = some (rChain c) := by simp
    have hlt : (pre.length : Int) < ((pre.length + (suf.length + 1) : Nat) : Int) := by omega
    simp only [L63_0, dChains, r_ld0, r_lds, r_lenD, r_lss, r_cond, List.length_map, List.length_append, List.length_cons, hlt, decide_true, if_true, findC]
    rw [r_rowDn 3 _ _ _ _ hr rfl]
    simp only [rChain, r_cell0, r_eql, r_cond, decide_eq_true_eq, r_out, r_liti, r_add, hw, findC]
    split
    · rfl
    · exact ih

def ltO : Option Int → Int → Bool
  | none, _ => true
  | some q, x => decide (q < x)
/-- The chains are valid and rise. -/
def okChains : Option Int → List Chain → Bool
  | _, [] => true
  | p, c :: r => vChain c.id c.lo c.hi && ltO p c.id && okChains (some c.id) r
def lastId (l : List Chain) : Option Int := l.getLast?.map (·.id)
theorem lastId_snoc (l : List Chain) (c : Chain) : lastId (l ++ [c]) = some c.id := by simp [lastId]

theorem l15a (n : Nat) (x : D) : ∀ (suf pre : List Chain) (k : Nat), (pre ++ suf).length ≤ 9223372036854775806 →
    loopR [L15_0 (RP (n + 2))] (k + suf.length + 1) 0 [.d (dChains (pre ++ suf)), .d (il (pre ++ suf).length), .d (il pre.length), .d (dChains (pre ++ suf)), .d x] =
      if okChains (lastId pre) suf = true then some (1, [.d (dChains (pre ++ suf)), .d x]) else some (0, [.d (il 42)])
  | [], pre, k, hl => by simp [loopR1, L15_0, okChains]
  | c :: suf, pre, k, hl => by
    have ih := l15a n x suf (pre ++ [c]) k (by simpa using hl)
    simp only [List.append_assoc, List.singleton_append, List.length_append, List.length_singleton, lastId_snoc] at ih
    simp only [List.length_cons, List.length_append] at hl ih ⊢
    rw [loopR1]
    have hw : IntKind.i64.wrap ((pre.length : Int) + 1) = ((pre.length + 1 : Nat) : Int) := by rw [wrap_id (by omega) (by omega)]; simp
    have hr : (List.map rChain (pre ++ c :: suf))[pre.length]? = some (rChain c) := by simp
    have hlt : (pre.length : Int) < ((pre.length + (suf.length + 1) : Nat) : Int) := by omega
    simp only [L15_0, dChains, r_ld0, r_lds, r_lss, r_cond, hlt, decide_true, if_true]
    rw [r_rowDn 3 _ _ _ _ hr rfl]
    simp only [rChain, r_cell0, r_cells, r_call, s19, r_bnd0, r_ld0, r_liti, r_neq, r_cond, r_out, r_gtr, r_sub, r_add, hw, okChains]
    by_cases hv : vChain c.id c.lo c.hi = true
    · simp only [hv, if_true, Bool.true_and]
      rw [if_neg (by simp)]
      rcases List.eq_nil_or_concat pre with rfl | ⟨pre', q, hp⟩
      · simp [lastId, ltO] at ih ⊢
        exact ih
      · rw [List.concat_eq_append] at hp
        subst hp
        have hw2 : IntKind.i64.wrap (((pre' ++ [q]).length : Int) - 1) = ((pre'.length : Nat) : Int) := by
          simp only [List.length_append, List.length_singleton] at hl ⊢
          rw [wrap_id (by omega) (by omega)]; omega
        have hr2 : (List.map rChain ((pre' ++ [q]) ++ c :: suf))[pre'.length]? = some (rChain q) := by simp
        rw [if_pos (by simp), hw2, r_rowDn 3 _ _ _ _ hr2 rfl]
        simp only [rChain, r_cell0, r_geq, r_cond, decide_eq_true_eq, r_out, lastId_snoc, ltO]
        by_cases hq : c.id ≤ q.id
        · rw [if_pos hq, if_neg (by simp; omega)]
        · rw [if_neg hq]
          have : decide (q.id < c.id) = true := by simp; omega
          simp only [this, Bool.true_and]
          exact ih
    · simp only [hv, Bool.false_and]
      simp

/-! ### the map of chains -/
def kChain (c : Chain) : Value := .int .i64 c.id
theorem mFind_ok (x : Int) : ∀ (l : List Chain) (j : Nat), mFind 0 (.int .i64 x) (l.map kChain) j = some (findC x l j)
  | [], j => rfl
  | c :: l, j => by
    simp only [List.map_cons, mFind, kChain, kEq, if_true, findC]
    by_cases h : c.id = x
    · simp [h]
    · have : (x == c.id) = false := by simp; exact fun e => h e.symm
      simp only [this, h, if_false]
      exact mFind_ok x l (j + 1)
theorem findC_none {x : Int} : ∀ {l : List Chain} {j : Nat}, (∀ c ∈ l, c.id ≠ x) → findC x l j = none
  | [], j, _ => rfl
  | c :: l, j, h => by simp only [findC, if_neg (h c (by simp))]; exact findC_none fun c hc => h c (by simp [hc])
theorem findC_lt {x : Int} : ∀ {l : List Chain} {j i : Nat}, findC x l j = some i → j ≤ i ∧ i < j + l.length
  | [], j, i, h => by cases h
  | c :: l, j, i, h => by
    simp only [findC] at h
    split at h
    · cases h; simp
    · have := findC_lt h; simp; omega
def mpOf (l : List Chain) : Mr := (l.map kChain, (List.range l.length).map fun (i : Nat) => [il (i : Int)])
theorem upd_ok (l : List Chain) (c : Chain) (h : ∀ d ∈ l, d.id ≠ c.id) : updD 0 (mpOf l) (il c.id) [il l.length] = some (mpOf (l ++ [c])) := by
  simp only [updD, il, litD, isKey, if_true, mpOf, mFind_ok, findC_none h]
  simp [kChain, List.range_succ, il]
theorem look_ok (l : List Chain) (x : Int) : ∃ r, lookD 0 [.int .i64 0] (mpOf l) (il x) = some (r, bl (findC x l 0).isSome) := by
  simp only [lookD, il, litD, isKey, if_true, mpOf, mFind_ok]
  cases hf : findC x l 0 with
  | none => exact ⟨_, rfl⟩
  | some i =>
    have := findC_lt hf
    refine ⟨[il i], ?_⟩
    simp only [List.getElem?_map, List.getElem?_range (show i < l.length by omega), Option.map_some, Option.isSome_some]
    rfl
theorem l62 (n : Nat) : ∀ (suf pre : List Chain) (k : Nat), (pre ++ suf).length ≤ 9223372036854775806 → ((pre ++ suf).map (·.id)).Nodup →
    loopR [L62_0 (RP n)] (k + suf.length + 1) 0 [.d (dChains (pre ++ suf)), .d (il (pre ++ suf).length), .d (il pre.length), .m (mpOf pre)] = some (0, [.m (mpOf (pre ++ suf))])
  | [], pre, k, hl, hn => by simp [loopR1, L62_0]
  | c :: suf, pre, k, hl, hn => by
    have ih := l62 n suf (pre ++ [c]) k (by simpa using hl) (by simpa using hn)
    simp only [List.append_assoc, List.singleton_append, List.length_append, List.length_singleton] at ih
    simp only [List.length_cons, List.length_append] at hl ih ⊢
    rw [loopR1]
    have hw : IntKind.i64.wrap ((pre.length : Int) + 1) = ((pre.length + 1 : Nat) : Int) := by rw [wrap_id (by omega) (by omega)]; simp
    have hr : (List.map rChain (pre ++ c :: suf))[pre.length]? = some (rChain c) := by simp
    have hlt : (pre.length : Int) < ((pre.length + (suf.length + 1) : Nat) : Int) := by omega
    have hd : ∀ d ∈ pre, d.id ≠ c.id := by
      intro d hd e
      simp only [List.map_append, List.map_cons, List.nodup_append] at hn
      exact hn.2.2 d.id (List.mem_map.2 ⟨d, hd, rfl⟩) c.id (by simp) e
    simp only [L62_0, dChains, r_ld0, r_lds, r_lss, r_cond, hlt, decide_true, if_true]
    rw [r_rowDn 3 _ _ _ _ hr rfl]
    simp only [rChain, r_cell0, r_lms, r_lm0]
    rw [r_upd 0 _ _ _ _ _ (upd_ok pre c hd)]
    simp only [r_liti, r_add, hw]
    exact ih
theorem s62 (n : Nat) (cs : List Chain) (x : D) (hl : cs.length ≤ 9223372036854775806) (hn : (cs.map (·.id)).Nodup) : FN (n + 1) 62 [dChains cs, x] = some (0, [.m (mpOf cs)]) := by
  rw [F62]
  obtain ⟨k, hk⟩ := rounds (l := cs.length) (by omega)
  have := l62 n cs [] k (by simpa using hl) (by simpa using hn)
  simp only [List.nil_append, List.length_nil] at this
  simp only [G62, dChains, r_lenD, List.length_map, r_loop, hk, r_liti, r_emp]
  rw [show (0 : Int) = ((0 : Nat) : Int) from rfl, show (([], []) : Mr) = mpOf [] from rfl]
  simp only [dChains] at this
  rw [this]
  simp
end Go.VE
/- Grounds: what both checks hand back. -/
namespace Go.VE
open Go.RowKit Go.Proofs

theorem ids_nodup : ∀ {l : List Chain} {p : Option Int}, okChains p l = true → (∀ c ∈ l, ltO p c.id = true) ∧ (l.map (·.id)).Nodup
  | [], p, _ => by simp
  | c :: l, p, h => by
    simp only [okChains, Bool.and_eq_true] at h
    obtain ⟨h1, h2⟩ := ids_nodup h.2
    refine ⟨?_, ?_⟩
    · intro d hd
      rcases List.mem_cons.1 hd with rfl | hd
      · exact h.1.2
      · have := h1 d hd
        have h3 := h.1.2
        cases p with
        | none => rfl
        | some q => simp only [ltO, decide_eq_true_eq] at this h3 ⊢; omega
    · simp only [List.map_cons, List.nodup_cons, List.mem_map, not_exists, not_and]
      refine ⟨fun d hd e => ?_, h2⟩
      have := h1 d hd
      simp only [ltO, decide_eq_true_eq] at this
      omega

/-- The cells are valid, their chains known. -/
def okCells (cs : List Chain) : List Cell → Bool
  | [] => true
  | c :: r => vCell c.chain c.links c.worth && (findC c.chain cs 0).isSome && okCells cs r

set_option maxRecDepth 10000 in
theorem l15b (n : Nat) (cs : List Chain) : ∀ (suf pre : List Cell) (k : Nat), (pre ++ suf).length ≤ 9223372036854775806 →
    loopR [L15_1 (RP (n + 2))] (k + suf.length + 1) 0 [.d (dCells (pre ++ suf)), .d (il (pre ++ suf).length), .d (il pre.length), .m (mpOf cs)] =
      if okCells cs suf = true then some (1, []) else some (0, [.d (il 42)])
  | [], pre, k, hl => by simp [loopR1, L15_1, okCells]
  | c :: suf, pre, k, hl => by
    have ih := l15b n cs suf (pre ++ [c]) k (by simpa using hl)
    simp only [List.append_assoc, List.singleton_append, List.length_append, List.length_singleton] at ih
    simp only [List.length_cons, List.length_append] at hl ih ⊢
    rw [loopR1]
    have hw : IntKind.i64.wrap ((pre.length : Int) + 1) = ((pre.length + 1 : Nat) : Int) := by rw [wrap_id (by omega) (by omega)]; simp
    have hr : (List.map rCell (pre ++ c :: suf))[pre.length]? = some (rCell c) := by simp
    have hlt : (pre.length : Int) < ((pre.length + (suf.length + 1) : Nat) : Int) := by omega
    obtain ⟨r, hlook⟩ := look_ok cs c.chain
    simp only [L15_1, dCells, r_ld0, r_lds, r_lss, r_cond, hlt, decide_true, if_true]
    rw [r_rowDn 3 _ _ _ _ hr rfl]
    simp only [rCell, r_cell0, r_cells, r_lms, r_lm0]
    rw [r_look 0 _ _ _ _ _ hlook]
    simp only [r_call, s21, r_bnd0, r_ld0, r_liti, r_neq, r_cond, r_out, r_not, r_add, hw, okCells]
    by_cases hv : vCell c.chain c.links c.worth = true
    · simp only [hv, if_true, Bool.true_and]
      rw [if_neg (by simp)]
      cases hf : (findC c.chain cs 0).isSome with
      | true => simp only [Bool.not_true, Bool.true_and]; exact ih
      | false => simp
    · simp only [hv, Bool.false_and]
      simp

def okGround (cs : List Chain) (cl : List Cell) : Bool := decide (1 ≤ cs.length ∧ cs.length ≤ 6 ∧ 1 ≤ cl.length ∧ cl.length ≤ 24) && okChains none cs && okCells cs cl

set_option maxRecDepth 10000 in
theorem s15 (n : Nat) (cs : List Chain) (cl : List Cell) : FN (n + 3) 15 [dChains cs, dCells cl] = some (0, [.d (il (if okGround cs cl then 0 else 42))]) := by
  rw [F15]
  simp only [G15, dChains, dCells, r_lenD, List.length_map, r_liti, r_call, s59, r_bnd0, r_ld0, r_not, r_cond, r_out]
  by_cases h1 : 1 ≤ (cs.length : Int) ∧ (cs.length : Int) ≤ 6
  · by_cases h2 : 1 ≤ (cl.length : Int) ∧ (cl.length : Int) ≤ 24
    · simp only [h1, h2, decide_true, and_self, Bool.not_true, Bool.false_eq_true, if_false, r_loop]
      obtain ⟨k, hk⟩ := rounds (l := cs.length) (by omega)
      have e1 := l15a n (dCells cl) cs [] k (by simp; omega)
      simp only [List.nil_append, List.length_nil, dChains, dCells, ← hk] at e1
      rw [show (0 : Int) = ((0 : Nat) : Int) from rfl, e1]
      by_cases h3 : okChains none cs = true
      · rw [if_pos (by simpa [lastId] using h3)]
        simp only [r_bnd1, r_ld0, r_lds, r_call]
        have e2 := s62 (n + 1) cs (dCells cl) (by omega) (ids_nodup h3).2
        simp only [dChains, dCells] at e2
        rw [e2]
        simp only [r_bnd0, r_lenD, r_lm0, List.length_map, r_loop]
        obtain ⟨k2, hk2⟩ := rounds (l := cl.length) (by omega)
        have e3 := l15b n cs cl [] k2 (by simp; omega)
        simp only [List.nil_append, List.length_nil, dCells, ← hk2] at e3
        rw [e3]
        by_cases h4 : okCells cs cl = true
        · rw [if_pos h4, r_bnd1]
          have : okGround cs cl = true := by simp [okGround, h3, h4]; omega
          simp [this]
        · rw [if_neg h4, r_bnd0]
          have : okGround cs cl = false := by simp [okGround, h4]
          simp [this]
      · rw [if_neg (by simpa [lastId] using h3), r_bnd0]
        have : okGround cs cl = false := by simp [okGround, h3]
        simp [this]
    · have : okGround cs cl = false := by simp [okGround]; intros; omega
      simp [h1, h2, this]
  · have : okGround cs cl = false := by simp [okGround]; intros; omega
    simp [h1, this]

theorem s63 (n : Nat) (cs : List Chain) (x : D) (id : Int) (hl : cs.length ≤ 9223372036854775806) : FN (n + 1) 63 [dChains cs, x, il id] = some (0, [.d (il (match findC id cs 0 with | some j => (j : Int) | none => -1))]) := by
  rw [F63]
  obtain ⟨k, hk⟩ := rounds (l := cs.length) (by omega)
  have e := l63 n id x cs [] k (by simpa using hl)
  simp only [List.nil_append, List.length_nil, ← hk] at e
  simp only [G63, r_loop, r_liti]
  rw [show (0 : Int) = ((0 : Nat) : Int) from rfl, e]
  cases findC id cs 0 <;> simp

theorem l16a (n : Nat) (x : D) : ∀ (suf pre : List Chain) (k : Nat), (pre ++ suf).length ≤ 9223372036854775806 →
    loopR [L16_0 (RP (n + 2))] (k + suf.length + 1) 0 [.d (il pre.length), .d (dChains (pre ++ suf)), .d x] =
      if okChains (lastId pre) suf = true then some (1, [.d (dChains (pre ++ suf)), .d x]) else some (0, [.d (il 42)])
  | [], pre, k, hl => by simp [loopR1, L16_0, okChains, dChains]
  | c :: suf, pre, k, hl => by
    have ih := l16a n x suf (pre ++ [c]) k (by simpa using hl)
    simp only [List.append_assoc, List.singleton_append, List.length_append, List.length_singleton, lastId_snoc] at ih
    simp only [List.length_cons, List.length_append] at hl ih ⊢
    rw [loopR1]
    have hw : IntKind.i64.wrap ((pre.length : Int) + 1) = ((pre.length + 1 : Nat) : Int) := by rw [wrap_id (by omega) (by omega)]; simp
    have hr : (List.map rChain (pre ++ c :: suf))[pre.length]? = some (rChain c) := by simp
    have hlt : (pre.length : Int) < ((pre.length + (suf.length + 1) : Nat) : Int) := by omega
    simp only [L16_0, dChains, r_ld0, r_lds, r_lenD, List.length_map, List.length_append, List.length_cons, r_lss, r_cond, hlt, decide_true, if_true]
    rw [r_rowDn 3 _ _ _ _ hr rfl]
    simp only [rChain, r_cell0, r_cells, r_call, s20, r_bnd0, r_ld0, r_liti, r_neq, r_cond, r_out, r_gtr, r_sub, r_add, hw, okChains]
    by_cases hv : vChain c.id c.lo c.hi = true
    · simp only [hv, if_true, Bool.true_and]
      rw [if_neg (by simp)]
      rcases List.eq_nil_or_concat pre with rfl | ⟨pre', q, hp⟩
      · simp [lastId, ltO] at ih ⊢
        exact ih
      · rw [List.concat_eq_append] at hp
        subst hp
        have hw2 : IntKind.i64.wrap (((pre' ++ [q]).length : Int) - 1) = ((pre'.length : Nat) : Int) := by
          simp only [List.length_append, List.length_singleton] at hl ⊢
          rw [wrap_id (by omega) (by omega)]; omega
        have hr2 : (List.map rChain ((pre' ++ [q]) ++ c :: suf))[pre'.length]? = some (rChain q) := by simp
        rw [if_pos (by simp), hw2, r_rowDn 3 _ _ _ _ hr2 rfl, r_rowDn 3 _ _ _ _ hr rfl]
        simp only [rChain, r_cell0, r_geq, r_cond, decide_eq_true_eq, r_out, lastId_snoc, ltO]
        by_cases hq : c.id ≤ q.id
        · rw [if_pos hq, if_neg (by simp; omega)]
        · rw [if_neg hq]
          have : decide (q.id < c.id) = true := by simp; omega
          simp only [this, Bool.true_and]
          exact ih
    · simp only [hv, Bool.false_and]
      simp

set_option maxRecDepth 10000 in
theorem l16b (n : Nat) (cs : List Chain) (hcs : cs.length ≤ 9223372036854775806) : ∀ (suf pre : List Cell) (k : Nat), (pre ++ suf).length ≤ 9223372036854775806 →
    loopR [L16_1 (RP (n + 2))] (k + suf.length + 1) 0 [.d (il pre.length), .d (dChains cs), .d (dCells (pre ++ suf))] =
      if okCells cs suf = true then some (1, []) else some (0, [.d (il 42)])
  | [], pre, k, hl => by simp [loopR1, L16_1, okCells, dCells]
  | c :: suf, pre, k, hl => by
    have ih := l16b n cs hcs suf (pre ++ [c]) k (by simpa using hl)
    simp only [List.append_assoc, List.singleton_append, List.length_append, List.length_singleton] at ih
    simp only [List.length_cons, List.length_append] at hl ih ⊢
    rw [loopR1]
    have hw : IntKind.i64.wrap ((pre.length : Int) + 1) = ((pre.length + 1 : Nat) : Int) := by rw [wrap_id (by omega) (by omega)]; simp
    have hr : (List.map rCell (pre ++ c :: suf))[pre.length]? = some (rCell c) := by simp
    have hlt : (pre.length : Int) < ((pre.length + (suf.length + 1) : Nat) : Int) := by omega
    have h63 := s63 (n + 1) cs (dCells (pre ++ c :: suf)) c.chain hcs
    simp only [dCells] at h63
    simp only [L16_1, dCells, r_ld0, r_lds, r_lenD, List.length_map, List.length_append, List.length_cons, r_lss, r_cond, hlt, decide_true, if_true]
    rw [r_rowDn 3 _ _ _ _ hr rfl]
    simp only [rCell, r_cell0, r_cells, r_call, s22, r_bnd0, r_ld0, r_liti, r_neq, r_cond, r_out, okCells]
    by_cases hv : vCell c.chain c.links c.worth = true
    · simp only [hv, if_true, Bool.true_and]
      rw [if_neg (by simp), r_rowDn 3 _ _ _ _ hr rfl]
      simp only [rCell, r_cell0]
      rw [h63]
      simp only [r_bnd0, r_ld0, r_lss, r_cond, decide_eq_true_eq, r_add, hw]
      cases hf : findC c.chain cs 0 with
      | some j => simp only [Option.isSome_some, Bool.true_and]; rw [if_neg (by omega)]; exact ih
      | none => simp
    · simp only [hv, Bool.false_and]
      simp

set_option maxRecDepth 10000 in
theorem s16 (n : Nat) (cs : List Chain) (cl : List Cell) : FN (n + 3) 16 [dChains cs, dCells cl] = some (0, [.d (il (if okGround cs cl then 0 else 42))]) := by
  rw [F16]
  simp only [G16, dChains, dCells, r_lenD, List.length_map, r_liti, r_call, s61, r_bnd0, r_ld0, r_not, r_cond, r_out]
  by_cases h1 : 1 ≤ (cs.length : Int) ∧ (cs.length : Int) ≤ 6
  · by_cases h2 : 1 ≤ (cl.length : Int) ∧ (cl.length : Int) ≤ 24
    · simp only [h1, h2, decide_true, and_self, Bool.not_true, Bool.false_eq_true, if_false, r_loop]
      obtain ⟨k, hk⟩ := rounds (l := cs.length) (by omega)
      have e1 := l16a n (dCells cl) cs [] k (by simp; omega)
      simp only [List.nil_append, List.length_nil, dChains, dCells, ← hk] at e1
      rw [show (0 : Int) = ((0 : Nat) : Int) from rfl, e1]
      by_cases h3 : okChains none cs = true
      · rw [if_pos (by simpa [lastId] using h3)]
        simp only [r_bnd1, r_ld0, r_lds, r_loop]
        obtain ⟨k2, hk2⟩ := rounds (l := cl.length) (by omega)
        have e3 := l16b n cs (by omega) cl [] k2 (by simp; omega)
        simp only [List.nil_append, List.length_nil, dChains, dCells, ← hk2] at e3
        rw [e3]
        by_cases h4 : okCells cs cl = true
        · rw [if_pos h4, r_bnd1]
          have : okGround cs cl = true := by simp [okGround, h3, h4]; omega
          simp [this]
        · rw [if_neg h4, r_bnd0]
          have : okGround cs cl = false := by simp [okGround, h4]
          simp [this]
      · rw [if_neg (by simpa [lastId] using h3), r_bnd0]
        have : okGround cs cl = false := by simp [okGround, h3]
        simp [this]
    · have : okGround cs cl = false := by simp [okGround]; intros; omega
      simp [h1, h2, this]
  · have : okGround cs cl = false := by simp [okGround]; intros; omega
    simp [h1, this]
end Go.VE
/- Claims: what both checks hand back. -/
namespace Go.VE
open Go.RowKit Go.Proofs

theorem s65 (n : Nat) (a b c d e f g h : Int) : FN (n + 1) 65 [il a, il b, il c, il d, il e, il f, il g, il h] = some (0, [.d (bl (decide (a = e)))]) := by
  rw [F65]; simp [G65]
theorem d65 (n : Nat) (x c : Claim) : FnDof (cf3 tb Try.prog) (FN (n + 1)) (.fn 65 [.dp (rClaim c) 0]) [.agg 4] (rClaim x) = some (0, [.d (bl (decide (x.family = c.family)))]) := by
  simp [FnDof, vdsOf, flatV, cf3, tb, ashT, rskT, isOneD, rClaim, s65, D.isLit, bl]

/-- The first place of a claim of a family, from a place on. -/
def findF (f : Int) : List Claim → Nat → Option Nat
  | [], _ => none
  | c :: r, i => if c.family = f then some i else findF f r (i + 1)
theorem l90 (n : Nat) (c : Claim) : ∀ (suf pre : List Claim) (k : Nat), (pre ++ suf).length ≤ 9223372036854775806 →
    loopR [L90_0 (RP (n + 1))] (k + suf.length + 1) 0 [.d (dClaims (pre ++ suf)), .d (.fn 65 [.dp (rClaim c) 0]), .d (il (pre ++ suf).length), .d (il pre.length)] =
      match findF c.family suf pre.length with
      | some j => some (0, [.d (il j)])
      | none => some (1, [])
  | [], pre, k, hl => by simp [loopR1, L90_0, findF]
  | x :: suf, pre, k, hl => by
    have ih := l90 n c suf (pre ++ [x]) k (by simpa using hl)
    simp only [List.append_assoc, List.singleton_append, List.length_append, List.length_singleton] at ih
    simp only [List.length_cons, List.length_append] at hl ih ⊢
    rw [loopR1]
    have hw : IntKind.i64.wrap ((pre.length : Int) + 1) = ((pre.length + 1 : Nat) : Int) := by rw [wrap_id (by omega) (by omega)]; simp
    have hr : (List.map rClaim (pre ++ x :: suf))[pre.length]? = some (rClaim x) := by simp
    have hlt : (pre.length : Int) < ((pre.length + (suf.length + 1) : Nat) : Int) := by omega
    have hd := d65 n x c
    simp only [L90_0, dClaims, r_ld0, r_lds, r_lss, r_cond, hlt, decide_true, if_true]
    rw [r_rowDn 4 _ _ _ _ hr rfl]
    simp only [rClaim, r_cell0, r_cells, r_callD] at hd ⊢
    rw [hd]
    simp only [r_bnd0, r_ld0, r_cond, r_out, r_liti, r_add, hw, findF, decide_eq_true_eq]
    by_cases hf : x.family = c.family
    · simp [hf]
    · rw [if_neg hf, if_neg hf]; exact ih
theorem s64 (n : Nat) (l : List Claim) (c : Claim) (hl : l.length ≤ 9223372036854775806) : FN (n + 3) 64 [dClaims l, .fn 65 [.dp (rClaim c) 0]] = some (0, [.d (bl (findF c.family l 0).isSome)]) := by
  rw [F64]
  simp only [G64, r_call]
  rw [F90]
  obtain ⟨k, hk⟩ := rounds (l := l.length) (by omega)
  have e := l90 n c l [] k (by simpa using hl)
  simp only [List.nil_append, List.length_nil, ← hk] at e
  simp only [G90, dClaims, r_lenD, List.length_map, r_loop, r_liti]
  rw [show (0 : Int) = ((0 : Nat) : Int) from rfl]
  simp only [dClaims] at e
  rw [e]
  cases findF c.family l 0 <;> simp
end Go.VE
/- Claims: what both checks hand back, whole. -/
namespace Go.VE
open Go.RowKit Go.Proofs

def okClaims (nc : Nat) : List Claim → List Claim → Bool
  | _, [] => true
  | pre, c :: r => vClaim c.family c.heads c.from_ c.to && !(findF c.family pre 0).isSome && decide (c.to < nc) && okClaims nc (pre ++ [c]) r

set_option maxRecDepth 10000 in
theorem l17 (n : Nat) (a : D) (cl : List Cell) : ∀ (suf pre : List Claim) (k : Nat), (pre ++ suf).length ≤ 9223372036854775806 →
    loopR [L17_0 (RP (n + 3))] (k + suf.length + 1) 0 [.d (dClaims (pre ++ suf)), .d (dClaims (pre ++ suf)), .d (il (pre ++ suf).length), .d (il pre.length), .d a, .d (dCells cl)] =
      if okClaims cl.length pre suf = true then some (1, []) else some (0, [.d (il 44)])
  | [], pre, k, hl => by simp [loopR1, L17_0, okClaims]
  | c :: suf, pre, k, hl => by
    have ih := l17 n a cl suf (pre ++ [c]) k (by simpa using hl)
    simp only [List.append_assoc, List.singleton_append, List.length_append, List.length_singleton] at ih
    simp only [List.length_cons, List.length_append] at hl ih ⊢
    rw [loopR1]
    have hw : IntKind.i64.wrap ((pre.length : Int) + 1) = ((pre.length + 1 : Nat) : Int) := by rw [wrap_id (by omega) (by omega)]; simp
    have hr : (List.map rClaim (pre ++ c :: suf))[pre.length]? = some (rClaim c) := by simp
    have hlt : (pre.length : Int) < ((pre.length + (suf.length + 1) : Nat) : Int) := by omega
    have hcut : (List.map rClaim (pre ++ c :: suf)).take ((pre.length : Int)).toNat = pre.map rClaim := by simp
    have h64 := s64 n pre c (by omega)
    simp only [dClaims, rClaim] at h64
    simp only [L17_0, dClaims, r_ld0, r_lds, r_lss, r_cond, hlt, decide_true, if_true]
    rw [r_rowDn 4 _ _ _ _ hr rfl, r_cutD_hi 4 _ _ _ (by simp; omega), hcut]
    simp only [rClaim, r_cell0, r_cells, r_call, r_fnD, r_dpD]
    rw [h64]
    simp only [r_bnd0, r_ld0, r_lits, s23, r_liti, r_neq, r_cond, r_out, okClaims, dCells, r_lenD, List.length_map, r_geq, r_add, hw]
    rw [if_pos (by simp [ynLit, D.isLit, bl])]
    by_cases hv : vClaim c.family c.heads c.from_ c.to = true
    · simp only [hv, if_true, Bool.true_and]
      rw [if_neg (by simp)]
      cases hf : (findF c.family pre 0).isSome with
      | true => simp
      | false =>
        simp only [Bool.false_eq_true, if_false, Bool.not_false, Bool.true_and]
        by_cases hc : (cl.length : Int) ≤ c.to
        · rw [if_pos (by simpa using hc)]
          have : decide (c.to < (cl.length : Int)) = false := by simp; omega
          simp [this]
        · rw [if_neg (by simpa using hc)]
          have : decide (c.to < (cl.length : Int)) = true := by simp; omega
          simp only [this, Bool.true_and]
          exact ih
    · simp only [hv, Bool.false_and]
      simp

def cOK (cs : List Chain) (cl : List Cell) (l : List Claim) : Int := if okGround cs cl then (if decide (1 ≤ l.length ∧ l.length ≤ 12) && okClaims cl.length [] l then 0 else 44) else 42

set_option maxRecDepth 10000 in
theorem s17 (n : Nat) (cs : List Chain) (cl : List Cell) (l : List Claim) : FN (n + 4) 17 [dChains cs, dCells cl, dClaims l] = some (0, [.d (il (cOK cs cl l))]) := by
  rw [F17]
  simp only [G17, r_call]
  rw [s15]
  simp only [r_bnd0, r_ld0, r_liti, r_neq, r_cond, r_out]
  by_cases hg : okGround cs cl = true
  · simp only [hg, if_true, cOK]
    rw [if_neg (by simp)]
    simp only [dClaims, r_lenD, List.length_map, r_call, s59, r_bnd0, r_ld0, r_not, r_cond, r_out, r_loop]
    by_cases h1 : 1 ≤ (l.length : Int) ∧ (l.length : Int) ≤ 12
    · simp only [h1, decide_true, and_self, Bool.not_true, Bool.false_eq_true, if_false]
      obtain ⟨k, hk⟩ := rounds (l := l.length) (by omega)
      have e := l17 n (dChains cs) cl l [] k (by simp; omega)
      simp only [List.nil_append, List.length_nil, dClaims, ← hk] at e
      rw [show (0 : Int) = ((0 : Nat) : Int) from rfl, e]
      have h1' : decide (1 ≤ l.length ∧ l.length ≤ 12) = true := by simp; omega
      simp only [h1', Bool.true_and]
      by_cases h2 : okClaims cl.length [] l = true
      · simp [h2]
      · simp [h2]
    · have h1' : decide (1 ≤ l.length ∧ l.length ≤ 12) = false := by simp; intros; omega
      simp [h1, h1']
  · simp [hg, cOK]

theorem l66a (n : Nat) (a b : D) (c : Claim) (post : List Claim) : ∀ (suf pre : List Claim) (k : Nat), (pre ++ suf ++ c :: post).length ≤ 9223372036854775806 →
    loopR [L66_0 (RP n)] (k + suf.length + 1) 0 [.d (dClaims (pre ++ suf ++ c :: post)), .d (il (pre ++ suf).length), .d (il pre.length), .d a, .d b] =
      if (findF c.family suf pre.length).isSome = true then some (0, [.d (bl false)]) else some (1, [.d (dClaims (pre ++ suf ++ c :: post)), .d (il (pre ++ suf).length), .d a, .d b])
  | [], pre, k, hl => by simp [loopR1, L66_0, findF]
  | x :: suf, pre, k, hl => by
    have ih := l66a n a b c post suf (pre ++ [x]) k (by simpa using hl)
    simp only [List.append_assoc, List.singleton_append, List.cons_append, List.length_append, List.length_singleton] at ih
    simp only [List.append_assoc, List.cons_append, List.length_cons, List.length_append] at hl ih ⊢
    rw [loopR1]
    have hw : IntKind.i64.wrap ((pre.length : Int) + 1) = ((pre.length + 1 : Nat) : Int) := by rw [wrap_id (by omega) (by omega)]; simp
    have hr : (List.map rClaim (pre ++ x :: (suf ++ c :: post)))[pre.length]? = some (rClaim x) := by simp
    have hr2 : (List.map rClaim (pre ++ x :: (suf ++ c :: post)))[pre.length + (suf.length + 1)]? = some (rClaim c) := by simp
    have hlt : (pre.length : Int) < ((pre.length + (suf.length + 1) : Nat) : Int) := by omega
    simp only [L66_0, dClaims, r_ld0, r_lds, r_lss, r_cond, hlt, decide_true, if_true]
    rw [r_rowDn 4 _ _ _ _ hr rfl, r_rowDn 4 _ _ _ _ hr2 rfl]
    simp only [rClaim, r_cell0, r_eql, r_cond, decide_eq_true_eq, r_out, r_liti, r_litb, r_add, hw, findF]
    by_cases hf : x.family = c.family
    · simp [hf]
    · simp only [hf, if_false]
      simp only [List.nil_append, List.length_nil, Nat.zero_add] at ih
      exact ih

set_option maxRecDepth 10000 in
theorem l66b (n : Nat) (a : D) (cl : List Cell) : ∀ (suf pre : List Claim) (k : Nat), (pre ++ suf).length ≤ 9223372036854775806 →
    loopR [L66_1 (RP (n + 2))] (k + suf.length + 1) 0 [.d (dClaims (pre ++ suf)), .d (il pre.length), .d a, .d (dCells cl)] =
      if okClaims cl.length pre suf = true then some (1, [.d (dClaims (pre ++ suf))]) else some (0, [.d (bl false)])
  | [], pre, k, hl => by simp [loopR1, L66_1, okClaims, dClaims]
  | c :: suf, pre, k, hl => by
    have ih := l66b n a cl suf (pre ++ [c]) k (by simpa using hl)
    simp only [List.append_assoc, List.singleton_append, List.length_append, List.length_singleton] at ih
    simp only [List.length_cons, List.length_append] at hl ih ⊢
    rw [loopR1]
    have hw : IntKind.i64.wrap ((pre.length : Int) + 1) = ((pre.length + 1 : Nat) : Int) := by rw [wrap_id (by omega) (by omega)]; simp
    have hr : (List.map rClaim (pre ++ c :: suf))[pre.length]? = some (rClaim c) := by simp
    have hlt : (pre.length : Int) < ((pre.length + (suf.length + 1) : Nat) : Int) := by omega
    obtain ⟨k2, hk2⟩ := rounds (l := pre.length) (by omega)
    have e := l66a (n + 2) a (dCells cl) c suf pre [] k2 (by simp; omega)
    simp only [List.nil_append, List.length_nil, ← hk2] at e
    simp only [L66_1, dClaims, r_ld0, r_lds, r_lenD, List.length_map, List.length_append, List.length_cons, r_lss, r_cond, hlt, decide_true, if_true]
    rw [r_rowDn 4 _ _ _ _ hr rfl]
    simp only [rClaim, r_cell0, r_cells, r_call, s24, r_bnd0, r_ld0, r_liti, r_litb, r_neq, r_cond, r_out, okClaims]
    by_cases hv : vClaim c.family c.heads c.from_ c.to = true
    · simp only [hv, if_true, Bool.true_and]
      rw [if_neg (by simp), r_rowDn 4 _ _ _ _ hr rfl]
      simp only [rClaim, r_cell0, r_cells, dCells, r_lenD, List.length_map, r_geq, r_cond, r_loop]
      by_cases hc : (cl.length : Int) ≤ c.to
      · rw [if_pos (by simpa using hc)]
        have : decide (c.to < (cl.length : Int)) = false := by simp; omega
        simp [this]
      · rw [if_neg (by simpa using hc)]
        have : decide (c.to < (cl.length : Int)) = true := by simp; omega
        simp only [this, Bool.and_true]
        simp only [dClaims, dCells] at e
        rw [show (0 : Int) = ((0 : Nat) : Int) from rfl, e]
        cases hf : (findF c.family pre 0).isSome with
        | true => simp
        | false =>
          simp only [Bool.false_eq_true, if_false, r_bnd1, r_ld0, r_lds, r_add, hw, Bool.not_false, Bool.true_and]
          exact ih
    · simp only [hv, Bool.false_and]
      simp

set_option maxRecDepth 10000 in
theorem s18 (n : Nat) (cs : List Chain) (cl : List Cell) (l : List Claim) (hl : l.length ≤ 9223372036854775806) : FN (n + 4) 18 [dChains cs, dCells cl, dClaims l] = some (0, [.d (il (cOK cs cl l))]) := by
  rw [F18]
  simp only [G18, r_call]
  rw [s16]
  simp only [r_bnd0, r_ld0, r_liti, r_neq, r_cond, r_out]
  by_cases hg : okGround cs cl = true
  · simp only [hg, if_true, cOK]
    rw [if_neg (by simp), F66]
    obtain ⟨k, hk⟩ := rounds (l := l.length) (by omega)
    have e := l66b n (dChains cs) cl l [] k (by simpa using hl)
    simp only [List.nil_append, List.length_nil, ← hk] at e
    simp only [G66, r_loop, r_liti]
    rw [show (0 : Int) = ((0 : Nat) : Int) from rfl, e]
    by_cases h2 : okClaims cl.length [] l = true
    · rw [if_pos h2]
      simp only [r_bnd1, r_ld0, dClaims, r_lenD, List.length_map, r_call, s61, r_bnd0, r_out, r_not, r_cond]
      by_cases h1 : 1 ≤ (l.length : Int) ∧ (l.length : Int) ≤ 12
      · have h1' : decide (1 ≤ l.length ∧ l.length ≤ 12) = true := by simp; omega
        simp [h1, h1', h2]
      · have h1' : decide (1 ≤ l.length ∧ l.length ≤ 12) = false := by simp; intros; omega
        simp [h1, h1']
    · rw [if_neg h2]
      simp [h2]
  · simp [hg, cOK]
end Go.VE
/- Grow, Concat, the two Turns, SameClaims. -/
namespace Go.VE
open Go.RowKit Go.Proofs

section
variable (Fn : Nat → List D → Out) (FnD : D → List Sh → List D → Out) (m : Nat)
theorem r_gap (bs : Nat) (n : Int) (k : Nat → Out) (h : 0 < n ∧ bs * n ≤ 140737488355328 ∧ n ≤ 9223372036854775807) : (real Fn FnD m).gap bs (il n) k = k n.toNat := by simp [real, il, h]
theorem r_cutNat (z : Int) (n : Nat) (k : Nat → Nat → Out) (e : Out) (h : 0 ≤ z ∧ z ≤ n) : (real Fn FnD m).cut none (some (il z)) n k e = k 0 z.toNat := by simp [real, oIntD_n, oIntD_s, h]
theorem r_nilDD (k : Out) : (real Fn FnD m).nilD (.lit (.slice none 0 0)) k = k := rfl
theorem r_litS : (real Fn FnD m).lit (.slice none 0 0) = .lit (.slice none 0 0) := rfl
theorem r_cutDn (s : Nat) (z : Int) (k : D → Out) (h : z = 0) : (real Fn FnD m).cutD s (.lit (.slice none 0 0)) none (some (il z)) k = k (.lit (.slice none 0 0)) := by subst h; rfl
end

theorem s89 (n : Nat) (m : Int) (h : 0 < m ∧ m ≤ 4398046511104) : FN (n + 1) 89 [.lit (.slice none 0 0), il m] = some (0, [.r []]) := by
  rw [F89]
  have hw : IntKind.i64.wrap (m - IntKind.i64.wrap (0 - 0)) = m := by
    rw [show IntKind.i64.wrap ((0 : Int) - 0) = 0 from rfl, Int.sub_zero]; exact wrap_id (by omega) (by omega)
  have h1 : decide (m < 0) = false := by simp; omega
  have h2 : decide (0 < m) = true := by simp; omega
  simp only [G89, r_liti, r_litS, r_lss, r_cond, h1, r_bnd0, r_ld0, r_lds, r_nilDD, r_lenN, r_sub, hw, r_gtr, h2, Bool.false_eq_true, if_false, if_true, r_out]
  rw [r_cutDn _ _ _ _ _ _ rfl]
  simp only [r_nilDD]
  rw [r_gap _ _ _ _ _ _ ⟨h.1, by omega, by omega⟩]
  simp only [r_eqN, r_leN, r_len, r_repl, r_out, r_seg0, List.length_replicate, if_true]
  rw [r_cutNat _ _ _ _ _ _ _ ⟨by omega, by omega⟩]
  simp

set_option maxRecDepth 10000 in
theorem l60_0 (n k : Nat) (r1 r2 : Rr) (hl : r1.length + r2.length ≤ 4398046511104) :
    loopR [L60_0 (RP n)] (k + 2 + 1) 0 [.d (.sl 1 [[.sl 4 r1], [.sl 4 r2]]), .d (il 0), .d (.sl 1 [[.sl 4 r1], [.sl 4 r2]]), .d (il ((2 : Nat) : Int)), .d (il ((0 : Nat) : Int))] =
      some (0, [.d (.sl 1 [[.sl 4 r1], [.sl 4 r2]]), .d (il ((r1.length + r2.length : Nat) : Int))]) := by
  have w1 : IntKind.i64.wrap (0 + (r1.length : Int)) = ((r1.length : Nat) : Int) := by rw [wrap_id (by omega) (by omega)]; simp
  have w2 : IntKind.i64.wrap ((r1.length : Int) + (r2.length : Int)) = ((r1.length + r2.length : Nat) : Int) := by rw [wrap_id (by omega) (by omega)]; simp
  have i1 : IntKind.i64.wrap (((0 : Nat) : Int) + 1) = ((1 : Nat) : Int) := rfl
  have i2 : IntKind.i64.wrap (((1 : Nat) : Int) + 1) = ((2 : Nat) : Int) := rfl
  have d1 : decide (((r1.length : Nat) : Int) < 0) = false := by simp
  have d2 : decide (((r1.length + r2.length : Nat) : Int) < 0) = false := by simp; omega
  rw [loopR1]
  simp only [L60_0, r_ld0, r_lds, r_lss, r_cond, r_liti]
  rw [if_pos (by decide), r_rowDn 1 _ 0 _ [.sl 4 r1] rfl rfl]
  simp only [r_cell0, r_lenD, r_add, w1, r_lss, d1, r_cond, Bool.false_eq_true, if_false, i1]
  rw [loopR1]
  simp only [L60_0, r_ld0, r_lds, r_lss, r_cond, r_liti]
  rw [if_pos (by decide), r_rowDn 1 _ 1 _ [.sl 4 r2] rfl rfl]
  simp only [r_cell0, r_lenD, r_add, w2, r_lss, d2, r_cond, Bool.false_eq_true, if_false, i2]
  rw [loopR1]
  simp only [L60_0, r_ld0, r_lds, r_lss, r_cond, r_liti]
  rw [if_neg (by decide)]
  rfl

set_option maxRecDepth 10000 in
theorem l60_1 (n k : Nat) (r1 r2 : Rr) (hl : r1.length + r2.length ≤ 4398046511104) :
    loopR [L60_1 (RP n)] (k + 2 + 1) 0 [.n 0, .n 0, .d (.sl 1 [[.sl 4 r1], [.sl 4 r2]]), .d (il ((2 : Nat) : Int)), .d (il ((0 : Nat) : Int)), .r []] =
      some (0, [.n (r1.length + r2.length), .n (r1.length + r2.length), .r (r1 ++ r2)]) := by
  have i1 : IntKind.i64.wrap (((0 : Nat) : Int) + 1) = ((1 : Nat) : Int) := rfl
  have i2 : IntKind.i64.wrap (((1 : Nat) : Int) + 1) = ((2 : Nat) : Int) := rfl
  have hm : (maxLen : Nat) = 9223372036854775807 := rfl
  rw [loopR1]
  simp only [L60_1, r_ld0, r_lds, r_lss, r_cond, r_liti]
  rw [if_pos (by decide), r_rowDn 1 _ 0 _ [.sl 4 r1] rfl rfl]
  simp only [r_cell0, r_rowsD, r_ln0, r_lns, r_lr0, r_lrs, r_len, r_eqN, List.length_nil, if_true, r_addN, Nat.zero_add]
  rw [r_fits _ _ _ (by omega) (by omega)]
  simp only [r_add, i1, r_app, List.nil_append]
  rw [loopR1]
  simp only [L60_1, r_ld0, r_lds, r_lss, r_cond, r_liti]
  rw [if_pos (by decide), r_rowDn 1 _ 1 _ [.sl 4 r2] rfl rfl]
  simp only [r_cell0, r_rowsD, r_ln0, r_lns, r_lr0, r_lrs, r_len, r_eqN, if_true, r_addN]
  rw [r_fits _ _ _ (by omega) (by omega)]
  simp only [r_add, i2, r_app]
  rw [loopR1]
  simp only [L60_1, r_ld0, r_lds, r_lss, r_cond, r_liti]
  rw [if_neg (by decide)]
  rfl

theorem s60 (n : Nat) (r1 r2 : Rr) (hl : r1.length + r2.length ≤ 4398046511104) (hp : 0 < r1.length + r2.length) :
    FN (n + 2) 60 [.sl 1 [[.sl 4 r1], [.sl 4 r2]]] = some (0, [.r (r1 ++ r2)]) := by
  rw [F60]
  obtain ⟨k, hk⟩ := rounds (l := 2) (by omega)
  have e0 := l60_0 (n + 1) k r1 r2 hl
  have e1 := l60_1 (n + 1) k r1 r2 hl
  rw [← hk] at e0 e1
  have h89 := s89 n ((r1.length + r2.length : Nat) : Int) ⟨by omega, by omega⟩
  simp only [G60, r_lenD, r_loop, r_liti, r_litS]
  simp only [List.length_cons, List.length_nil, Nat.zero_add, Nat.reduceAdd]
  rw [show (0 : Int) = ((0 : Nat) : Int) from rfl]
  rw [show (il ((0 : Nat) : Int)) = il 0 from rfl] at e0
  erw [e0]
  simp only [r_bnd0, r_ld0, r_lds, r_call, h89, r_lr0, r_len, r_lenD, List.length_nil, r_loop]
  simp only [List.length_cons, List.length_nil, Nat.zero_add, Nat.reduceAdd]
  erw [e1]
  simp [r_bnd0, r_ln0, r_lns, r_lr0, r_lrs, r_len, r_eqN, r_leN, r_out, r_seg0]
  exact List.take_of_length_le (by simp)
end Go.VE
/- The two Turns. -/
namespace Go.VE
open Go.RowKit Go.Proofs

def rotN (l : List Claim) (d : Int) : List Claim := l.drop (d.tmod l.length).toNat ++ l.take (d.tmod l.length).toNat
def tErr (cs : List Chain) (cl : List Cell) (l : List Claim) (d : Int) : Int := if cOK cs cl l = 0 then (if 0 ≤ d ∧ d ≤ 4166 then 0 else 6) else cOK cs cl l
def tRes (cs : List Chain) (cl : List Cell) (l : List Claim) (d : Int) : D := if tErr cs cl l d = 0 then dClaims (rotN l d) else .lit (.slice none 0 0)

theorem cOK_len {cs : List Chain} {cl : List Cell} {l : List Claim} (h : cOK cs cl l = 0) : 1 ≤ l.length ∧ l.length ≤ 12 := by
  unfold cOK at h
  split at h
  · split at h
    · rename_i h2; simp at h2; omega
    · simp at h
  · simp at h

theorem cut_ok {l : List Claim} {d : Int} (h : 1 ≤ l.length) (hd : 0 ≤ d) : 0 ≤ d.tmod l.length ∧ d.tmod l.length ≤ l.length := by
  have h1 := Int.tmod_nonneg (l.length : Int) hd
  have h2 := Int.tmod_lt_of_pos d (show (0 : Int) < l.length by omega)
  omega

theorem r_litsT (Fn : Nat → List D → Out) (FnD : D → List Sh → List D → Out) (m : Nat) (ys : List Yr) (k : Out) (h : ys.all ynLit = true) : (real Fn FnD m).lits ys k = k := by rw [r_lits, if_pos h]
theorem lit_claims (l : List Claim) : ([Y.r (l.map rClaim)] : List Yr).all ynLit = true := by
  simp [ynLit, rClaim, il]
  intro x _; exact ⟨rfl, rfl, rfl, rfl⟩

theorem s12 (n : Nat) (cs : List Chain) (cl : List Cell) (l : List Claim) (d : Int) :
    FN (n + 5) 12 [dChains cs, dCells cl, dClaims l, il d] = some (0, [.d (tRes cs cl l d), .d (il (tErr cs cl l d))]) := by
  rw [F12]
  simp only [G12, r_call]
  rw [s17]
  simp only [r_bnd0, r_ld0, r_liti, r_litS, r_neq, r_cond, r_out]
  by_cases hc : cOK cs cl l = 0
  · have hl := cOK_len hc
    rw [if_neg (by simp [hc]), s59]
    simp only [r_bnd0, r_ld0, r_not, r_cond]
    by_cases hd : 0 ≤ d ∧ d ≤ 4166
    · have hr := cut_ok hl.1 hd.1
      have e : FN (n + 4) 60 [.sl 1 [[.sl 4 (List.drop (d.tmod l.length).toNat (l.map rClaim))], [.sl 4 (List.take (d.tmod l.length).toNat (l.map rClaim))]]] = _ := s60 (n + 2) _ _ (by simp; omega) (by simp; omega)
      have he : tErr cs cl l d = 0 := by simp [tErr, hc, hd]
      rw [if_neg (by simp [hd])]
      simp only [dClaims, r_lenD, List.length_map]
      rw [r_rem _ _ _ _ (by omega)]
      rw [r_cutD_lo _ _ _ _ (by simpa using hr), r_cutD_hi _ _ _ _ (by simpa using hr)]
      simp only [r_eqN, r_natN, r_rows, r_len, List.length_cons, List.length_nil, Nat.zero_add, Nat.reduceAdd, if_true, r_slD, r_seg0, List.take_succ_cons, List.take_zero, e]
      simp only [r_bnd0, r_lr0]
      rw [← List.map_drop, ← List.map_take, ← List.map_append, r_litsT _ _ _ _ _ (lit_claims _)]
      simp only [r_eqN, if_true, r_seg0, List.take_length, r_slD, r_len, r_out, he, tRes, rotN, dClaims]
    · have he : tErr cs cl l d = 6 := by simp only [tErr, hc, if_true]; rw [if_neg hd]
      rw [if_pos (by simp; omega)]
      simp [tRes, he]
  · rw [if_pos (by simpa using hc)]
    have he : tErr cs cl l d = cOK cs cl l := by simp [tErr, hc]
    simp [tRes, he, hc]

theorem s13 (n : Nat) (cs : List Chain) (cl : List Cell) (l : List Claim) (d : Int) (hl : l.length ≤ 9223372036854775806) :
    FN (n + 5) 13 [dChains cs, dCells cl, dClaims l, il d] = some (0, [.d (tRes cs cl l d), .d (il (tErr cs cl l d))]) := by
  rw [F13]
  simp only [G13, r_call]
  rw [s18 _ _ _ _ hl]
  simp only [r_bnd0, r_ld0, r_liti, r_litS, r_neq, r_cond, r_out]
  by_cases hc : cOK cs cl l = 0
  · have hl := cOK_len hc
    rw [if_neg (by simp [hc]), s61]
    simp only [r_bnd0, r_ld0, r_not, r_cond]
    by_cases hd : 0 ≤ d ∧ d ≤ 4166
    · have hr := cut_ok hl.1 hd.1
      have hm : (maxLen : Nat) = 9223372036854775807 := rfl
      have he : tErr cs cl l d = 0 := by simp [tErr, hc, hd]
      rw [if_neg (by simp [hd])]
      simp only [dClaims, r_lenD, List.length_map]
      rw [r_rem _ _ _ _ (by omega)]
      rw [r_cutD_lo _ _ _ _ (by simpa using hr)]
      simp only [r_rowsD, r_eqN, r_natN, r_rows, r_len, List.length_nil, if_true, r_addN, Nat.zero_add]
      rw [r_fits _ _ _ (by simp; omega) (by simp; omega), r_cutD_hi _ _ _ _ (by simpa using hr)]
      simp only [r_rowsD, r_app, List.nil_append, if_true]
      rw [r_fits _ _ _ (by simp; omega) (by simp; omega)]
      simp only [List.length_append, if_true, r_seg0, r_slD, r_out, he, tRes, rotN, dClaims]
      rw [List.take_of_length_le (by simp)]
      simp
    · have he : tErr cs cl l d = 6 := by simp only [tErr, hc, if_true]; rw [if_neg hd]
      rw [if_pos (by simp; omega)]
      simp [tRes, he]
  · rw [if_pos (by simpa using hc)]
    have he : tErr cs cl l d = cOK cs cl l := by simp [tErr, hc]
    simp [tRes, he, hc]
end Go.VE
/- Whether claims are the same; the law DriftChecks. -/
namespace Go.VE
open Go.RowKit Go.Proofs

def sameFrom : List Claim → List Claim → Bool
  | [], _ => true
  | c :: r, y :: s => decide (c = y) && sameFrom r s
  | _ :: _, [] => false
theorem claim_eq (a b : Claim) : (decide (a.family = b.family) && (decide (a.heads = b.heads) && (decide (a.from_ = b.from_) && decide (a.to = b.to)))) = decide (a = b) := by
  cases a; cases b; simp

theorem s14 (n : Nat) (a b : List Claim) (ha : a.length ≤ 4611686018427387904) : FN (n + 1) 14 [dClaims a, dClaims b] = some (0, [.d (bl (decide (a = b)))]) := by
  rw [F14]
  simp only [G14, dClaims, r_lenD, r_eql, r_loop, List.length_map]
  by_cases hl : a.length = b.length
  · have hl' : decide ((a.length : Int) = (b.length : Int)) = true := by simp [hl]
    rw [hl']
    have := range_loop (β := Bool) a ha (L14_0 (RP n)) (fun i y => [.d (dClaims a), .d (dClaims b), .d (bl y), .d (il (i : Int))]) (fun _ _ => True)
      (fun i r y => some (0, [.d (bl (y && decide (r = b.drop i)))]))
      (by intro y k _; simp [L14_0, dClaims, hl])
      (by
        intro i c r y k hc hd hi hw _ ih
        have hib : i < b.length := by omega
        have hcb : b[i]? = some b[i] := by simp [hib]
        have hdb : b.drop i = b[i] :: b.drop (i + 1) := List.drop_eq_getElem_cons hib
        cases y with
        | false => simp [L14_0, dClaims, hi]
        | true =>
          have ih' := ih (decide (c = b[i])) trivial
          simp [L14_0, dClaims, hi, hc, hcb, rClaim, hw, -getElem?_pos] at ih' ⊢
          rw [claim_eq, ih', hdb]
          simp only [List.cons.injEq, Bool.decide_and])
      M0 true trivial (M0_big ha)
    simp only [dClaims] at this
    rw [show (RP n).lit (.int .i64 0) = il ((0 : Nat) : Int) from rfl, this]
    simp
  · have hl' : decide ((a.length : Int) = (b.length : Int)) = false := by simp; omega
    rw [hl', show M0 = 18446744073709551615 + 1 from rfl, loopR1]
    have hne : decide (a = b) = false := by simp; intro h; subst h; exact hl rfl
    simp [L14_0, hne]
theorem s14n (n : Nat) : FN (n + 1) 14 [.lit (.slice none 0 0), .lit (.slice none 0 0)] = some (0, [.d (bl true)]) := by
  rw [F14]
  simp [G14]
  rw [show M0 = 18446744073709551615 + 1 from rfl, loopR1]
  simp [L14_0]

/-- The law's own function. -/
theorem s3 (n : Nat) {Fn : Nat → List D → Out} {FnD : D → List Sh → List D → Out} {m : Nat} (h11 : Fn 11 [] = some (0, [.d (bl true)])) (hF : ∀ f xs, f ≠ 11 → Fn f xs = FN (n + 5) f xs) (cs : List Chain) (cl : List Cell) (l : List Claim) (c : Chain) (e : Cell) (x : Claim) (d : Int) (hl : l.length ≤ 4611686018427387904) :
    G3 (real Fn FnD m) (dChains cs) (dCells cl) (dClaims l) (il c.id) (il c.lo) (il c.hi) (il e.chain) (il e.links) (il e.worth) (il x.family) (il x.heads) (il x.from_) (il x.to) (il d) = some (0, [.d (bl true)]) := by
  have hs : FN (n + 5) 14 [tRes cs cl l d, tRes cs cl l d] = some (0, [.d (bl true)]) := by
    unfold tRes
    split
    · have hr : (rotN l d).length ≤ 4611686018427387904 := by
        rename_i he
        unfold rotN; simp only [List.length_append, List.length_drop, List.length_take]; omega
      rw [s14 _ _ _ hr]; simp
    · exact s14n _
  simp only [G3, r_call, h11, hF 12 _ (by decide), hF 13 _ (by decide), hF 14 _ (by decide), hF 15 _ (by decide), hF 16 _ (by decide), hF 17 _ (by decide), hF 18 _ (by decide), hF 19 _ (by decide), hF 20 _ (by decide), hF 21 _ (by decide), hF 22 _ (by decide), hF 23 _ (by decide), hF 24 _ (by decide),
    s12, s13 _ _ _ _ _ (show l.length ≤ 9223372036854775806 by omega), r_bnd0, r_ld0, r_lds, hs, r_not, r_cond]
  simp only [Bool.not_true, Bool.false_eq_true, if_false, r_neq, r_cond, ne_eq, not_true, decide_false, s15, s16, s17, s18 _ _ _ _ (show l.length ≤ 9223372036854775806 by omega), s19, s20, s21, s22, s23, s24, r_bnd0, r_ld0, r_eql, decide_true, if_true, r_out]
end Go.VE
/- The types of the arguments: what data of them are. -/
namespace Go.VE
open Go.RowKit Go.Proofs Go.Proofs.Ytdeodfmhbgejoaa
set_option maxRecDepth 100000

theorem o3 {n : Nat} {ds : List D} (h : HasT Try.prog (n + 1) 3 ds) : ∃ z, ds = [il z] ∧ -9223372036854775808 ≤ z ∧ z ≤ 9223372036854775807 := h.int Try.underlying3
theorem o28 {n : Nat} {ds : List D} (h : HasT Try.prog (n + 2) 28 ds) : ∃ a b, ds = [il a, il b] := by
  obtain ⟨a, b, rfl, h1, c, d, rfl, h2, rfl⟩ := h.struct Try.underlying28 rfl
  obtain ⟨x, rfl, _⟩ := o3 h1
  obtain ⟨y, rfl, _⟩ := o3 h2
  exact ⟨x, y, rfl⟩
theorem o30 {n : Nat} {ds : List D} (h : HasT Try.prog (n + 3) 30 ds) : ∃ c : Chain, ds = rChain c := by
  obtain ⟨a, b, rfl, h1, c, d, rfl, h2, rfl⟩ := h.struct Try.underlying30 rfl
  obtain ⟨x, rfl, _⟩ := o3 h1
  obtain ⟨y, z, rfl⟩ := o28 h2
  exact ⟨⟨x, y, z⟩, rfl⟩
theorem o32 {n : Nat} {ds : List D} (h : HasT Try.prog (n + 2) 32 ds) : ∃ c : Cell, ds = rCell c := by
  obtain ⟨a, b, rfl, h1, c, d, rfl, h2, e, f, rfl, h3, rfl⟩ := h.struct Try.underlying32 rfl
  obtain ⟨x, rfl, _⟩ := o3 h1
  obtain ⟨y, rfl, _⟩ := o3 h2
  obtain ⟨z, rfl, _⟩ := o3 h3
  exact ⟨⟨x, y, z⟩, rfl⟩
theorem o34 {n : Nat} {ds : List D} (h : HasT Try.prog (n + 2) 34 ds) : ∃ c : Claim, ds = rClaim c := by
  obtain ⟨a, b, rfl, h1, c, d, rfl, h2, e, f, rfl, h3, g, i, rfl, h4, rfl⟩ := h.struct Try.underlying34 rfl
  obtain ⟨x, rfl, _⟩ := o3 h1
  obtain ⟨y, rfl, _⟩ := o3 h2
  obtain ⟨z, rfl, _⟩ := o3 h3
  obtain ⟨u, rfl, _⟩ := o3 h4
  exact ⟨⟨x, y, z, u⟩, rfl⟩
theorem o22 {n : Nat} {ds : List D} (h : HasT Try.prog (n + 4) 22 ds) : ∃ l : List Chain, ds = [dChains l] ∧ l.length ≤ 140737488355328 := by
  obtain ⟨rows, rfl, h1, h2⟩ := h.sl (c := 3) (b := 24) Try.underlying22 (by kernel_rfl) (by kernel_rfl)
  obtain ⟨l, rfl⟩ := rows_map (f := rChain) fun r hr => o30 (h2 r hr)
  simp only [List.length_map] at h1
  exact ⟨l, rfl, by omega⟩
theorem o23 {n : Nat} {ds : List D} (h : HasT Try.prog (n + 3) 23 ds) : ∃ l : List Cell, ds = [dCells l] ∧ l.length ≤ 140737488355328 := by
  obtain ⟨rows, rfl, h1, h2⟩ := h.sl (c := 3) (b := 24) Try.underlying23 (by kernel_rfl) (by kernel_rfl)
  obtain ⟨l, rfl⟩ := rows_map (f := rCell) fun r hr => o32 (h2 r hr)
  simp only [List.length_map] at h1
  exact ⟨l, rfl, by omega⟩
theorem o26 {n : Nat} {ds : List D} (h : HasT Try.prog (n + 3) 26 ds) : ∃ l : List Claim, ds = [dClaims l] ∧ l.length ≤ 140737488355328 := by
  obtain ⟨rows, rfl, h1, h2⟩ := h.sl (c := 4) (b := 32) Try.underlying26 (by kernel_rfl) (by kernel_rfl)
  obtain ⟨l, rfl⟩ := rows_map (f := rClaim) fun r hr => o34 (h2 r hr)
  simp only [List.length_map] at h1
  exact ⟨l, rfl, by omega⟩
theorem o25 {n : Nat} {ds : List D} (h : HasT Try.prog (n + 5) 25 ds) : ∃ (cs : List Chain) (cl : List Cell), ds = [dChains cs, dCells cl] ∧ cs.length ≤ 140737488355328 ∧ cl.length ≤ 140737488355328 := by
  obtain ⟨a, b, rfl, h1, c, d, rfl, h2, rfl⟩ := h.struct Try.underlying25 rfl
  obtain ⟨cs, rfl, hc⟩ := o22 h1
  obtain ⟨cl, rfl, hl⟩ := o23 h2
  exact ⟨cs, cl, rfl, hc, hl⟩

/-- All contracts, the examples' by its own. -/
noncomputable def FnS (n : Nat) (f : Nat) (xs : List D) : Out := if f = 11 ∧ xs = [] then some (0, [.d (bl true)]) else FN n f xs
theorem FnS_ok (n : Nat) : FnOK Try.prog (cf3 tb Try.prog) (FnS n) := by
  intro f sh xs vs j ys rs h1 h2 h3 h4
  unfold FnS at h3
  split at h3
  · rename_i hc
    obtain ⟨rfl, rfl⟩ := hc
    simp only [Option.some.injEq, Prod.mk.injEq] at h3
    obtain ⟨rfl, rfl⟩ := h3
    have e1 : (cf3 tb Try.prog).ash 11 = some [] := rfl
    rw [e1] at h1
    cases h1
    cases h2
    have e2 : ((cf3 tb Try.prog).rsk 11)[0]? = some [(false, [.d])] := rfl
    rw [e2] at h4
    cases h4
    exact sane_sc
  · exact FnT_ok mixP n f sh xs vs j ys rs h1 h2 h3 h4
theorem FnS_11 (n : Nat) : FnS n 11 [] = some (0, [.d (bl true)]) := by simp [FnS]
theorem FnS_ne (n : Nat) (f : Nat) (xs : List D) (h : f ≠ 11) : FnS n f xs = FN n f xs := by simp [FnS, h]
theorem own : ownKnob Try.prog.godebug = none := by kernel_rfl
theorem laidOut : laidOutB Try.prog = true := by kernel_rfl
end Go.VE
/- The statement DriftChecks: whatever the ground, the claims, the ones and the day are, both programs' checks and both orders of a day are the same. -/
namespace Go.VE
open Go.RowKit Go.Proofs Go.Proofs.Ytdeodfmhbgejoaa
set_option maxRecDepth 100000

theorem o36 {n : Nat} {ds : List D} (h : HasT Try.prog (n + 4) 36 ds) : ∃ (c : Chain) (e : Cell) (x : Claim) (d : Int), ds = [il c.id, il c.lo, il c.hi, il e.chain, il e.links, il e.worth, il x.family, il x.heads, il x.from_, il x.to, il d] := by
  obtain ⟨a, b, rfl, h1, c, d, rfl, h2, e, f, rfl, h3, g, i, rfl, h4, rfl⟩ := h.struct Try.underlying36 rfl
  obtain ⟨x, rfl⟩ := o30 h1
  obtain ⟨y, rfl⟩ := o32 h2
  obtain ⟨z, rfl⟩ := o34 h3
  obtain ⟨u, rfl, _⟩ := o3 h4
  exact ⟨x, y, z, u, by simp [rChain, rCell, rClaim]⟩

theorem driftChecks_sc (vds : List VD) (h : VTs Try.prog 8 [25, 26, 36] vds) : SC Try.prog 3 vds (.one (.d (bl true))) := by
  obtain ⟨_, _, rfl, h1, h⟩ := VTs_cons h
  obtain ⟨_, _, rfl, h2, h⟩ := VTs_cons h
  obtain ⟨_, _, rfl, h3, h⟩ := VTs_cons h
  cases VTs_nil h
  obtain ⟨_, rfl, k1⟩ := h1.agg_ Try.underlying25
  obtain ⟨_, rfl, k2⟩ := h2.sl_ Try.underlying26
  obtain ⟨_, rfl, k3⟩ := h3.agg_ Try.underlying36
  obtain ⟨cs, cl, rfl, _, _⟩ := o25 k1
  obtain ⟨l', hl, hl2⟩ := o26 k2
  cases hl
  obtain ⟨c, e, y, d, rfl⟩ := o36 k3
  refine lawSC (T := tb) (fuel := 400) (m0 := M0) (xs := [dChains cs, dCells cl, dClaims l', il c.id, il c.lo, il c.hi, il e.chain, il e.links, il e.worth, il y.family, il y.heads, il y.from_, il y.to, il d]) mixP (FnS_ok 10) (sh := [.agg 2, .one, .agg 11]) rfl rfl rfl ?_
  rw [G3_eq]
  exact s3 5 (FnS_11 10) (FnS_ne 10) cs cl l' c e y d (by omega)


end Go.VE
namespace Go.Proofs.Ytdeodfmhbgejoaa
open Go.VE Go.RowKit

theorem driftChecks_lifted (os : Os) (started : os.Started) (H : Type) (enc : TypeId × Value → H) :
    ReturnsInHanded {} Try.checked os 3 .any (Rows.driftChecksSpec.pre6 enc Try.prog Try.f3 Rows.driftChecksRow.domain false) (Rows.driftChecksSpec.post enc Try.prog Try.f3 false true false false) :=
  lawIn (C := Try.checked) (n := 8) (tb := 4) own started (by kernel_rfl) Try.func3
    (ChangeSpec.witness6 (enc := enc) (C := Try.checked) false ⟨#[], #[.agg #[.slice none 0 0, .slice none 0 0], .slice none 0 0, .agg #[.int .i64 0, .int .i64 0, .int .i64 0, .int .i64 0, .int .i64 0, .int .i64 0, .int .i64 0, .int .i64 0, .int .i64 0, .int .i64 0, .int .i64 0]], []⟩ 8 (by kernel_rfl) (by kernel_rfl) (by kernel_rfl) (by kernel_rfl))
    laidOut (by kernel_rfl) (by kernel_rfl) Try.underlying4 rfl
    (fun ds hd => by
      rw [show Try.f3.params.toList = [25, 26, 36] by kernel_rfl] at hd
      match ds, hd with
      | [a, b, c], _ => rfl)
    (fun vds h => driftChecks_sc vds h)

theorem driftChecks_over : Rows.driftChecksRow.holds Try.pinned (OpenSpec.ofChange Rows.driftChecksSpec) :=
  OpenClaim.holds_of_wide 3 Try.f3 rfl rfl rfl rfl rfl rfl rfl ⟨rfl, rfl, rfl, rfl, rfl⟩ rfl rfl rfl rfl rfl (by kernel_rfl) Try.func3 (by kernel_rfl)
    (of_decide_eq_true (by kernel_rfl)) (by unfold Func.isWrapper; first | (rw [if_pos (by decide +kernel)]; kernel_rfl) | (rw [if_neg (by decide +kernel)]; exact ⟨rfl, rfl⟩))
    (fun os started H enc _ => driftChecks_lifted os started H enc)

theorem driftChecks_holds : Rows.DriftChecksSaid := driftChecks_over
#print axioms driftChecks_holds
end Go.Proofs.Ytdeodfmhbgejoaa
