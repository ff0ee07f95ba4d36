/- The functions. -/
import Derived.Test.YtdeodfmhbgejoaaMf0
import Derived.Test.YtdeodfmhbgejoaaMf1
import Derived.Test.YtdeodfmhbgejoaaMe
/- What the checks of the drifts hand back. -/
namespace Go.VE
open Go.RowKit Go.Proofs

theorem s59 (n : Nat) (x lo hi : Int) : FN (n + 1) 59 [il x, il lo, il hi] = some (0, [.d (bl (decide (lo ≤ x ∧ x ≤ hi)))]) := by
  rw [F59]
  simp only [G59, r_leq, r_cond, r_litb, r_out]
  by_cases h : lo ≤ x <;> simp [h]
theorem s61 (n : Nat) (x lo hi : Int) : FN (n + 1) 61 [il x, il lo, il hi] = some (0, [.d (bl (decide (lo ≤ x ∧ x ≤ hi)))]) := by
  rw [F61]
  simp only [G61, r_geq, r_leq, r_cond, r_litb, r_out]
  by_cases h : lo ≤ x <;> simp [h]

def vChain (id lo hi : Int) : Bool := decide (1 ≤ id ∧ id ≤ 99 ∧ 1 ≤ lo ∧ lo ≤ hi ∧ hi ≤ 1000)
theorem s19 (n : Nat) (id lo hi : Int) : FN (n + 2) 19 [il id, il lo, il hi] = some (0, [.d (il (if vChain id lo hi then 0 else 40))]) := by
  rw [F19]
  simp [G19, s59]
  unfold vChain
  repeat' split
  all_goals (first | rfl | (exfalso; simp at *; omega) | (simp at *; omega))
theorem s20 (n : Nat) (id lo hi : Int) : FN (n + 2) 20 [il id, il lo, il hi] = some (0, [.d (il (if vChain id lo hi then 0 else 40))]) := by
  rw [F20]
  simp [G20, s61]
  unfold vChain
  repeat' split
  all_goals (first | rfl | (exfalso; simp at *; omega) | (simp at *; omega))

def vCell (c l w : Int) : Bool := decide (1 ≤ c ∧ c ≤ 99 ∧ 1 ≤ l ∧ l ≤ 1000 ∧ 0 ≤ w ∧ w ≤ 10000)
theorem s21 (n : Nat) (c l w : Int) : FN (n + 2) 21 [il c, il l, il w] = some (0, [.d (il (if vCell c l w then 0 else 41))]) := by
  rw [F21]
  simp [G21, s59]
  unfold vCell
  repeat' split
  all_goals (first | rfl | (exfalso; simp at *; omega) | (simp at *; omega))
theorem s22 (n : Nat) (c l w : Int) : FN (n + 2) 22 [il c, il l, il w] = some (0, [.d (il (if vCell c l w then 0 else 41))]) := by
  rw [F22]
  simp [G22, s61]
  unfold vCell
  repeat' split
  all_goals (first | rfl | (exfalso; simp at *; omega) | (simp at *; omega))

def vClaim (f h a b : Int) : Bool := decide (1 ≤ f ∧ f ≤ 99 ∧ 1 ≤ h ∧ h ≤ 20 ∧ 0 ≤ a ∧ a ≤ b ∧ b < 24)
theorem s23 (n : Nat) (f h a b : Int) : FN (n + 2) 23 [il f, il h, il a, il b] = some (0, [.d (il (if vClaim f h a b then 0 else 43))]) := by
  rw [F23]
  simp [G23, s59]
  unfold vClaim
  repeat' split
  all_goals (first | rfl | (exfalso; simp at *; omega) | (simp at *; omega))
theorem s24 (n : Nat) (f h a b : Int) : FN (n + 2) 24 [il f, il h, il a, il b] = some (0, [.d (il (if vClaim f h a b then 0 else 43))]) := by
  rw [F24]
  simp [G24, s61]
  unfold vClaim
  repeat' split
  all_goals (first | rfl | (exfalso; simp at *; omega) | (simp at *; omega))
end Go.VE
/- Grounds and claims: what the checks hand back. -/
namespace Go.VE
open Go.RowKit Go.Proofs

structure Chain where
  id : Int
  lo : Int
  hi : Int
structure Cell where
  chain : Int
  links : Int
  worth : Int
structure Claim where
  family : Int
  heads : Int
  from_ : Int
  to : Int
  deriving DecidableEq
def rChain (c : Chain) : List D := [il c.id, il c.lo, il c.hi]
def rCell (c : Cell) : List D := [il c.chain, il c.links, il c.worth]
def rClaim (c : Claim) : List D := [il c.family, il c.heads, il c.from_, il c.to]
def dChains (l : List Chain) : D := .sl 3 (l.map rChain)
def dCells (l : List Cell) : D := .sl 3 (l.map rCell)
def dClaims (l : List Claim) : D := .sl 4 (l.map rClaim)

theorem rounds {l : Nat} (h : l ≤ 9223372036854775807) : ∃ k, M0 = k + l + 1 := ⟨M0 - l - 1, by have : M0 = 18446744073709551616 := rfl; omega⟩

/-- The place of a chain, from a place on. -/
def findC (id : Int) : List Chain → Nat → Option Nat
  | [], _ => none
  | c :: r, i => if c.id = id then some i else findC id r (i + 1)
theorem l63 (n : Nat) (id : Int) (cl : D) : ∀ (suf pre : List Chain) (k : Nat), (pre ++ suf).length ≤ 9223372036854775806 →
    loopR [L63_0 (RP n)] (k + suf.length + 1) 0 [.d (il id), .d (il pre.length), .d (dChains (pre ++ suf)), .d cl] = match findC id suf pre.length with
      | some j => some (0, [.d (il j)])
      | none => some (1, [])
  | [], pre, k, hl => by simp [loopR1, L63_0, dChains, findC]
  | c :: suf, pre, k, hl => by
    have ih := l63 n id cl suf (pre ++ [c]) k (by simpa using hl)
    simp only [List.append_assoc, List.singleton_append, List.length_append, List.length_singleton] at ih
    simp only [List.length_cons, List.length_append] at hl ⊢
    rw [loopR1]
    have hw : IntKind.i64.wrap ((pre.length : Int) + 1) = ((pre.length + 1 : Nat) : Int) := by rw [wrap_id (by omega) (by omega)]; simp
    have hr : (List.map rChain (pre ++ c :: suf))[pre.length]? = some (rChain c) := by simp
    have hlt : (pre.length : Int) < ((pre.length + (suf.length + 1) : Nat) : Int) := by omega
    simp only [L63_0, dChains, r_ld0, r_lds, r_lenD, r_lss, r_cond, List.length_map, List.length_append, List.length_cons, hlt, decide_true, if_true, findC]
    rw [r_rowDn 3 _ _ _ _ hr rfl]
    simp only [rChain, r_cell0, r_eql, r_cond, decide_eq_true_eq, r_out, r_liti, r_add, hw, findC]
    split
    · rfl
    · exact ih

def ltO : Option Int → Int → Bool
  | none, _ => true
  | some q, x => decide (q < x)
/-- The chains are valid and rise. -/
def okChains : Option Int → List Chain → Bool
  | _, [] => true
  | p, c :: r => vChain c.id c.lo c.hi && ltO p c.id && okChains (some c.id) r
def lastId (l : List Chain) : Option Int := l.getLast?.map (·.id)
theorem lastId_snoc (l : List Chain) (c : Chain) : lastId (l ++ [c]) = some c.id := by simp [lastId]

theorem l15a (n : Nat) (x : D) : ∀ (suf pre : List Chain) (k : Nat), (pre ++ suf).length ≤ 9223372036854775806 →
    loopR [L15_0 (RP (n + 2))] (k + suf.length + 1) 0 [.d (dChains (pre ++ suf)), .d (il (pre ++ suf).length), .d (il pre.length), .d (dChains (pre ++ suf)), .d x] =
      if okChains (lastId pre) suf = true then some (1, [.d (dChains (pre ++ suf)), .d x]) else some (0, [.d (il 42)])
  | [], pre, k, hl => by simp [loopR1, L15_0, okChains]
  | c :: suf, pre, k, hl => by
    have ih := l15a n x suf (pre ++ [c]) k (by simpa using hl)
    simp only [List.append_assoc, List.singleton_append, List.length_append, List.length_singleton, lastId_snoc] at ih
    simp only [List.length_cons, List.length_append] at hl ih ⊢
    rw [loopR1]
    have hw : IntKind.i64.wrap ((pre.length : Int) + 1) = ((pre.length + 1 : Nat) : Int) := by rw [wrap_id (by omega) (by omega)]; simp
    have hr : (List.map rChain (pre ++ c :: suf))[pre.length]? = some (rChain c) := by simp
    have hlt : (pre.length : Int) < ((pre.length + (suf.length + 1) : Nat) : Int) := by omega
    simp only [L15_0, dChains, r_ld0, r_lds, r_lss, r_cond, hlt, decide_true, if_true]
    rw [r_rowDn 3 _ _ _ _ hr rfl]
    simp only [rChain, r_cell0, r_cells, r_call, s19, r_bnd0, r_ld0, r_liti, r_neq, r_cond, r_out, r_gtr, r_sub, r_add, hw, okChains]
    by_cases hv : vChain c.id c.lo c.hi = true
    · simp only [hv, if_true, Bool.true_and]
      rw [if_neg (by simp)]
      rcases List.eq_nil_or_concat pre with rfl | ⟨pre', q, hp⟩
      · simp [lastId, ltO] at ih ⊢
        exact ih
      · rw [List.concat_eq_append] at hp
        subst hp
        have hw2 : IntKind.i64.wrap (((pre' ++ [q]).length : Int) - 1) = ((pre'.length : Nat) : Int) := by
          simp only [List.length_append, List.length_singleton] at hl ⊢
          rw [wrap_id (by omega) (by omega)]; omega
        have hr2 : (List.map rChain ((pre' ++ [q]) ++ c :: suf))[pre'.length]? = some (rChain q) := by simp
        rw [if_pos (by simp), hw2, r_rowDn 3 _ _ _ _ hr2 rfl]
        simp only [rChain, r_cell0, r_geq, r_cond, decide_eq_true_eq, r_out, lastId_snoc, ltO]
        by_cases hq : c.id ≤ q.id
        · rw [if_pos hq, if_neg (by simp; omega)]
        · rw [if_neg hq]
          have : decide (q.id < c.id) = true := by simp; omega
          simp only [this, Bool.true_and]
          exact ih
    · simp only [hv, Bool.false_and]
      simp

/-! ### the map of chains -/
def kChain (c : Chain) : Value := .int .i64 c.id
theorem mFind_ok (x : Int) : ∀ (l : List Chain) (j : Nat), mFind 0 (.int .i64 x) (l.map kChain) j = some (findC x l j)
  | [], j => rfl
  | c :: l, j => by
    simp only [List.map_cons, mFind, kChain, kEq, if_true, findC]
    by_cases h : c.id = x
    · simp [h]
    · have : (x == c.id) = false := by simp; exact fun e => h e.symm
      simp only [this, h, if_false]
      exact mFind_ok x l (j + 1)
theorem findC_none {x : Int} : ∀ {l : List Chain} {j : Nat}, (∀ c ∈ l, c.id ≠ x) → findC x l j = none
  | [], j, _ => rfl
  | c :: l, j, h => by simp only [findC, if_neg (h c (by simp))]; exact findC_none fun c hc => h c (by simp [hc])
theorem findC_lt {x : Int} : ∀ {l : List Chain} {j i : Nat}, findC x l j = some i → j ≤ i ∧ i < j + l.length
  | [], j, i, h => by cases h
  | c :: l, j, i, h => by
    simp only [findC] at h
    split at h
    · cases h; simp
    · have := findC_lt h; simp; omega
def mpOf (l : List Chain) : Mr := (l.map kChain, (List.range l.length).map fun (i : Nat) => [il (i : Int)])
theorem upd_ok (l : List Chain) (c : Chain) (h : ∀ d ∈ l, d.id ≠ c.id) : updD 0 (mpOf l) (il c.id) [il l.length] = some (mpOf (l ++ [c])) := by
  simp only [updD, il, litD, isKey, if_true, mpOf, mFind_ok, findC_none h]
  simp [kChain, List.range_succ, il]
theorem look_ok (l : List Chain) (x : Int) : ∃ r, lookD 0 [.int .i64 0] (mpOf l) (il x) = some (r, bl (findC x l 0).isSome) := by
  simp only [lookD, il, litD, isKey, if_true, mpOf, mFind_ok]
  cases hf : findC x l 0 with
  | none => exact ⟨_, rfl⟩
  | some i =>
    have := findC_lt hf
    refine ⟨[il i], ?_⟩
    simp only [List.getElem?_map, List.getElem?_range (show i < l.length by omega), Option.map_some, Option.isSome_some]
    rfl
theorem l62 (n : Nat) : ∀ (suf pre : List Chain) (k : Nat), (pre ++ suf).length ≤ 9223372036854775806 → ((pre ++ suf).map (·.id)).Nodup →
    loopR [L62_0 (RP n)] (k + suf.length + 1) 0 [.d (dChains (pre ++ suf)), .d (il (pre ++ suf).length), .d (il pre.length), .m (mpOf pre)] = some (0, [.m (mpOf (pre ++ suf))])
  | [], pre, k, hl, hn => by simp [loopR1, L62_0]
  | c :: suf, pre, k, hl, hn => by
    have ih := l62 n suf (pre ++ [c]) k (by simpa using hl) (by simpa using hn)
    simp only [List.append_assoc, List.singleton_append, List.length_append, List.length_singleton] at ih
    simp only [List.length_cons, List.length_append] at hl ih ⊢
    rw [loopR1]
    have hw : IntKind.i64.wrap ((pre.length : Int) + 1) = ((pre.length + 1 : Nat) : Int) := by rw [wrap_id (by omega) (by omega)]; simp
    have hr : (List.map rChain (pre ++ c :: suf))[pre.length]? = some (rChain c) := by simp
    have hlt : (pre.length : Int) < ((pre.length + (suf.length + 1) : Nat) : Int) := by omega
    have hd : ∀ d ∈ pre, d.id ≠ c.id := by
      intro d hd e
      simp only [List.map_append, List.map_cons, List.nodup_append] at hn
      exact hn.2.2 d.id (List.mem_map.2 ⟨d, hd, rfl⟩) c.id (by simp) e
    simp only [L62_0, dChains, r_ld0, r_lds, r_lss, r_cond, hlt, decide_true, if_true]
    rw [r_rowDn 3 _ _ _ _ hr rfl]
    simp only [rChain, r_cell0, r_lms, r_lm0]
    rw [r_upd 0 _ _ _ _ _ (upd_ok pre c hd)]
    simp only [r_liti, r_add, hw]
    exact ih
theorem s62 (n : Nat) (cs : List Chain) (x : D) (hl : cs.length ≤ 9223372036854775806) (hn : (cs.map (·.id)).Nodup) : FN (n + 1) 62 [dChains cs, x] = some (0, [.m (mpOf cs)]) := by
  rw [F62]
  obtain ⟨k, hk⟩ := rounds (l := cs.length) (by omega)
  have := l62 n cs [] k (by simpa using hl) (by simpa using hn)
  simp only [List.nil_append, List.length_nil] at this
  simp only [G62, dChains, r_lenD, List.length_map, r_loop, hk, r_liti, r_emp]
  rw [show (0 : Int) = ((0 : Nat) : Int) from rfl, show (([], []) : Mr) = mpOf [] from rfl]
  simp only [dChains] at this
  rw [this]
  simp
end Go.VE
/- Grounds: what both checks hand back. -/
namespace Go.VE
open Go.RowKit Go.Proofs

theorem ids_nodup : ∀ {l : List Chain} {p : Option Int}, okChains p l = true → (∀ c ∈ l, ltO p c.id = true) ∧ (l.map (·.id)).Nodup
  | [], p, _ => by simp
  | c :: l, p, h => by
    simp only [okChains, Bool.and_eq_true] at h
    obtain ⟨h1, h2⟩ := ids_nodup h.2
    refine ⟨?_, ?_⟩
    · intro d hd
      rcases List.mem_cons.1 hd with rfl | hd
      · exact h.1.2
      · have := h1 d hd
        have h3 := h.1.2
        cases p with
        | none => rfl
        | some q => simp only [ltO, decide_eq_true_eq] at this h3 ⊢; omega
    · simp only [List.map_cons, List.nodup_cons, List.mem_map, not_exists, not_and]
      refine ⟨fun d hd e => ?_, h2⟩
      have := h1 d hd
      simp only [ltO, decide_eq_true_eq] at this
      omega

/-- The cells are valid, their chains known. -/
def okCells (cs : List Chain) : List Cell → Bool
  | [] => true
  | c :: r => vCell c.chain c.links c.worth && (findC c.chain cs 0).isSome && okCells cs r

set_option maxRecDepth 10000 in
theorem l15b (n : Nat) (cs : List Chain) : ∀ (suf pre : List Cell) (k : Nat), (pre ++ suf).length ≤ 9223372036854775806 →
    loopR [L15_1 (RP (n + 2))] (k + suf.length + 1) 0 [.d (dCells (pre ++ suf)), .d (il (pre ++ suf).length), .d (il pre.length), .m (mpOf cs)] =
      if okCells cs suf = true then some (1, []) else some (0, [.d (il 42)])
  | [], pre, k, hl => by simp [loopR1, L15_1, okCells]
  | c :: suf, pre, k, hl => by
    have ih := l15b n cs suf (pre ++ [c]) k (by simpa using hl)
    simp only [List.append_assoc, List.singleton_append, List.length_append, List.length_singleton] at ih
    simp only [List.length_cons, List.length_append] at hl ih ⊢
    rw [loopR1]
    have hw : IntKind.i64.wrap ((pre.length : Int) + 1) = ((pre.length + 1 : Nat) : Int) := by rw [wrap_id (by omega) (by omega)]; simp
    have hr : (List.map rCell (pre ++ c :: suf))[pre.length]? = some (rCell c) := by simp
    have hlt : (pre.length : Int) < ((pre.length + (suf.length + 1) : Nat) : Int) := by omega
    obtain ⟨r, hlook⟩ := look_ok cs c.chain
    simp only [L15_1, dCells, r_ld0, r_lds, r_lss, r_cond, hlt, decide_true, if_true]
    rw [r_rowDn 3 _ _ _ _ hr rfl]
    simp only [rCell, r_cell0, r_cells, r_lms, r_lm0]
    rw [r_look 0 _ _ _ _ _ hlook]
    simp only [r_call, s21, r_bnd0, r_ld0, r_liti, r_neq, r_cond, r_out, r_not, r_add, hw, okCells]
    by_cases hv : vCell c.chain c.links c.worth = true
    · simp only [hv, if_true, Bool.true_and]
      rw [if_neg (by simp)]
      cases hf : (findC c.chain cs 0).isSome with
      | true => simp only [Bool.not_true, Bool.true_and]; exact ih
      | false => simp
    · simp only [hv, Bool.false_and]
      simp

def okGround (cs : List Chain) (cl : List Cell) : Bool := decide (1 ≤ cs.length ∧ cs.length ≤ 6 ∧ 1 ≤ cl.length ∧ cl.length ≤ 24) && okChains none cs && okCells cs cl

set_option maxRecDepth 10000 in
theorem s15 (n : Nat) (cs : List Chain) (cl : List Cell) : FN (n + 3) 15 [dChains cs, dCells cl] = some (0, [.d (il (if okGround cs cl then 0 else 42))]) := by
  rw [F15]
  simp only [G15, dChains, dCells, r_lenD, List.length_map, r_liti, r_call, s59, r_bnd0, r_ld0, r_not, r_cond, r_out]
  by_cases h1 : 1 ≤ (cs.length : Int) ∧ (cs.length : Int) ≤ 6
  · by_cases h2 : 1 ≤ (cl.length : Int) ∧ (cl.length : Int) ≤ 24
    · simp only [h1, h2, decide_true, and_self, Bool.not_true, Bool.false_eq_true, if_false, r_loop]
      obtain ⟨k, hk⟩ := rounds (l := cs.length) (by omega)
      have e1 := l15a n (dCells cl) cs [] k (by simp; omega)
      simp only [List.nil_append, List.length_nil, dChains, dCells, ← hk] at e1
      rw [show (0 : Int) = ((0 : Nat) : Int) from rfl, e1]
      by_cases h3 : okChains none cs = true
      · rw [if_pos (by simpa [lastId] using h3)]
        simp only [r_bnd1, r_ld0, r_lds, r_call]
        have e2 := s62 (n + 1) cs (dCells cl) (by omega) (ids_nodup h3).2
        simp only [dChains, dCells] at e2
        rw [e2]
        simp only [r_bnd0, r_lenD, r_lm0, List.length_map, r_loop]
        obtain ⟨k2, hk2⟩ := rounds (l := cl.length) (by omega)
        have e3 := l15b n cs cl [] k2 (by simp; omega)
        simp only [List.nil_append, List.length_nil, dCells, ← hk2] at e3
        rw [e3]
        by_cases h4 : okCells cs cl = true
        · rw [if_pos h4, r_bnd1]
          have : okGround cs cl = true := by simp [okGround, h3, h4]; omega
          simp [this]
        · rw [if_neg h4, r_bnd0]
          have : okGround cs cl = false := by simp [okGround, h4]
          simp [this]
      · rw [if_neg (by simpa [lastId] using h3), r_bnd0]
        have : okGround cs cl = false := by simp [okGround, h3]
        simp [this]
    · have : okGround cs cl = false := by simp [okGround]; intros; omega
      simp [h1, h2, this]
  · have : okGround cs cl = false := by simp [okGround]; intros; omega
    simp [h1, this]

theorem s63 (n : Nat) (cs : List Chain) (x : D) (id : Int) (hl : cs.length ≤ 9223372036854775806) : FN (n + 1) 63 [dChains cs, x, il id] = some (0, [.d (il (match findC id cs 0 with | some j => (j : Int) | none => -1))]) := by
  rw [F63]
  obtain ⟨k, hk⟩ := rounds (l := cs.length) (by omega)
  have e := l63 n id x cs [] k (by simpa using hl)
  simp only [List.nil_append, List.length_nil, ← hk] at e
  simp only [G63, r_loop, r_liti]
  rw [show (0 : Int) = ((0 : Nat) : Int) from rfl, e]
  cases findC id cs 0 <;> simp

theorem l16a (n : Nat) (x : D) : ∀ (suf pre : List Chain) (k : Nat), (pre ++ suf).length ≤ 9223372036854775806 →
    loopR [L16_0 (RP (n + 2))] (k + suf.length + 1) 0 [.d (il pre.length), .d (dChains (pre ++ suf)), .d x] =
      if okChains (lastId pre) suf = true then some (1, [.d (dChains (pre ++ suf)), .d x]) else some (0, [.d (il 42)])
  | [], pre, k, hl => by simp [loopR1, L16_0, okChains, dChains]
  | c :: suf, pre, k, hl => by
    have ih := l16a n x suf (pre ++ [c]) k (by simpa using hl)
    simp only [List.append_assoc, List.singleton_append, List.length_append, List.length_singleton, lastId_snoc] at ih
    simp only [List.length_cons, List.length_append] at hl ih ⊢
    rw [loopR1]
    have hw : IntKind.i64.wrap ((pre.length : Int) + 1) = ((pre.length + 1 : Nat) : Int) := by rw [wrap_id (by omega) (by omega)]; simp
    have hr : (List.map rChain (pre ++ c :: suf))[pre.length]? = some (rChain c) := by simp
    have hlt : (pre.length : Int) < ((pre.length + (suf.length + 1) : Nat) : Int) := by omega
    simp only [L16_0, dChains, r_ld0, r_lds, r_lenD, List.length_map, List.length_append, List.length_cons, r_lss, r_cond, hlt, decide_true, if_true]
    rw [r_rowDn 3 _ _ _ _ hr rfl]
    simp only [rChain, r_cell0, r_cells, r_call, s20, r_bnd0, r_ld0, r_liti, r_neq, r_cond, r_out, r_gtr, r_sub, r_add, hw, okChains]
    by_cases hv : vChain c.id c.lo c.hi = true
    · simp only [hv, if_true, Bool.true_and]
      rw [if_neg (by simp)]
      rcases List.eq_nil_or_concat pre with rfl | ⟨pre', q, hp⟩
      · simp [lastId, ltO] at ih ⊢
        exact ih
      · rw [List.concat_eq_append] at hp
        subst hp
        have hw2 : IntKind.i64.wrap (((pre' ++ [q]).length : Int) - 1) = ((pre'.length : Nat) : Int) := by
          simp only [List.length_append, List.length_singleton] at hl ⊢
          rw [wrap_id (by omega) (by omega)]; omega
        have hr2 : (List.map rChain ((pre' ++ [q]) ++ c :: suf))[pre'.length]? = some (rChain q) := by simp
        rw [if_pos (by simp), hw2, r_rowDn 3 _ _ _ _ hr2 rfl, r_rowDn 3 _ _ _ _ hr rfl]
        simp only [rChain, r_cell0, r_geq, r_cond, decide_eq_true_eq, r_out, lastId_snoc, ltO]
        by_cases hq : c.id ≤ q.id
        · rw [if_pos hq, if_neg (by simp; omega)]
        · rw [if_neg hq]
          have : decide (q.id < c.id) = true := by simp; omega
          simp only [this, Bool.true_and]
          exact ih
    · simp only [hv, Bool.false_and]
      simp

set_option maxRecDepth 10000 in
theorem l16b (n : Nat) (cs : List Chain) (hcs : cs.length ≤ 9223372036854775806) : ∀ (suf pre : List Cell) (k : Nat), (pre ++ suf).length ≤ 9223372036854775806 →
    loopR [L16_1 (RP (n + 2))] (k + suf.length + 1) 0 [.d (il pre.length), .d (dChains cs), .d (dCells (pre ++ suf))] =
      if okCells cs suf = true then some (1, []) else some (0, [.d (il 42)])
  | [], pre, k, hl => by simp [loopR1, L16_1, okCells, dCells]
  | c :: suf, pre, k, hl => by
    have ih := l16b n cs hcs suf (pre ++ [c]) k (by simpa using hl)
    simp only [List.append_assoc, List.singleton_append, List.length_append, List.length_singleton] at ih
    simp only [List.length_cons, List.length_append] at hl ih ⊢
    rw [loopR1]
    have hw : IntKind.i64.wrap ((pre.length : Int) + 1) = ((pre.length + 1 : Nat) : Int) := by rw [wrap_id (by omega) (by omega)]; simp
    have hr : (List.map rCell (pre ++ c :: suf))[pre.length]? = some (rCell c) := by simp
    have hlt : (pre.length : Int) < ((pre.length + (suf.length + 1) : Nat) : Int) := by omega
    have h63 := s63 (n + 1) cs (dCells (pre ++ c :: suf)) c.chain hcs
    simp only [dCells] at h63
    simp only [L16_1, dCells, r_ld0, r_lds, r_lenD, List.length_map, List.length_append, List.length_cons, r_lss, r_cond, hlt, decide_true, if_true]
    rw [r_rowDn 3 _ _ _ _ hr rfl]
    simp only [rCell, r_cell0, r_cells, r_call, s22, r_bnd0, r_ld0, r_liti, r_neq, r_cond, r_out, okCells]
    by_cases hv : vCell c.chain c.links c.worth = true
    · simp only [hv, if_true, Bool.true_and]
      rw [if_neg (by simp), r_rowDn 3 _ _ _ _ hr rfl]
      simp only [rCell, r_cell0]
      rw [h63]
      simp only [r_bnd0, r_ld0, r_lss, r_cond, decide_eq_true_eq, r_add, hw]
      cases hf : findC c.chain cs 0 with
      | some j => simp only [Option.isSome_some, Bool.true_and]; rw [if_neg (by omega)]; exact ih
      | none => simp
    · simp only [hv, Bool.false_and]
      simp

set_option maxRecDepth 10000 in
theorem s16 (n : Nat) (cs : List Chain) (cl : List Cell) : FN (n + 3) 16 [dChains cs, dCells cl] = some (0, [.d (il (if okGround cs cl then 0 else 42))]) := by
  rw [F16]
  simp only [G16, dChains, dCells, r_lenD, List.length_map, r_liti, r_call, s61, r_bnd0, r_ld0, r_not, r_cond, r_out]
  by_cases h1 : 1 ≤ (cs.length : Int) ∧ (cs.length : Int) ≤ 6
  · by_cases h2 : 1 ≤ (cl.length : Int) ∧ (cl.length : Int) ≤ 24
    · simp only [h1, h2, decide_true, and_self, Bool.not_true, Bool.false_eq_true, if_false, r_loop]
      obtain ⟨k, hk⟩ := rounds (l := cs.length) (by omega)
      have e1 := l16a n (dCells cl) cs [] k (by simp; omega)
      simp only [List.nil_append, List.length_nil, dChains, dCells, ← hk] at e1
      rw [show (0 : Int) = ((0 : Nat) : Int) from rfl, e1]
      by_cases h3 : okChains none cs = true
      · rw [if_pos (by simpa [lastId] using h3)]
        simp only [r_bnd1, r_ld0, r_lds, r_loop]
        obtain ⟨k2, hk2⟩ := rounds (l := cl.length) (by omega)
        have e3 := l16b n cs (by omega) cl [] k2 (by simp; omega)
        simp only [List.nil_append, List.length_nil, dChains, dCells, ← hk2] at e3
        rw [e3]
        by_cases h4 : okCells cs cl = true
        · rw [if_pos h4, r_bnd1]
          have : okGround cs cl = true := by simp [okGround, h3, h4]; omega
          simp [this]
        · rw [if_neg h4, r_bnd0]
          have : okGround cs cl = false := by simp [okGround, h4]
          simp [this]
      · rw [if_neg (by simpa [lastId] using h3), r_bnd0]
        have : okGround cs cl = false := by simp [okGround, h3]
        simp [this]
    · have : okGround cs cl = false := by simp [okGround]; intros; omega
      simp [h1, h2, this]
  · have : okGround cs cl = false := by simp [okGround]; intros; omega
    simp [h1, this]
end Go.VE
/- Claims: what both checks hand back. -/
namespace Go.VE
open Go.RowKit Go.Proofs

theorem s65 (n : Nat) (a b c d e f g h : Int) : FN (n + 1) 65 [il a, il b, il c, il d, il e, il f, il g, il h] = some (0, [.d (bl (decide (a = e)))]) := by
  rw [F65]; simp [G65]
theorem d65 (n : Nat) (x c : Claim) : FnDof (cf3 tb Try.prog) (FN (n + 1)) (.fn 65 [.dp (rClaim c) 0]) [.agg 4] (rClaim x) = some (0, [.d (bl (decide (x.family = c.family)))]) := by
  simp [FnDof, vdsOf, flatV, cf3, tb, ashT, rskT, isOneD, rClaim, s65, D.isLit, bl]

/-- The first place of a claim of a family, from a place on. -/
def findF (f : Int) : List Claim → Nat → Option Nat
  | [], _ => none
  | c :: r, i => if c.family = f then some i else findF f r (i + 1)
theorem l90 (n : Nat) (c : Claim) : ∀ (suf pre : List Claim) (k : Nat), (pre ++ suf).length ≤ 9223372036854775806 →
    loopR [L90_0 (RP (n + 1))] (k + suf.length + 1) 0 [.d (dClaims (pre ++ suf)), .d (.fn 65 [.dp (rClaim c) 0]), .d (il (pre ++ suf).length), .d (il pre.length)] =
      match findF c.family suf pre.length with
      | some j => some (0, [.d (il j)])
      | none => some (1, [])
  | [], pre, k, hl => by simp [loopR1, L90_0, findF]
  | x :: suf, pre, k, hl => by
    have ih := l90 n c suf (pre ++ [x]) k (by simpa using hl)
    simp only [List.append_assoc, List.singleton_append, List.length_append, List.length_singleton] at ih
    simp only [List.length_cons, List.length_append] at hl ih ⊢
    rw [loopR1]
    have hw : IntKind.i64.wrap ((pre.length : Int) + 1) = ((pre.length + 1 : Nat) : Int) := by rw [wrap_id (by omega) (by omega)]; simp
    have hr : (List.map rClaim (pre ++ x :: suf))[pre.length]? = some (rClaim x) := by simp
    have hlt : (pre.length : Int) < ((pre.length + (suf.length + 1) : Nat) : Int) := by omega
    have hd := d65 n x c
    simp only [L90_0, dClaims, r_ld0, r_lds, r_lss, r_cond, hlt, decide_true, if_true]
    rw [r_rowDn 4 _ _ _ _ hr rfl]
    simp only [rClaim, r_cell0, r_cells, r_callD] at hd ⊢
    rw [hd]
    simp only [r_bnd0, r_ld0, r_cond, r_out, r_liti, r_add, hw, findF, decide_eq_true_eq]
    by_cases hf : x.family = c.family
    · simp [hf]
    · rw [if_neg hf, if_neg hf]; exact ih
theorem s64 (n : Nat) (l : List Claim) (c : Claim) (hl : l.length ≤ 9223372036854775806) : FN (n + 3) 64 [dClaims l, .fn 65 [.dp (rClaim c) 0]] = some (0, [.d (bl (findF c.family l 0).isSome)]) := by
  rw [F64]
  simp only [G64, r_call]
  rw [F90]
  obtain ⟨k, hk⟩ := rounds (l := l.length) (by omega)
  have e := l90 n c l [] k (by simpa using hl)
  simp only [List.nil_append, List.length_nil, ← hk] at e
  simp only [G90, dClaims, r_lenD, List.length_map, r_loop, r_liti]
  rw [show (0 : Int) = ((0 : Nat) : Int) from rfl]
  simp only [dClaims] at e
  rw [e]
  cases findF c.family l 0 <;> simp
end Go.VE
/- Claims: what both checks hand back, whole. -/
namespace Go.VE
open Go.RowKit Go.Proofs

def okClaims (nc : Nat) : List Claim → List Claim → Bool
  | _, [] => true
  | pre, c :: r => vClaim c.family c.heads c.from_ c.to && !(findF c.family pre 0).isSome && decide (c.to < nc) && okClaims nc (pre ++ [c]) r

set_option maxRecDepth 10000 in
theorem l17 (n : Nat) (a : D) (cl : List Cell) : ∀ (suf pre : List Claim) (k : Nat), (pre ++ suf).length ≤ 9223372036854775806 →
    loopR [L17_0 (RP (n + 3))] (k + suf.length + 1) 0 [.d (dClaims (pre ++ suf)), .d (dClaims (pre ++ suf)), .d (il (pre ++ suf).length), .d (il pre.length), .d a, .d (dCells cl)] =
      if okClaims cl.length pre suf = true then some (1, []) else some (0, [.d (il 44)])
  | [], pre, k, hl => by simp [loopR1, L17_0, okClaims]
  | c :: suf, pre, k, hl => by
    have ih := l17 n a cl suf (pre ++ [c]) k (by simpa using hl)
    simp only [List.append_assoc, List.singleton_append, List.length_append, List.length_singleton] at ih
    simp only [List.length_cons, List.length_append] at hl ih ⊢
    rw [loopR1]
    have hw : IntKind.i64.wrap ((pre.length : Int) + 1) = ((pre.length + 1 : Nat) : Int) := by rw [wrap_id (by omega) (by omega)]; simp
    have hr : (List.map rClaim (pre ++ c :: suf))[pre.length]? = some (rClaim c) := by simp
    have hlt : (pre.length : Int) < ((pre.length + (suf.length + 1) : Nat) : Int) := by omega
    have hcut : (List.map rClaim (pre ++ c :: suf)).take ((pre.length : Int)).toNat = pre.map rClaim := by simp
    have h64 := s64 n pre c (by omega)
    simp only [dClaims, rClaim] at h64
    simp only [L17_0, dClaims, r_ld0, r_lds, r_lss, r_cond, hlt, decide_true, if_true]
    rw [r_rowDn 4 _ _ _ _ hr rfl, r_cutD_hi 4 _ _ _ (by simp; omega), hcut]
    simp only [rClaim, r_cell0, r_cells, r_call, r_fnD, r_dpD]
    rw [h64]
    simp only [r_bnd0, r_ld0, r_lits, s23, r_liti, r_neq, r_cond, r_out, okClaims, dCells, r_lenD, List.length_map, r_geq, r_add, hw]
    rw [if_pos (by simp [ynLit, D.isLit, bl])]
    by_cases hv : vClaim c.family c.heads c.from_ c.to = true
    · simp only [hv, if_true, Bool.true_and]
      rw [if_neg (by simp)]
      cases hf : (findF c.family pre 0).isSome with
      | true => simp
      | false =>
        simp only [Bool.false_eq_true, if_false, Bool.not_false, Bool.true_and]
        by_cases hc : (cl.length : Int) ≤ c.to
        · rw [if_pos (by simpa using hc)]
          have : decide (c.to < (cl.length : Int)) = false := by simp; omega
          simp [this]
        · rw [if_neg (by simpa using hc)]
          have : decide (c.to < (cl.length : Int)) = true := by simp; omega
          simp only [this, Bool.true_and]
          exact ih
    · simp only [hv, Bool.false_and]
      simp

def cOK (cs : List Chain) (cl : List Cell) (l : List Claim) : Int := if okGround cs cl then (if decide (1 ≤ l.length ∧ l.length ≤ 12) && okClaims cl.length [] l then 0 else 44) else 42

set_option maxRecDepth 10000 in
theorem s17 (n : Nat) (cs : List Chain) (cl : List Cell) (l : List Claim) : FN (n + 4) 17 [dChains cs, dCells cl, dClaims l] = some (0, [.d (il (cOK cs cl l))]) := by
  rw [F17]
  simp only [G17, r_call]
  rw [s15]
  simp only [r_bnd0, r_ld0, r_liti, r_neq, r_cond, r_out]
  by_cases hg : okGround cs cl = true
  · simp only [hg, if_true, cOK]
    rw [if_neg (by simp)]
    simp only [dClaims, r_lenD, List.length_map, r_call, s59, r_bnd0, r_ld0, r_not, r_cond, r_out, r_loop]
    by_cases h1 : 1 ≤ (l.length : Int) ∧ (l.length : Int) ≤ 12
    · simp only [h1, decide_true, and_self, Bool.not_true, Bool.false_eq_true, if_false]
      obtain ⟨k, hk⟩ := rounds (l := l.length) (by omega)
      have e := l17 n (dChains cs) cl l [] k (by simp; omega)
      simp only [List.nil_append, List.length_nil, dClaims, ← hk] at e
      rw [show (0 : Int) = ((0 : Nat) : Int) from rfl, e]
      have h1' : decide (1 ≤ l.length ∧ l.length ≤ 12) = true := by simp; omega
      simp only [h1', Bool.true_and]
      by_cases h2 : okClaims cl.length [] l = true
      · simp [h2]
      · simp [h2]
    · have h1' : decide (1 ≤ l.length ∧ l.length ≤ 12) = false := by simp; intros; omega
      simp [h1, h1']
  · simp [hg, cOK]

theorem l66a (n : Nat) (a b : D) (c : Claim) (post : List Claim) : ∀ (suf pre : List Claim) (k : Nat), (pre ++ suf ++ c :: post).length ≤ 9223372036854775806 →
    loopR [L66_0 (RP n)] (k + suf.length + 1) 0 [.d (dClaims (pre ++ suf ++ c :: post)), .d (il (pre ++ suf).length), .d (il pre.length), .d a, .d b] =
      if (findF c.family suf pre.length).isSome = true then some (0, [.d (bl false)]) else some (1, [.d (dClaims (pre ++ suf ++ c :: post)), .d (il (pre ++ suf).length), .d a, .d b])
  | [], pre, k, hl => by simp [loopR1, L66_0, findF]
  | x :: suf, pre, k, hl => by
    have ih := l66a n a b c post suf (pre ++ [x]) k (by simpa using hl)
    simp only [List.append_assoc, List.singleton_append, List.cons_append, List.length_append, List.length_singleton] at ih
    simp only [List.append_assoc, List.cons_append, List.length_cons, List.length_append] at hl ih ⊢
    rw [loopR1]
    have hw : IntKind.i64.wrap ((pre.length : Int) + 1) = ((pre.length + 1 : Nat) : Int) := by rw [wrap_id (by omega) (by omega)]; simp
    have hr : (List.map rClaim (pre ++ x :: (suf ++ c :: post)))[pre.length]? = some (rClaim x) := by simp
    have hr2 : (List.map rClaim (pre ++ x :: (suf ++ c :: post)))[pre.length + (suf.length + 1)]? = some (rClaim c) := by simp
    have hlt : (pre.length : Int) < ((pre.length + (suf.length + 1) : Nat) : Int) := by omega
    simp only [L66_0, dClaims, r_ld0, r_lds, r_lss, r_cond, hlt, decide_true, if_true]
    rw [r_rowDn 4 _ _ _ _ hr rfl, r_rowDn 4 _ _ _ _ hr2 rfl]
    simp only [rClaim, r_cell0, r_eql, r_cond, decide_eq_true_eq, r_out, r_liti, r_litb, r_add, hw, findF]
    by_cases hf : x.family = c.family
    · simp [hf]
    · simp only [hf, if_false]
      simp only [List.nil_append, List.length_nil, Nat.zero_add] at ih
      exact ih

set_option maxRecDepth 10000 in
theorem l66b (n : Nat) (a : D) (cl : List Cell) : ∀ (suf pre : List Claim) (k : Nat), (pre ++ suf).length ≤ 9223372036854775806 →
    loopR [L66_1 (RP (n + 2))] (k + suf.length + 1) 0 [.d (dClaims (pre ++ suf)), .d (il pre.length), .d a, .d (dCells cl)] =
      if okClaims cl.length pre suf = true then some (1, [.d (dClaims (pre ++ suf))]) else some (0, [.d (bl false)])
  | [], pre, k, hl => by simp [loopR1, L66_1, okClaims, dClaims]
  | c :: suf, pre, k, hl => by
    have ih := l66b n a cl suf (pre ++ [c]) k (by simpa using hl)
    simp only [List.append_assoc, List.singleton_append, List.length_append, List.length_singleton] at ih
    simp only [List.length_cons, List.length_append] at hl ih ⊢
    rw [loopR1]
    have hw : IntKind.i64.wrap ((pre.length : Int) + 1) = ((pre.length + 1 : Nat) : Int) := by rw [wrap_id (by omega) (by omega)]; simp
    have hr : (List.map rClaim (pre ++ c :: suf))[pre.length]? = some (rClaim c) := by simp
    have hlt : (pre.length : Int) < ((pre.length + (suf.length + 1) : Nat) : Int) := by omega
    obtain ⟨k2, hk2⟩ := rounds (l := pre.length) (by omega)
    have e := l66a (n + 2) a (dCells cl) c suf pre [] k2 (by simp; omega)
    simp only [List.nil_append, List.length_nil, ← hk2] at e
    simp only [L66_1, dClaims, r_ld0, r_lds, r_lenD, List.length_map, List.length_append, List.length_cons, r_lss, r_cond, hlt, decide_true, if_true]
    rw [r_rowDn 4 _ _ _ _ hr rfl]
    simp only [rClaim, r_cell0, r_cells, r_call, s24, r_bnd0, r_ld0, r_liti, r_litb, r_neq, r_cond, r_out, okClaims]
    by_cases hv : vClaim c.family c.heads c.from_ c.to = true
    · simp only [hv, if_true, Bool.true_and]
      rw [if_neg (by simp), r_rowDn 4 _ _ _ _ hr rfl]
      simp only [rClaim, r_cell0, r_cells, dCells, r_lenD, List.length_map, r_geq, r_cond, r_loop]
      by_cases hc : (cl.length : Int) ≤ c.to
      · rw [if_pos (by simpa using hc)]
        have : decide (c.to < (cl.length : Int)) = false := by simp; omega
        simp [this]
      · rw [if_neg (by simpa using hc)]
        have : decide (c.to < (cl.length : Int)) = true := by simp; omega
        simp only [this, Bool.and_true]
        simp only [dClaims, dCells] at e
        rw [show (0 : Int) = ((0 : Nat) : Int) from rfl, e]
        cases hf : (findF c.family pre 0).isSome with
        | true => simp
        | false =>
          simp only [Bool.false_eq_true, if_false, r_bnd1, r_ld0, r_lds, r_add, hw, Bool.not_false, Bool.true_and]
          exact ih
    · simp only [hv, Bool.false_and]
      simp

set_option maxRecDepth 10000 in
theorem s18 (n : Nat) (cs : List Chain) (cl : List Cell) (l : List Claim) (hl : l.length ≤ 9223372036854775806) : FN (n + 4) 18 [dChains cs, dCells cl, dClaims l] = some (0, [.d (il (cOK cs cl l))]) := by
  rw [F18]
  simp only [G18, r_call]
  rw [s16]
  simp only [r_bnd0, r_ld0, r_liti, r_neq, r_cond, r_out]
  by_cases hg : okGround cs cl = true
  · simp only [hg, if_true, cOK]
    rw [if_neg (by simp), F66]
    obtain ⟨k, hk⟩ := rounds (l := l.length) (by omega)
    have e := l66b n (dChains cs) cl l [] k (by simpa using hl)
    simp only [List.nil_append, List.length_nil, ← hk] at e
    simp only [G66, r_loop, r_liti]
    rw [show (0 : Int) = ((0 : Nat) : Int) from rfl, e]
    by_cases h2 : okClaims cl.length [] l = true
    · rw [if_pos h2]
      simp only [r_bnd1, r_ld0, dClaims, r_lenD, List.length_map, r_call, s61, r_bnd0, r_out, r_not, r_cond]
      by_cases h1 : 1 ≤ (l.length : Int) ∧ (l.length : Int) ≤ 12
      · have h1' : decide (1 ≤ l.length ∧ l.length ≤ 12) = true := by simp; omega
        simp [h1, h1', h2]
      · have h1' : decide (1 ≤ l.length ∧ l.length ≤ 12) = false := by simp; intros; omega
        simp [h1, h1']
    · rw [if_neg h2]
      simp [h2]
  · simp [hg, cOK]
end Go.VE
/- Grow, Concat, the two Turns, SameClaims. -/
namespace Go.VE
open Go.RowKit Go.Proofs

section
variable (Fn : Nat → List D → Out) (FnD : D → List Sh → List D → Out) (m : Nat)
theorem r_gap (bs : Nat) (n : Int) (k : Nat → Out) (h : 0 < n ∧ bs * n ≤ 140737488355328 ∧ n ≤ 9223372036854775807) : (real Fn FnD m).gap bs (il n) k = k n.toNat := by simp [real, il, h]
theorem r_cutNat (z : Int) (n : Nat) (k : Nat → Nat → Out) (e : Out) (h : 0 ≤ z ∧ z ≤ n) : (real Fn FnD m).cut none (some (il z)) n k e = k 0 z.toNat := by simp [real, oIntD_n, oIntD_s, h]
theorem r_nilDD (k : Out) : (real Fn FnD m).nilD (.lit (.slice none 0 0)) k = k := rfl
theorem r_litS : (real Fn FnD m).lit (.slice none 0 0) = .lit (.slice none 0 0) := rfl
theorem r_cutDn (s : Nat) (z : Int) (k : D → Out) (h : z = 0) : (real Fn FnD m).cutD s (.lit (.slice none 0 0)) none (some (il z)) k = k (.lit (.slice none 0 0)) := by subst h; rfl
end

theorem s89 (n : Nat) (m : Int) (h : 0 < m ∧ m ≤ 4398046511104) : FN (n + 1) 89 [.lit (.slice none 0 0), il m] = some (0, [.r []]) := by
  rw [F89]
  have hw : IntKind.i64.wrap (m - IntKind.i64.wrap (0 - 0)) = m := by
    rw [show IntKind.i64.wrap ((0 : Int) - 0) = 0 from rfl, Int.sub_zero]; exact wrap_id (by omega) (by omega)
  have h1 : decide (m < 0) = false := by simp; omega
  have h2 : decide (0 < m) = true := by simp; omega
  simp only [G89, r_liti, r_litS, r_lss, r_cond, h1, r_bnd0, r_ld0, r_lds, r_nilDD, r_lenN, r_sub, hw, r_gtr, h2, Bool.false_eq_true, if_false, if_true, r_out]
  rw [r_cutDn _ _ _ _ _ _ rfl]
  simp only [r_nilDD]
  rw [r_gap _ _ _ _ _ _ ⟨h.1, by omega, by omega⟩]
  simp only [r_eqN, r_leN, r_len, r_repl, r_out, r_seg0, List.length_replicate, if_true]
  rw [r_cutNat _ _ _ _ _ _ _ ⟨by omega, by omega⟩]
  simp

set_option maxRecDepth 10000 in
theorem l60_0 (n k : Nat) (r1 r2 : Rr) (hl : r1.length + r2.length ≤ 4398046511104) :
    loopR [L60_0 (RP n)] (k + 2 + 1) 0 [.d (.sl 1 [[.sl 4 r1], [.sl 4 r2]]), .d (il 0), .d (.sl 1 [[.sl 4 r1], [.sl 4 r2]]), .d (il ((2 : Nat) : Int)), .d (il ((0 : Nat) : Int))] =
      some (0, [.d (.sl 1 [[.sl 4 r1], [.sl 4 r2]]), .d (il ((r1.length + r2.length : Nat) : Int))]) := by
  have w1 : IntKind.i64.wrap (0 + (r1.length : Int)) = ((r1.length : Nat) : Int) := by rw [wrap_id (by omega) (by omega)]; simp
  have w2 : IntKind.i64.wrap ((r1.length : Int) + (r2.length : Int)) = ((r1.length + r2.length : Nat) : Int) := by rw [wrap_id (by omega) (by omega)]; simp
  have i1 : IntKind.i64.wrap (((0 : Nat) : Int) + 1) = ((1 : Nat) : Int) := rfl
  have i2 : IntKind.i64.wrap (((1 : Nat) : Int) + 1) = ((2 : Nat) : Int) := rfl
  have d1 : decide (((r1.length : Nat) : Int) < 0) = false := by simp
  have d2 : decide (((r1.length + r2.length : Nat) : Int) < 0) = false := by simp; omega
  rw [loopR1]
  simp only [L60_0, r_ld0, r_lds, r_lss, r_cond, r_liti]
  rw [if_pos (by decide), r_rowDn 1 _ 0 _ [.sl 4 r1] rfl rfl]
  simp only [r_cell0, r_lenD, r_add, w1, r_lss, d1, r_cond, Bool.false_eq_true, if_false, i1]
  rw [loopR1]
  simp only [L60_0, r_ld0, r_lds, r_lss, r_cond, r_liti]
  rw [if_pos (by decide), r_rowDn 1 _ 1 _ [.sl 4 r2] rfl rfl]
  simp only [r_cell0, r_lenD, r_add, w2, r_lss, d2, r_cond, Bool.false_eq_true, if_false, i2]
  rw [loopR1]
  simp only [L60_0, r_ld0, r_lds, r_lss, r_cond, r_liti]
  rw [if_neg (by decide)]
  rfl

set_option maxRecDepth 10000 in
theorem l60_1 (n k : Nat) (r1 r2 : Rr) (hl : r1.length + r2.length ≤ 4398046511104) :
    loopR [L60_1 (RP n)] (k + 2 + 1) 0 [.n 0, .n 0, .d (.sl 1 [[.sl 4 r1], [.sl 4 r2]]), .d (il ((2 : Nat) : Int)), .d (il ((0 : Nat) : Int)), .r []] =
      some (0, [.n (r1.length + r2.length), .n (r1.length + r2.length), .r (r1 ++ r2)]) := by
  have i1 : IntKind.i64.wrap (((0 : Nat) : Int) + 1) = ((1 : Nat) : Int) := rfl
  have i2 : IntKind.i64.wrap (((1 : Nat) : Int) + 1) = ((2 : Nat) : Int) := rfl
  have hm : (maxLen : Nat) = 9223372036854775807 := rfl
  rw [loopR1]
  simp only [L60_1, r_ld0, r_lds, r_lss, r_cond, r_liti]
  rw [if_pos (by decide), r_rowDn 1 _ 0 _ [.sl 4 r1] rfl rfl]
  simp only [r_cell0, r_rowsD, r_ln0, r_lns, r_lr0, r_lrs, r_len, r_eqN, List.length_nil, if_true, r_addN, Nat.zero_add]
  rw [r_fits _ _ _ (by omega) (by omega)]
  simp only [r_add, i1, r_app, List.nil_append]
  rw [loopR1]
  simp only [L60_1, r_ld0, r_lds, r_lss, r_cond, r_liti]
  rw [if_pos (by decide), r_rowDn 1 _ 1 _ [.sl 4 r2] rfl rfl]
  simp only [r_cell0, r_rowsD, r_ln0, r_lns, r_lr0, r_lrs, r_len, r_eqN, if_true, r_addN]
  rw [r_fits _ _ _ (by omega) (by omega)]
  simp only [r_add, i2, r_app]
  rw [loopR1]
  simp only [L60_1, r_ld0, r_lds, r_lss, r_cond, r_liti]
  rw [if_neg (by decide)]
  rfl

theorem s60 (n : Nat) (r1 r2 : Rr) (hl : r1.length + r2.length ≤ 4398046511104) (hp : 0 < r1.length + r2.length) :
    FN (n + 2) 60 [.sl 1 [[.sl 4 r1], [.sl 4 r2]]] = some (0, [.r (r1 ++ r2)]) := by
  rw [F60]
  obtain ⟨k, hk⟩ := rounds (l := 2) (by omega)
  have e0 := l60_0 (n + 1) k r1 r2 hl
  have e1 := l60_1 (n + 1) k r1 r2 hl
  rw [← hk] at e0 e1
  have h89 := s89 n ((r1.length + r2.length : Nat) : Int) ⟨by omega, by omega⟩
  simp only [G60, r_lenD, r_loop, r_liti, r_litS]
  simp only [List.length_cons, List.length_nil, Nat.zero_add, Nat.reduceAdd]
  rw [show (0 : Int) = ((0 : Nat) : Int) from rfl]
  rw [show (il ((0 : Nat) : Int)) = il 0 from rfl] at e0
  erw [e0]
  simp only [r_bnd0, r_ld0, r_lds, r_call, h89, r_lr0, r_len, r_lenD, List.length_nil, r_loop]
  simp only [List.length_cons, List.length_nil, Nat.zero_add, Nat.reduceAdd]
  erw [e1]
  simp [r_bnd0, r_ln0, r_lns, r_lr0, r_lrs, r_len, r_eqN, r_leN, r_out, r_seg0]
  exact List.take_of_length_le (by simp)
end Go.VE
/- The two Turns. -/
namespace Go.VE
open Go.RowKit Go.Proofs

def rotN (l : List Claim) (d : Int) : List Claim := l.drop (d.tmod l.length).toNat ++ l.take (d.tmod l.length).toNat
def tErr (cs : List Chain) (cl : List Cell) (l : List Claim) (d : Int) : Int := if cOK cs cl l = 0 then (if 0 ≤ d ∧ d ≤ 4166 then 0 else 6) else cOK cs cl l
def tRes (cs : List Chain) (cl : List Cell) (l : List Claim) (d : Int) : D := if tErr cs cl l d = 0 then dClaims (rotN l d) else .lit (.slice none 0 0)

theorem cOK_len {cs : List Chain} {cl : List Cell} {l : List Claim} (h : cOK cs cl l = 0) : 1 ≤ l.length ∧ l.length ≤ 12 := by
  unfold cOK at h
  split at h
  · split at h
    · rename_i h2; simp at h2; omega
    · simp at h
  · simp at h

theorem cut_ok {l : List Claim} {d : Int} (h : 1 ≤ l.length) (hd : 0 ≤ d) : 0 ≤ d.tmod l.length ∧ d.tmod l.length ≤ l.length := by
  have h1 := Int.tmod_nonneg (l.length : Int) hd
  have h2 := Int.tmod_lt_of_pos d (show (0 : Int) < l.length by omega)
  omega

theorem r_litsT (Fn : Nat → List D → Out) (FnD : D → List Sh → List D → Out) (m : Nat) (ys : List Yr) (k : Out) (h : ys.all ynLit = true) : (real Fn FnD m).lits ys k = k := by rw [r_lits, if_pos h]
theorem lit_claims (l : List Claim) : ([Y.r (l.map rClaim)] : List Yr).all ynLit = true := by
  simp [ynLit, rClaim, il]
  intro x _; exact ⟨rfl, rfl, rfl, rfl⟩

theorem s12 (n : Nat) (cs : List Chain) (cl : List Cell) (l : List Claim) (d : Int) :
    FN (n + 5) 12 [dChains cs, dCells cl, dClaims l, il d] = some (0, [.d (tRes cs cl l d), .d (il (tErr cs cl l d))]) := by
  rw [F12]
  simp only [G12, r_call]
  rw [s17]
  simp only [r_bnd0, r_ld0, r_liti, r_litS, r_neq, r_cond, r_out]
  by_cases hc : cOK cs cl l = 0
  · have hl := cOK_len hc
    rw [if_neg (by simp [hc]), s59]
    simp only [r_bnd0, r_ld0, r_not, r_cond]
    by_cases hd : 0 ≤ d ∧ d ≤ 4166
    · have hr := cut_ok hl.1 hd.1
      have e : FN (n + 4) 60 [.sl 1 [[.sl 4 (List.drop (d.tmod l.length).toNat (l.map rClaim))], [.sl 4 (List.take (d.tmod l.length).toNat (l.map rClaim))]]] = _ := s60 (n + 2) _ _ (by simp; omega) (by simp; omega)
      have he : tErr cs cl l d = 0 := by simp [tErr, hc, hd]
      rw [if_neg (by simp [hd])]
      simp only [dClaims, r_lenD, List.length_map]
      rw [r_rem _ _ _ _ (by omega)]
      rw [r_cutD_lo _ _ _ _ (by simpa using hr), r_cutD_hi _ _ _ _ (by simpa using hr)]
      simp only [r_eqN, r_natN, r_rows, r_len, List.length_cons, List.length_nil, Nat.zero_add, Nat.reduceAdd, if_true, r_slD, r_seg0, List.take_succ_cons, List.take_zero, e]
      simp only [r_bnd0, r_lr0]
      rw [← List.map_drop, ← List.map_take, ← List.map_append, r_litsT _ _ _ _ _ (lit_claims _)]
      simp only [r_eqN, if_true, r_seg0, List.take_length, r_slD, r_len, r_out, he, tRes, rotN, dClaims]
    · have he : tErr cs cl l d = 6 := by simp only [tErr, hc, if_true]; rw [if_neg hd]
      rw [if_pos (by simp; omega)]
      simp [tRes, he]
  · rw [if_pos (by simpa using hc)]
    have he : tErr cs cl l d = cOK cs cl l := by simp [tErr, hc]
    simp [tRes, he, hc]

theorem s13 (n : Nat) (cs : List Chain) (cl : List Cell) (l : List Claim) (d : Int) (hl : l.length ≤ 9223372036854775806) :
    FN (n + 5) 13 [dChains cs, dCells cl, dClaims l, il d] = some (0, [.d (tRes cs cl l d), .d (il (tErr cs cl l d))]) := by
  rw [F13]
  simp only [G13, r_call]
  rw [s18 _ _ _ _ hl]
  simp only [r_bnd0, r_ld0, r_liti, r_litS, r_neq, r_cond, r_out]
  by_cases hc : cOK cs cl l = 0
  · have hl := cOK_len hc
    rw [if_neg (by simp [hc]), s61]
    simp only [r_bnd0, r_ld0, r_not, r_cond]
    by_cases hd : 0 ≤ d ∧ d ≤ 4166
    · have hr := cut_ok hl.1 hd.1
      have hm : (maxLen : Nat) = 9223372036854775807 := rfl
      have he : tErr cs cl l d = 0 := by simp [tErr, hc, hd]
      rw [if_neg (by simp [hd])]
      simp only [dClaims, r_lenD, List.length_map]
      rw [r_rem _ _ _ _ (by omega)]
      rw [r_cutD_lo _ _ _ _ (by simpa using hr)]
      simp only [r_rowsD, r_eqN, r_natN, r_rows, r_len, List.length_nil, if_true, r_addN, Nat.zero_add]
      rw [r_fits _ _ _ (by simp; omega) (by simp; omega), r_cutD_hi _ _ _ _ (by simpa using hr)]
      simp only [r_rowsD, r_app, List.nil_append, if_true]
      rw [r_fits _ _ _ (by simp; omega) (by simp; omega)]
      simp only [List.length_append, if_true, r_seg0, r_slD, r_out, he, tRes, rotN, dClaims]
      rw [List.take_of_length_le (by simp)]
      simp
    · have he : tErr cs cl l d = 6 := by simp only [tErr, hc, if_true]; rw [if_neg hd]
      rw [if_pos (by simp; omega)]
      simp [tRes, he]
  · rw [if_pos (by simpa using hc)]
    have he : tErr cs cl l d = cOK cs cl l := by simp [tErr, hc]
    simp [tRes, he, hc]
end Go.VE
/- Whether claims are the same; the law DriftChecks. -/
namespace Go.VE
open Go.RowKit Go.Proofs

def sameFrom : List Claim → List Claim → Bool
  | [], _ => true
  | c :: r, y :: s => decide (c = y) && sameFrom r s
  | _ :: _, [] => false
theorem claim_eq (a b : Claim) : (decide (a.family = b.family) && (decide (a.heads = b.heads) && (decide (a.from_ = b.from_) && decide (a.to = b.to)))) = decide (a = b) := by
  cases a; cases b; simp

theorem s14 (n : Nat) (a b : List Claim) (ha : a.length ≤ 4611686018427387904) : FN (n + 1) 14 [dClaims a, dClaims b] = some (0, [.d (bl (decide (a = b)))]) := by
  rw [F14]
  simp only [G14, dClaims, r_lenD, r_eql, r_loop, List.length_map]
  by_cases hl : a.length = b.length
  · have hl' : decide ((a.length : Int) = (b.length : Int)) = true := by simp [hl]
    rw [hl']
    have := range_loop (β := Bool) a ha (L14_0 (RP n)) (fun i y => [.d (dClaims a), .d (dClaims b), .d (bl y), .d (il (i : Int))]) (fun _ _ => True)
      (fun i r y => some (0, [.d (bl (y && decide (r = b.drop i)))]))
      (by intro y k _; simp [L14_0, dClaims, hl])
      (by
        intro i c r y k hc hd hi hw _ ih
        have hib : i < b.length := by omega
        have hcb : b[i]? = some b[i] := by simp [hib]
        have hdb : b.drop i = b[i] :: b.drop (i + 1) := List.drop_eq_getElem_cons hib
        cases y with
        | false => simp [L14_0, dClaims, hi]
        | true =>
          have ih' := ih (decide (c = b[i])) trivial
          simp [L14_0, dClaims, hi, hc, hcb, rClaim, hw, -getElem?_pos] at ih' ⊢
          rw [claim_eq, ih', hdb]
          simp only [List.cons.injEq, Bool.decide_and])
      M0 true trivial (M0_big ha)
    simp only [dClaims] at this
    rw [show (RP n).lit (.int .i64 0) = il ((0 : Nat) : Int) from rfl, this]
    simp
  · have hl' : decide ((a.length : Int) = (b.length : Int)) = false := by simp; omega
    rw [hl', show M0 = 18446744073709551615 + 1 from rfl, loopR1]
    have hne : decide (a = b) = false := by simp; intro h; subst h; exact hl rfl
    simp [L14_0, hne]
theorem s14n (n : Nat) : FN (n + 1) 14 [.lit (.slice none 0 0), .lit (.slice none 0 0)] = some (0, [.d (bl true)]) := by
  rw [F14]
  simp [G14]
  rw [show M0 = 18446744073709551615 + 1 from rfl, loopR1]
  simp [L14_0]

/-- The law's own function. -/
theorem s3 (n : Nat) {Fn : Nat → List D → Out} {FnD : D → List Sh → List D → Out} {m : Nat} (h11 : Fn 11 [] = some (0, [.d (bl true)])) (hF : ∀ f xs, f ≠ 11 → Fn f xs = FN (n + 5) f xs) (cs : List Chain) (cl : List Cell) (l : List Claim) (c : Chain) (e : Cell) (x : Claim) (d : Int) (hl : l.length ≤ 4611686018427387904) :
    G3 (real Fn FnD m) (dChains cs) (dCells cl) (dClaims l) (il c.id) (il c.lo) (il c.hi) (il e.chain) (il e.links) (il e.worth) (il x.family) (il x.heads) (il x.from_) (il x.to) (il d) = some (0, [.d (bl true)]) := by
  have hs : FN (n + 5) 14 [tRes cs cl l d, tRes cs cl l d] = some (0, [.d (bl true)]) := by
    unfold tRes
    split
    · have hr : (rotN l d).length ≤ 4611686018427387904 := by
        rename_i he
        unfold rotN; simp only [List.length_append, List.length_drop, List.length_take]; omega
      rw [s14 _ _ _ hr]; simp
    · exact s14n _
  simp only [G3, r_call, h11, hF 12 _ (by decide), hF 13 _ (by decide), hF 14 _ (by decide), hF 15 _ (by decide), hF 16 _ (by decide), hF 17 _ (by decide), hF 18 _ (by decide), hF 19 _ (by decide), hF 20 _ (by decide), hF 21 _ (by decide), hF 22 _ (by decide), hF 23 _ (by decide), hF 24 _ (by decide),
    s12, s13 _ _ _ _ _ (show l.length ≤ 9223372036854775806 by omega), r_bnd0, r_ld0, r_lds, hs, r_not, r_cond]
  simp only [Bool.not_true, Bool.false_eq_true, if_false, r_neq, r_cond, ne_eq, not_true, decide_false, s15, s16, s17, s18 _ _ _ _ (show l.length ≤ 9223372036854775806 by omega), s19, s20, s21, s22, s23, s24, r_bnd0, r_ld0, r_eql, decide_true, if_true, r_out]
end Go.VE
/- Drifts: whether they are ones, how many links of each chain they have. -/
namespace Go.VE
open Go.RowKit Go.Proofs

structure Drift where
  fr : Int
  to_ : Int
  deriving DecidableEq
def rDrift (d : Drift) : List D := [il d.fr, il d.to_]
def dDrifts (l : List Drift) : D := .sl 2 (l.map rDrift)
def isD (cl : List Cell) (a b : Int) : Bool := decide (0 ≤ a ∧ a ≤ b ∧ b < cl.length)
def rI (v : List Int) : Rr := v.map fun z => [il z]
def dI (v : List Int) : D := .sl 1 (rI v)

theorem s95 (n : Nat) (a b : Int) (x : D) (cl : List Cell) : FN (n + 1) 95 [il a, il b, x, dCells cl] = some (0, [.d (bl (!isD cl a b))]) := by
  rw [F95]
  simp only [G95, dCells, r_lss, r_cond, r_out, r_litb, r_liti, r_lenD, r_geq, isD, List.length_map, decide_eq_true_eq]
  by_cases h1 : a < 0
  · have : ¬ 0 ≤ a := by omega
    simp [h1, this]
  · have h1' : 0 ≤ a := by omega
    by_cases h2 : b < a
    · have : ¬ a ≤ b := by omega
      simp [h1, h2, this]
    · have h2' : a ≤ b := by omega
      rw [if_neg h1, if_neg h2]
      have : decide ((cl.length : Int) ≤ b) = !decide (0 ≤ a ∧ a ≤ b ∧ b < cl.length) := by
        rw [Bool.eq_iff_iff]; simp; omega
      rw [this]
theorem d95 (n : Nat) (a b : Int) (x : D) (cl : List Cell) : FnDof (cf3 tb Try.prog) (FN (n + 1)) (.fn 95 [.dp [x, dCells cl] 0]) [.agg 2] [il a, il b] = some (0, [.d (bl (!isD cl a b))]) := by
  simp [FnDof, vdsOf, flatV, cf3, tb, ashT, rskT, isOneD, s95, D.isLit, bl]
theorem s107 (n : Nat) (x : D) (cl : List Cell) (l : List Drift) (hl : l.length ≤ 4611686018427387904) :
    FN (n + 2) 107 [dDrifts l, .fn 95 [.dp [x, dCells cl] 0]] = some (0, [.d (il (match l.findIdx? (fun d => !isD cl d.fr d.to_) with | some i => (i : Int) | none => -1))]) := by
  rw [F107]
  have e := range_loop (β := Unit) l hl (L107_0 (RP (n + 1))) (fun i _ => [.d (dDrifts l), .d (.fn 95 [.dp [x, dCells cl] 0]), .d (il l.length), .d (il (i : Int))]) (fun _ _ => True)
    (fun i r _ => match r.findIdx? (fun d => !isD cl d.fr d.to_) with | some j => some (0, [.d (il ((i + j : Nat) : Int))]) | none => some (1, []))
    (by intro y k _; simp [L107_0])
    (by
      intro i c r y k hc hd hi hw _ ih
      have ih' := ih () trivial
      simp [L107_0, dDrifts, hi, hc, rDrift, hw, d95, -getElem?_pos, List.findIdx?_cons] at ih' ⊢
      cases h : isD cl c.fr c.to_ with
      | false => simp
      | true =>
        simp only [Bool.true_eq_false, if_false]
        rw [ih']
        cases h2 : List.findIdx? (fun d => !isD cl d.fr d.to_) r with
        | none => simp
        | some j => simp; omega)
    M0 () trivial (M0_big hl)
  simp only [dDrifts] at e
  simp only [G107, dDrifts, r_lenD, r_loop, List.length_map]
  rw [show (RP (n + 1)).lit (.int .i64 0) = il ((0 : Nat) : Int) from rfl, e]
  cases h2 : List.findIdx? (fun d => !isD cl d.fr d.to_) l <;> simp
theorem s71 (n : Nat) (x : D) (cl : List Cell) (l : List Drift) (hl : l.length ≤ 4611686018427387904) :
    FN (n + 4) 71 [x, dCells cl, dDrifts l] = some (0, [.d (bl (l.all fun d => isD cl d.fr d.to_))]) := by
  rw [F71]
  simp only [G71, r_call]
  rw [F94]
  simp only [G94, r_call, r_fnD, r_dpD, s107 _ _ _ _ hl]
  have key : (!decide ((0 : Int) ≤ (match List.findIdx? (fun d => !isD cl d.fr d.to_) l with | some i => (i : Int) | none => -1))) = (l.all fun d => isD cl d.fr d.to_) := by
    cases h2 : List.findIdx? (fun d => !isD cl d.fr d.to_) l with
    | none => simp [List.findIdx?_eq_none_iff] at h2 ⊢; exact h2
    | some j =>
      obtain ⟨hj, hp, _⟩ := List.findIdx?_eq_some_iff_getElem.1 h2
      have : (l.all fun d => isD cl d.fr d.to_) = false := by
        rw [List.all_eq_false]; exact ⟨l[j], List.getElem_mem hj, by simpa using hp⟩
      rw [this]; simp
  simp only [r_liti, r_geq, r_bnd0, r_ld0, r_litsg, r_not, r_out, List.all_cons, List.all_nil, yl_b, Bool.and_self, if_true, key]
theorem s71one (n : Nat) (x : D) (cl : List Cell) (a b : Int) : FN (n + 4) 71 [x, dCells cl, .sl 2 [[il a, il b]]] = some (0, [.d (bl (isD cl a b))]) := by
  have := s71 n x cl [⟨a, b⟩] (by simp)
  simpa [dDrifts, rDrift] using this
theorem s71two (n : Nat) (x : D) (cl : List Cell) (a b c d : Int) : FN (n + 4) 71 [x, dCells cl, .sl 2 [[il a, il b], [il c, il d]]] = some (0, [.d (bl (isD cl a b && isD cl c d))]) := by
  have := s71 n x cl [⟨a, b⟩, ⟨c, d⟩] (by simp)
  simpa [dDrifts, rDrift] using this
theorem s77 (n : Nat) (x : D) (cl : List Cell) (a b : Int) : FN (n + 2) 77 [x, dCells cl, il a, il b] = some (0, [.d (bl (isD cl a b))]) := by
  rw [F77]
  simp [G77, s61, dCells, isD]
  by_cases h1 : 0 ≤ a <;> by_cases h2 : a ≤ b <;> simp [h1, h2]

/-! ### links -/
def linkF (cs : List Chain) : List Cell → List Int → List Int
  | [], v => v
  | c :: r, v => linkF cs r (match findC c.chain cs 0 with
    | some k => v.set k (v.getD k 0 + c.links)
    | none => v)
def seg (cl : List Cell) (a b : Int) : List Cell := (cl.take (b + 1).toNat).drop a.toNat
def linkV (cs : List Chain) (cl : List Cell) (a b : Int) : List Int := linkF cs (seg cl a b) (List.replicate cs.length 0)

theorem okCells_mem {cs : List Chain} : ∀ {cl : List Cell}, okCells cs cl = true → ∀ c ∈ cl, vCell c.chain c.links c.worth = true ∧ ∃ k, findC c.chain cs 0 = some k ∧ k < cs.length
  | [], _, c, h => by cases h
  | x :: cl, ho, c, h => by
    simp only [okCells, Bool.and_eq_true] at ho
    rcases List.mem_cons.1 h with rfl | h
    · refine ⟨ho.1.1, ?_⟩
      obtain ⟨k, hk⟩ := Option.isSome_iff_exists.1 ho.1.2
      have := findC_lt hk
      exact ⟨k, hk, by omega⟩
    · exact okCells_mem ho.2 c h
theorem look_find {l : List Chain} {x : Int} {k : Nat} (h : findC x l 0 = some k) : lookD 0 [.int .i64 0] (mpOf l) (il x) = some ([il k], bl true) := by
  have hl := findC_lt h
  simp only [lookD, il, litD, isKey, if_true, mpOf, mFind_ok, h]
  simp only [List.getElem?_map, List.getElem?_range (show k < l.length by omega), Option.map_some]
  rfl
def okV (m : Int) (v : List Int) : Prop := ∀ z ∈ v, 0 ≤ z ∧ z ≤ m
theorem okV_set {m : Int} {v : List Int} {k : Nat} {x : Int} (h : okV m v) (hx : 0 ≤ x ∧ x ≤ m) : okV m (v.set k x) := by
  intro z hz
  rcases List.mem_or_eq_of_mem_set hz with h1 | rfl
  · exact h z h1
  · exact hx
theorem okV_mono {m m' : Int} {v : List Int} (h : okV m v) (hm : m ≤ m') : okV m' v := fun z hz => ⟨(h z hz).1, by have := (h z hz).2; omega⟩
theorem okV_at {m : Int} {v : List Int} (h : okV m v) {k : Nat} (hk : k < v.length) : 0 ≤ v[k] ∧ v[k] ≤ m := h _ (List.getElem_mem hk)
end Go.VE
/- How many links of each chain a drift has. -/
namespace Go.VE
open Go.RowKit Go.Proofs

theorem rI_set (v : List Int) (k : Nat) (x : Int) : rI (v.set k x) = (rI v).set k [il x] := by simp [rI, List.map_set]
theorem rI_at {v : List Int} {k : Nat} {z : Int} (h : v[k]? = some z) : (rI v)[k]? = some [il z] := by simp [rI, h]
theorem rI_len (v : List Int) : (rI v).length = v.length := by simp [rI]
theorem seg_mem {cl : List Cell} {a b : Int} {c : Cell} (h : c ∈ seg cl a b) : c ∈ cl := List.mem_of_mem_take (List.mem_of_mem_drop h)
theorem seg_len (cl : List Cell) (a b : Int) : (seg cl a b).length ≤ cl.length := by simp [seg]; omega
theorem linkF_len (cs : List Chain) : ∀ (L : List Cell) (v : List Int), (linkF cs L v).length = v.length
  | [], v => rfl
  | c :: r, v => by
    rw [linkF, linkF_len cs r]
    split <;> simp
theorem linkF_ok {cs : List Chain} : ∀ (L : List Cell) (v : List Int) (m : Int), 0 ≤ m → (∀ c ∈ L, vCell c.chain c.links c.worth = true) → okV m v → okV (m + 1000 * L.length) (linkF cs L v)
  | [], v, m, _, _, h => by simpa [linkF] using h
  | c :: r, v, m, hm, hc, h => by
    have hv := hc c (by simp)
    simp only [vCell, decide_eq_true_eq] at hv
    rw [linkF]
    have h2 : okV (m + 1000) (match findC c.chain cs 0 with | some k => v.set k (v.getD k 0 + c.links) | none => v) := by
      split
      · rename_i k _
        refine okV_set (okV_mono h (by omega)) ?_
        by_cases hk : k < v.length
        · have := h _ (List.getElem_mem hk)
          simp [List.getD_eq_getElem?_getD, hk]; omega
        · simp [List.getD_eq_getElem?_getD, List.getElem?_eq_none (show v.length ≤ k by omega)]; omega
      · exact okV_mono h (by omega)
    have := linkF_ok (cs := cs) r _ (m + 1000) (by omega) (fun c h => hc c (by simp [h])) h2
    refine okV_mono this ?_
    simp; omega
theorem linkV_len (cs : List Chain) (cl : List Cell) (a b : Int) : (linkV cs cl a b).length = cs.length := by simp [linkV, linkF_len]
theorem okG_cells {cs : List Chain} {cl : List Cell} (h : okGround cs cl = true) : ∀ c ∈ cl, vCell c.chain c.links c.worth = true ∧ ∃ k, findC c.chain cs 0 = some k ∧ k < cs.length := by
  simp only [okGround, Bool.and_eq_true] at h
  exact okCells_mem h.2
theorem okG_len {cs : List Chain} {cl : List Cell} (h : okGround cs cl = true) : 1 ≤ cs.length ∧ cs.length ≤ 6 ∧ 1 ≤ cl.length ∧ cl.length ≤ 24 := by
  simp only [okGround, Bool.and_eq_true, decide_eq_true_eq] at h
  exact h.1.1
theorem okG_nodup {cs : List Chain} {cl : List Cell} (h : okGround cs cl = true) : (cs.map (·.id)).Nodup := by
  simp only [okGround, Bool.and_eq_true] at h
  exact (ids_nodup h.1.2).2
theorem linkV_ok {cs : List Chain} {cl : List Cell} (h : okGround cs cl = true) (a b : Int) : okV 24000 (linkV cs cl a b) := by
  have := linkF_ok (cs := cs) (seg cl a b) (List.replicate cs.length 0) 0 (by omega) (fun c hc => (okG_cells h c (seg_mem hc)).1) (by intro z hz; simp at hz; omega)
  refine okV_mono this ?_
  have := seg_len cl a b
  have := okG_len h
  omega

set_option maxRecDepth 100000 in
theorem l73 (n : Nat) (cs : List Chain) (L : List Cell) (hcs : cs.length ≤ 6) (hL : L.length ≤ 24) (hc : ∀ c ∈ L, vCell c.chain c.links c.worth = true ∧ ∃ k, findC c.chain cs 0 = some k ∧ k < cs.length) :
    loopR [L73_0 (RP n)] M0 0 [.n cs.length, .n cs.length, .d (dCells L), .d (il L.length), .d (il ((0 : Nat) : Int)), .m (mpOf cs), .r (rI (List.replicate cs.length 0))] = some (0, [.n cs.length, .n cs.length, .r (rI (linkF cs L (List.replicate cs.length 0)))]) := by
  refine range_loop (β := List Int) L (by omega) (L73_0 (RP n)) (fun i v => [.n cs.length, .n cs.length, .d (dCells L), .d (il L.length), .d (il (i : Int)), .m (mpOf cs), .r (rI v)]) (fun i v => v.length = cs.length ∧ okV (1000 * i) v)
    (fun i r v => some (0, [.n cs.length, .n cs.length, .r (rI (linkF cs r v))])) ?_ ?_ M0 (List.replicate cs.length 0) ⟨by simp, by intro z hz; simp at hz; omega⟩ (M0_big (by omega))
  · intro v k hI
    simp [L73_0, linkF]
  · intro i c r v k hc0 hd hi hw hI ih
    obtain ⟨hv, q, hq, hqs⟩ := hc c (List.mem_of_getElem? hc0)
    simp only [vCell, decide_eq_true_eq] at hv
    have hlk := look_find hq
    have hvq := getD_some (l := v) 0 (show q < v.length by omega)
    have hz := hI.2 _ (List.mem_of_getElem? hvq)
    have hr := rI_at hvq
    have hw2 : IntKind.i64.wrap (v.getD q 0 + c.links) = v.getD q 0 + c.links := wrap_id (by omega) (by omega)
    have ih' := ih (v.set q (v.getD q 0 + c.links)) ⟨by simp [hI.1], okV_set (okV_mono hI.2 (by omega)) (by omega)⟩
    have hlen : cs.length = (rI v).length := by rw [rI_len, hI.1]
    simp only [L73_0, r_ld0, r_lds, r_ln0, r_lns, r_lr0, r_lrs, r_lm0, r_lms, r_lss, r_cond, show ((i : Int) < (L.length : Int)) by omega, decide_true, if_true, dCells, r_rowDg, Int.toNat_natCast, List.getElem?_map, hc0, Option.map_some, rCell, r_cell0, r_cells, r_lookg, hlk, r_eqN, r_len, hlen.symm, r_inxg, r_rowAtg, hr, r_add, hw2, hw, r_setR, r_liti]
    simp only [dCells, rI_set, Int.natCast_add, Int.cast_ofNat_Int, rCell] at ih'
    have hqs' : (q : Int) < (cs.length : Int) := by omega
    simp [hqs', linkF, hq, hr, hlen.symm, hw2]
    simpa using ih'

set_option maxRecDepth 100000 in
theorem s73 (n : Nat) (cs : List Chain) (cl : List Cell) (a b : Int) (hg : okGround cs cl = true) (hd : isD cl a b = true) : FN (n + 2) 73 [dChains cs, dCells cl, il a, il b] = some (0, [.r (rI (linkV cs cl a b))]) := by
  rw [F73]
  have hl := okG_len hg
  simp only [isD, decide_eq_true_eq] at hd
  have e1 := s62 n cs (dCells cl) (by omega) (okG_nodup hg)
  have e2 := l73 (n + 1) cs (seg cl a b) hl.2.1 (by have := seg_len cl a b; omega) (fun c hc => okG_cells hg c (seg_mem hc))
  have hw : IntKind.i64.wrap (b + 1) = b + 1 := wrap_id (by omega) (by omega)
  simp only [dChains] at e1
  simp only [G73, dChains, r_lenD, r_mkNg, List.length_map, r_call, e1, r_bnd0, r_add, r_liti, hw]
  simp only [dCells]
  rw [r_cutDg _ _ _ _ _ (by simp; omega)]
  have e3 : ((cl.map rCell).drop a.toNat).take (b + 1 - a).toNat = (seg cl a b).map rCell := by
    rw [← List.map_drop, ← List.map_take, seg, List.drop_take]
    congr 3; omega
  rw [e3]
  simp only [dCells] at e2
  simp only [r_lenD, List.length_map, r_loop, Int.toNat_natCast, r_repl]
  rw [show List.replicate cs.length [il 0] = rI (List.replicate cs.length 0) by simp [rI]]
  simp only [r_lm0]
  rw [show (il 0) = il ((0 : Nat) : Int) from rfl, e2]
  simp [rI_len, linkF_len, linkV]
  refine ⟨by omega, ?_⟩
  rw [List.take_of_length_le (by simp [rI_len, linkF_len])]
end Go.VE
/- Lengths of drifts: spans, what is truly so long. -/
namespace Go.VE
open Go.RowKit Go.Proofs
set_option maxRecDepth 100000

theorem mul_bnd {z c A B : Int} (h1 : -A ≤ z) (h2 : z ≤ A) (h3 : 0 ≤ c) (h4 : c ≤ B) (hA : 0 ≤ A) : -(A * B) ≤ z * c ∧ z * c ≤ A * B := by
  have a1 := Int.mul_le_mul_of_nonneg_right h2 h3
  have a2 := Int.mul_le_mul_of_nonneg_left h4 hA
  have a3 := Int.mul_le_mul_of_nonneg_right h1 h3
  rw [Int.neg_mul] at a3
  exact ⟨by omega, by omega⟩
theorem okChains_mem : ∀ {cs : List Chain} {p : Option Int}, okChains p cs = true → ∀ c ∈ cs, vChain c.id c.lo c.hi = true
  | [], _, _, c, h => by cases h
  | x :: cs, p, ho, c, h => by
    simp only [okChains, Bool.and_eq_true] at ho
    rcases List.mem_cons.1 h with rfl | h
    · exact ho.1.1
    · exact okChains_mem ho.2 c h
theorem okG_chains {cs : List Chain} {cl : List Cell} (h : okGround cs cl = true) : ∀ c ∈ cs, 1 ≤ c.lo ∧ c.lo ≤ c.hi ∧ c.hi ≤ 1000 := by
  simp only [okGround, Bool.and_eq_true] at h
  intro c hc
  have := okChains_mem h.1.2 c hc
  simp only [vChain, decide_eq_true_eq] at this
  omega

theorem l79 (n : Nat) (cs : List Chain) (cl : List Cell) (a b : Int) (hg : okGround cs cl = true) (hd : isD cl a b = true) :
    loopR [L79_0 (RP (n + 1))] M0 0 [.n cs.length, .n cs.length, .d (il a), .r (rI (List.replicate cs.length 0)), .d (il a), .d (il b), .d (dChains cs), .d (dCells cl)] = some (0, [.n cs.length, .n cs.length, .r (rI (linkV cs cl a b))]) := by
  have hl := okG_len hg
  simp only [isD, decide_eq_true_eq] at hd
  have hLl : (cl.take (b + 1).toNat).length = (b + 1).toNat := by simp; omega
  have := range_from (β := List Int) (cl.take (b + 1).toNat) (by omega) (L79_0 (RP (n + 1))) (fun i v => [.n cs.length, .n cs.length, .d (il (i : Int)), .r (rI v), .d (il a), .d (il b), .d (dChains cs), .d (dCells cl)]) (fun i v => v.length = cs.length ∧ okV (1000 * i) v)
    (fun i r v => some (0, [.n cs.length, .n cs.length, .r (rI (linkF cs r v))])) ?_ ?_ M0 a.toNat (by omega) (List.replicate cs.length 0) ⟨by simp, by intro z hz; simp at hz; omega⟩ (M0_big (by omega))
  · rw [show ((a.toNat : Nat) : Int) = a by omega] at this
    rw [this]; rfl
  · intro v k hI
    rw [hLl]
    simp [L79_0, linkF]
    intro h; omega
  · intro i c r v k hc0 hd' hi hw hI ih
    rw [hLl] at hi
    have hc1 : cl[i]? = some c := by rw [List.getElem?_take] at hc0; split at hc0 <;> simp_all
    obtain ⟨hv, q, hq, hqs⟩ := okG_cells hg c (List.mem_of_getElem? hc1)
    simp only [vCell, decide_eq_true_eq] at hv
    have hvq := getD_some (l := v) 0 (show q < v.length by omega)
    have hz := hI.2 _ (List.mem_of_getElem? hvq)
    have hr := rI_at hvq
    have hw2 : IntKind.i64.wrap (v.getD q 0 + c.links) = v.getD q 0 + c.links := wrap_id (by omega) (by omega)
    have ih' := ih (v.set q (v.getD q 0 + c.links)) ⟨by simp [hI.1], okV_set (okV_mono hI.2 (by omega)) (by omega)⟩
    have hlen : cs.length = (rI v).length := by rw [rI_len, hI.1]
    have e63 := s63 n cs (dCells cl) c.chain (by omega)
    rw [hq] at e63
    simp only [dCells, dChains] at e63
    simp only [L79_0, r_ld0, r_lds, r_ln0, r_lns, r_lr0, r_lrs, r_leq, r_cond, show ((i : Int) ≤ b) by omega, decide_true, if_true, dCells, dChains, r_rowDg, Int.toNat_natCast, List.getElem?_map, hc1, Option.map_some, rCell, r_cell0, r_cells, r_call, e63, r_bnd0, r_eqN, r_len, hlen.symm, r_inxg, r_rowAtg, hr, r_add, hw2, hw, r_setR, r_liti]
    simp only [dCells, dChains, rI_set, Int.natCast_add, Int.cast_ofNat_Int, rCell] at ih'
    have hqs' : (q : Int) < (cs.length : Int) := by omega
    simp [hqs', linkF, hq, hr, hlen.symm, hw2]
    simpa using ih'
theorem s79 (n : Nat) (cs : List Chain) (cl : List Cell) (a b : Int) (hg : okGround cs cl = true) (hd : isD cl a b = true) : FN (n + 2) 79 [dChains cs, dCells cl, il a, il b] = some (0, [.r (rI (linkV cs cl a b))]) := by
  rw [F79]
  have hl := okG_len hg
  have e := l79 n cs cl a b hg hd
  rw [show rI (List.replicate cs.length 0) = List.replicate cs.length [il 0] by simp [rI]] at e
  simp only [dChains] at e
  simp only [G79, dChains, r_lenD, r_mkNg, List.length_map, r_liti, r_loop, r_repl, Int.toNat_natCast, e]
  simp [rI_len, linkV_len]
  refine ⟨by omega, ?_⟩
  rw [List.take_of_length_le (by simp [rI_len, linkV_len])]

/-! ### spans -/
def spanZ : List (Int × Chain) → Int × Int → Int × Int
  | [], p => p
  | (z, c) :: r, p => spanZ r (p.1 + min (z * c.lo) (z * c.hi), p.2 + max (z * c.lo) (z * c.hi))
def spanV (cs : List Chain) (v : List Int) : Int × Int := spanZ (v.zip cs) (0, 0)
def okW (v : List Int) : Prop := ∀ z ∈ v, -24000 ≤ z ∧ z ≤ 24000

theorem zip_at {v : List Int} {cs : List Chain} {i : Nat} {z : Int} {c : Chain} (h : (v.zip cs)[i]? = some (z, c)) : v[i]? = some z ∧ cs[i]? = some c := List.getElem?_zip_eq_some.1 h
theorem l72 (n : Nat) (cs : List Chain) (v : List Int) (x : List D) (u1 u2 : D) (hv : v.length = cs.length) (hl : cs.length ≤ 6) (hc : ∀ c ∈ cs, 1 ≤ c.lo ∧ c.lo ≤ c.hi ∧ c.hi ≤ 1000) (hw : okW v) :
    loopR [L72_0 (RP n)] M0 0 [.d (dI v), .d (dChains cs), .d (il cs.length), .d (il ((0 : Nat) : Int)), .d (il 0), .d (il 0), .d u1, .d u2] = some (0, [.d (il (spanV cs v).1), .d (il (spanV cs v).2), .d u1, .d u2]) := by
  have hzl : (v.zip cs).length = cs.length := by simp [hv]
  refine range_loop (β := Int × Int) (v.zip cs) (by omega) (L72_0 (RP n)) (fun i p => [.d (dI v), .d (dChains cs), .d (il cs.length), .d (il (i : Int)), .d (il p.1), .d (il p.2), .d u1, .d u2]) (fun i p => -24000000 * i ≤ p.1 ∧ p.1 ≤ 24000000 * i ∧ -24000000 * i ≤ p.2 ∧ p.2 ≤ 24000000 * i)
    (fun i r p => some (0, [.d (il (spanZ r p).1), .d (il (spanZ r p).2), .d u1, .d u2])) ?_ ?_ M0 (0, 0) (by simp) (M0_big (by omega))
  · intro p k hI
    simp [L72_0, spanZ, hzl]
  · intro i zc r p k hz hd hi hw1 hI ih
    obtain ⟨z, c⟩ := zc
    obtain ⟨hz1, hc1⟩ := zip_at hz
    have hzb := hw z (List.mem_of_getElem? hz1)
    have hcb := hc c (List.mem_of_getElem? hc1)
    rw [hzl] at hi
    have b1 := mul_bnd (A := 24000) (B := 1000) hzb.1 hzb.2 (show 0 ≤ c.lo by omega) (by omega) (by omega)
    have b2 := mul_bnd (A := 24000) (B := 1000) hzb.1 hzb.2 (show 0 ≤ c.hi by omega) (by omega) (by omega)
    have w1 : IntKind.i64.wrap (z * c.lo) = z * c.lo := wrap_id (by omega) (by omega)
    have w2 : IntKind.i64.wrap (z * c.hi) = z * c.hi := wrap_id (by omega) (by omega)
    have w3 : IntKind.i64.wrap (p.1 + min (z * c.lo) (z * c.hi)) = p.1 + min (z * c.lo) (z * c.hi) := wrap_id (by omega) (by omega)
    have w4 : IntKind.i64.wrap (p.2 + max (z * c.lo) (z * c.hi)) = p.2 + max (z * c.lo) (z * c.hi) := wrap_id (by omega) (by omega)
    have ih' := ih (p.1 + min (z * c.lo) (z * c.hi), p.2 + max (z * c.lo) (z * c.hi)) (by simp only; omega)
    simp [L72_0, dI, dChains, hi, hc1, rChain, rI, hz1, w1, w2, w3, w4, hw1, spanZ, -getElem?_pos] at ih' ⊢
    exact ih'
theorem s72 (n : Nat) (cs : List Chain) (v : List Int) (x : D) (hv : v.length = cs.length) (hl : cs.length ≤ 6) (hc : ∀ c ∈ cs, 1 ≤ c.lo ∧ c.lo ≤ c.hi ∧ c.hi ≤ 1000) (hw : okW v) :
    FN (n + 1) 72 [dChains cs, x, dI v] = some (0, [.d (il (spanV cs v).1), .d (il (spanV cs v).2)]) := by
  rw [F72]
  have e := l72 n cs v [] (il 0) (il 0) hv hl hc hw
  simp only [dChains] at e
  simp only [G72, dChains, r_lenD, List.length_map, r_loop, r_liti]
  rw [show (il 0) = il ((0 : Nat) : Int) from rfl] at e ⊢
  rw [e]
  simp
theorem l78 (n : Nat) (cs : List Chain) (v : List Int) (x u1 u2 : D) (hv : v.length = cs.length) (hl : cs.length ≤ 6) (hc : ∀ c ∈ cs, 1 ≤ c.lo ∧ c.lo ≤ c.hi ∧ c.hi ≤ 1000) (hw : okW v) :
    loopR [L78_0 (RP n)] M0 0 [.d (dI v), .d (il ((0 : Nat) : Int)), .d (il 0), .d (il 0), .d u1, .d u2, .d (dChains cs), .d x] = some (0, [.d (il (spanV cs v).1), .d (il (spanV cs v).2), .d u1, .d u2]) := by
  have hzl : (v.zip cs).length = cs.length := by simp [hv]
  refine range_loop (β := Int × Int) (v.zip cs) (by omega) (L78_0 (RP n)) (fun i p => [.d (dI v), .d (il (i : Int)), .d (il p.1), .d (il p.2), .d u1, .d u2, .d (dChains cs), .d x]) (fun i p => -24000000 * i ≤ p.1 ∧ p.1 ≤ 24000000 * i ∧ -24000000 * i ≤ p.2 ∧ p.2 ≤ 24000000 * i)
    (fun i r p => some (0, [.d (il (spanZ r p).1), .d (il (spanZ r p).2), .d u1, .d u2])) ?_ ?_ M0 (0, 0) (by simp) (M0_big (by omega))
  · intro p k hI
    simp [L78_0, spanZ, hzl, dI, rI, hv]
  · intro i zc r p k hz hd hi hw1 hI ih
    obtain ⟨z, c⟩ := zc
    obtain ⟨hz1, hc1⟩ := zip_at hz
    have hzb := hw z (List.mem_of_getElem? hz1)
    have hcb := hc c (List.mem_of_getElem? hc1)
    rw [hzl] at hi
    have b1 := mul_bnd (A := 24000) (B := 1000) hzb.1 hzb.2 (show 0 ≤ c.lo by omega) (by omega) (by omega)
    have b2 := mul_bnd (A := 24000) (B := 1000) hzb.1 hzb.2 (show 0 ≤ c.hi by omega) (by omega) (by omega)
    have w1 : IntKind.i64.wrap (z * c.lo) = z * c.lo := wrap_id (by omega) (by omega)
    have w2 : IntKind.i64.wrap (z * c.hi) = z * c.hi := wrap_id (by omega) (by omega)
    have w3 : IntKind.i64.wrap (p.1 + min (z * c.lo) (z * c.hi)) = p.1 + min (z * c.lo) (z * c.hi) := wrap_id (by omega) (by omega)
    have w4 : IntKind.i64.wrap (p.2 + max (z * c.lo) (z * c.hi)) = p.2 + max (z * c.lo) (z * c.hi) := wrap_id (by omega) (by omega)
    have ih' := ih (p.1 + min (z * c.lo) (z * c.hi), p.2 + max (z * c.lo) (z * c.hi)) (by simp only; omega)
    simp [L78_0, dI, dChains, hi, hv, hc1, rChain, rI, hz1, w1, w2, w3, w4, hw1, spanZ, -getElem?_pos] at ih' ⊢
    exact ih'
theorem s78 (n : Nat) (cs : List Chain) (v : List Int) (x : D) (hv : v.length = cs.length) (hl : cs.length ≤ 6) (hc : ∀ c ∈ cs, 1 ≤ c.lo ∧ c.lo ≤ c.hi ∧ c.hi ≤ 1000) (hw : okW v) :
    FN (n + 1) 78 [dChains cs, x, dI v] = some (0, [.d (il (spanV cs v).1), .d (il (spanV cs v).2)]) := by
  rw [F78]
  have e := l78 n cs v x (il 0) (il 0) hv hl hc hw
  simp only [G78, r_loop, r_liti]
  rw [show (il 0) = il ((0 : Nat) : Int) from rfl] at e ⊢
  rw [e]
  simp
end Go.VE
/- What drifts are worth. -/
namespace Go.VE
open Go.RowKit Go.Proofs
set_option maxRecDepth 100000

theorem s98 (n : Nat) (v : List Int) (hl : v.length ≤ 1000) (hv : ∀ z ∈ v, -1000000 ≤ z ∧ z ≤ 1000000) : FN (n + 1) 98 [dI v] = some (0, [.d (il v.sum)]) := by
  rw [F98]
  have e := range_loop (β := Int) v (by omega) (L98_0 (RP n)) (fun i p => [.d (il p), .d (dI v), .d (il v.length), .d (il (i : Int))]) (fun i p => -1000000 * i ≤ p ∧ p ≤ 1000000 * i)
    (fun i r p => some (0, [.d (il (p + r.sum))])) (by intro p k hI; simp [L98_0])
    (by
      intro i z r p k hz hd hi hw hI ih
      have hzb := hv z (List.mem_of_getElem? hz)
      have w1 : IntKind.i64.wrap (p + z) = p + z := wrap_id (by omega) (by omega)
      have ih' := ih (p + z) (by omega)
      simp [L98_0, dI, hi, rI, hz, w1, hw, -getElem?_pos] at ih' ⊢
      rw [ih']
      simp; omega)
    M0 0 (by simp) (M0_big (by omega))
  simp only [G98, dI, r_lenD, rI_len, r_loop, r_liti]
  simp only [dI] at e
  rw [show (il 0) = il ((0 : Nat) : Int) from rfl] at e ⊢
  rw [e]
  simp
theorem s98n (n : Nat) : FN (n + 1) 98 [.lit (.slice none 0 0)] = some (0, [.d (il 0)]) := by
  rw [F98]
  simp [G98]
  rw [show M0 = 18446744073709551615 + 1 from rfl, loopR1]
  simp [L98_0]

def worthV (cl : List Cell) (a b : Int) : Int := ((seg cl a b).map Cell.worth).sum
def okWorth (cl : List Cell) : Prop := cl.length ≤ 24 ∧ ∀ c ∈ cl, 0 ≤ c.worth ∧ c.worth ≤ 10000
theorem okG_worth {cs : List Chain} {cl : List Cell} (h : okGround cs cl = true) : okWorth cl := by
  refine ⟨(okG_len h).2.2.2, fun c hc => ?_⟩
  have := (okG_cells h c hc).1
  simp only [vCell, decide_eq_true_eq] at this
  omega
def res81 (v : List Int) : Out := match v with
  | [] => some (0, [])
  | z :: r => some (1, [.n (z :: r).length, .n (z :: r).length, .r (rI (z :: r))])

theorem l81 (n : Nat) (cl : List Cell) (b : Int) (u x : D) (hc : cl.length ≤ 24) (i0 : Nat) (hi0 : i0 ≤ 4611686018427387904) (hb : b ≤ 4611686018427387904) :
    loopR [L81_0 (RP n), L81_1 (RP n)] M0 0 [.d (il i0), .d u, .d (il b), .d x, .d (dCells cl)] = res81 (((cl.take (b + 1).toNat).drop i0).map Cell.worth) := by
  have := loop_ms (σ := Nat × List Int) [L81_0 (RP n), L81_1 (RP n)]
    (fun s => match s.2 with
      | [] => (0, [.d (il s.1), .d u, .d (il b), .d x, .d (dCells cl)])
      | z :: r => (1, [.n (z :: r).length, .n (z :: r).length, .d (il s.1), .r (rI (z :: r)), .d u, .d (il b), .d x, .d (dCells cl)]))
    (fun s => cl.length - s.1) (fun s => s.1 ≤ 4611686018427387904 ∧ (s.2 ≠ [] → s.2.length ≤ s.1 ∧ s.1 ≤ cl.length))
    (fun s => res81 (s.2 ++ ((cl.take (b + 1).toNat).drop s.1).map Cell.worth)) ?_ M0 (i0, []) ⟨by simp only; omega, fun h => absurd rfl h⟩ (M0_big (by simp only; omega))
  · simpa using this
  · rintro ⟨i, acc⟩ k ⟨hi, hacc⟩ ih
    simp only at hi hacc
    by_cases h1 : (i : Int) ≤ b ∧ i < cl.length
    · have hlt : i < (cl.take (b + 1).toNat).length := by simp; omega
      have hd := List.drop_eq_getElem_cons hlt
      have hci : cl[i]? = some cl[i] := by simp [h1.2]
      have hw := wrap_succ (i := i) (n := cl.length) h1.2 (by omega)
      have ih' := ih (i + 1, acc ++ [cl[i].worth]) ⟨by simp only; omega, fun _ => by
        simp only [List.length_append, List.length_singleton]
        by_cases ha : acc = []
        · subst ha; simp; omega
        · have := hacc ha; omega⟩ (by simp only; omega)
      simp only [List.getElem_take] at hd
      cases acc with
      | nil =>
        refine ⟨_, rfl, ?_⟩
        simp [hd] at ih' ⊢
        simp [L81_0, h1, dCells, hci, rCell, hw, rI, -getElem?_pos] at ih' ⊢
        simpa using ih'
      | cons z r =>
        refine ⟨_, rfl, ?_⟩
        have hz := hacc (by simp)
        simp only [List.length_cons] at hz
        simp [hd] at ih' ⊢
        have hf : (r.length + 1 + 1) * 8 ≤ 140737488355328 ∧ r.length + 1 + 1 ≤ 9223372036854775807 := by omega
        simp [L81_1, h1, dCells, hci, rCell, hw, rI, hf, -getElem?_pos] at ih' ⊢
        exact ih'
    · have hdr : (cl.take (b + 1).toNat).drop i = [] := by simp; omega
      cases acc with
      | nil =>
        refine ⟨_, rfl, ?_⟩
        simp [L81_0, dCells, hdr, res81]
        by_cases h2 : (i : Int) ≤ b
        · have : ¬ i < cl.length := fun h => h1 ⟨h2, h⟩
          simp [h2, this]
        · simp [h2]
      | cons z r =>
        refine ⟨_, rfl, ?_⟩
        simp [L81_1, dCells, hdr, res81]
        by_cases h2 : (i : Int) ≤ b
        · have : ¬ i < cl.length := fun h => h1 ⟨h2, h⟩
          simp [h2, this]
        · simp [h2]
theorem s81 (n : Nat) (cl : List Cell) (a b : Int) (x : D) (hc : okWorth cl) (ha : a ≤ 4611686018427387904) (hb : b ≤ 4611686018427387904) :
    FN (n + 2) 81 [x, dCells cl, il a, il b] = some (0, [.d (il (worthV cl a b))]) := by
  rw [F81]
  have e := l81 (n + 1) cl b (il a) x hc.1 a.toNat (by omega) hb
  rw [show ((a.toNat : Nat) : Int) = max a 0 by omega] at e
  simp only [G81, r_mm, if_true, r_loop, r_liti, e, worthV, seg]
  have hlen : (((cl.take (b + 1).toNat).drop a.toNat).map Cell.worth).length ≤ 24 := by
    have := hc.1
    simp; omega
  have hv : ∀ z ∈ ((cl.take (b + 1).toNat).drop a.toNat).map Cell.worth, -1000000 ≤ z ∧ z ≤ 1000000 := by
    intro z hz
    obtain ⟨c, hc1, rfl⟩ := List.mem_map.1 hz
    have := hc.2 c (List.mem_of_mem_take (List.mem_of_mem_drop hc1))
    omega
  generalize ((cl.take (b + 1).toNat).drop a.toNat).map Cell.worth = v at hlen hv
  cases v with
  | nil => simp [res81, s98n]
  | cons z r =>
    have := s98 n (z :: r) (by omega) hv
    simp only [dI] at this
    simp [res81, rI_len]
    rw [List.take_of_length_le (by simp [rI_len]), this]
    simp
theorem s82 (n : Nat) (cl : List Cell) (a b : Int) (x : D) (hc : okWorth cl) (ha0 : 0 ≤ a) (ha : a ≤ 4611686018427387904) (hb : b ≤ 4611686018427387904) :
    FN (n + 1) 82 [x, dCells cl, il a, il b] = some (0, [.d (il (worthV cl a b))]) := by
  rw [F82]
  have := loop_ms (σ := Nat × Int) [L82_0 (RP n)] (fun s => (0, [.d (il b), .d (il s.2), .d (il s.1), .d x, .d (dCells cl)]))
    (fun s => cl.length - s.1) (fun s => s.1 ≤ 4611686018427387904 ∧ 0 ≤ s.2 ∧ s.2 + 10000 * (cl.length - s.1 : Nat) ≤ 240000)
    (fun s => some (0, [.d (il (s.2 + (((cl.take (b + 1).toNat).drop s.1).map Cell.worth).sum))])) ?_ M0 (a.toNat, 0) ⟨by simp only; omega, by simp only; omega, by have := hc.1; simp only; omega⟩ (M0_big (by have := hc.1; simp only; omega))
  · simp only [G82, r_loop, r_liti, worthV, seg]
    rw [show ((a.toNat : Nat) : Int) = a by omega] at this
    rw [this]; simp
  · rintro ⟨i, p⟩ k ⟨hi, hp0, hp⟩ ih
    simp only at hi hp hp0
    have hcl := hc.1
    refine ⟨_, rfl, ?_⟩
    by_cases h1 : (i : Int) ≤ b ∧ i < cl.length
    · have hlt : i < (cl.take (b + 1).toNat).length := by simp; omega
      have hd := List.drop_eq_getElem_cons hlt
      simp only [List.getElem_take] at hd
      have hci : cl[i]? = some cl[i] := by simp [h1.2]
      have hw := wrap_succ (i := i) (n := cl.length) h1.2 (by have := hc.1; omega)
      have hcw := hc.2 _ (List.mem_of_getElem? hci)
      have w1 : IntKind.i64.wrap (p + cl[i].worth) = p + cl[i].worth := wrap_id (by omega) (by omega)
      have ih' := ih (i + 1, p + cl[i].worth) ⟨by simp only; omega, by simp only; omega, by simp only; omega⟩ (by simp only; omega)
      simp [L82_0, h1, dCells, hci, rCell, hw, w1, hd, -getElem?_pos] at ih' ⊢
      simpa [Int.add_assoc] using ih'
    · have hdr : (cl.take (b + 1).toNat).drop i = [] := by simp; omega
      simp [L82_0, dCells, hdr]
      by_cases h2 : (i : Int) ≤ b
      · have : ¬ i < cl.length := fun h => h1 ⟨h2, h⟩
        simp [h2, this]
      · simp [h2]
end Go.VE
/- How long drifts are, which one is longer, what they are worth, which gain is greater: both programs. -/
namespace Go.VE
open Go.RowKit Go.Proofs
set_option maxRecDepth 100000

theorem dI_nil : dI [] = .sl 1 [] := rfl
theorem rI_take (v : List Int) (n : Nat) (h : v.length ≤ n) : (rI v).take n = rI v := List.take_of_length_le (by rw [rI_len]; exact h)
theorem rI_take' (v : List Int) : (rI v).take v.length = rI v := rI_take v _ (by omega)
theorem linkV_okW {cs : List Chain} {cl : List Cell} (h : okGround cs cl = true) (a b : Int) : okW (linkV cs cl a b) := fun z hz => by
  have := linkV_ok h a b z hz; omega

def lenErr (cs : List Chain) (cl : List Cell) (a b : Int) : Int := if okGround cs cl then (if isD cl a b then 0 else 45) else 42
def lenRes (cs : List Chain) (cl : List Cell) (a b : Int) : Int × Int := if lenErr cs cl a b = 0 then spanV cs (linkV cs cl a b) else (0, 0)
theorem s30 (n : Nat) (cs : List Chain) (cl : List Cell) (a b : Int) : FN (n + 5) 30 [dChains cs, dCells cl, il a, il b] = some (0, [.d (il (lenRes cs cl a b).1), .d (il (lenRes cs cl a b).2), .d (il (lenErr cs cl a b))]) := by
  rw [F30]
  by_cases hg : okGround cs cl = true
  · by_cases hd : isD cl a b = true
    · have hl := okG_len hg
      have e := s72 (n + 3) cs (linkV cs cl a b) (dCells cl) (linkV_len ..) hl.2.1 (okG_chains hg) (linkV_okW hg a b)
      simp only [dI] at e
      simp [G30, s15, hg, hd, s71one, s73, lenErr, lenRes, rI_take, linkV_len, rI_len, e]
    · simp [G30, s15, hg, hd, s71one, lenErr, lenRes]
  · simp [G30, s15, hg, lenErr, lenRes]
theorem s37 (n : Nat) (cs : List Chain) (cl : List Cell) (a b : Int) : FN (n + 5) 37 [dChains cs, dCells cl, il a, il b] = some (0, [.d (il (lenRes cs cl a b).1), .d (il (lenRes cs cl a b).2), .d (il (lenErr cs cl a b))]) := by
  rw [F37]
  by_cases hg : okGround cs cl = true
  · by_cases hd : isD cl a b = true
    · have hl := okG_len hg
      have e := s78 (n + 3) cs (linkV cs cl a b) (dCells cl) (linkV_len ..) hl.2.1 (okG_chains hg) (linkV_okW hg a b)
      simp only [dI] at e
      simp [G37, s16, hg, hd, s77, s79, lenErr, lenRes, rI_take, linkV_len, rI_len, e]
    · simp [G37, s16, hg, hd, s77, lenErr, lenRes]
  · simp [G37, s16, hg, lenErr, lenRes]

/-! ### longer -/
def mixV (i : Nat) (v w : List Int) : List Int := (List.range v.length).map fun j => if j < i then v.getD j 0 - w.getD j 0 else v.getD j 0
def subV (v w : List Int) : List Int := mixV v.length v w
theorem mixV_len (i : Nat) (v w : List Int) : (mixV i v w).length = v.length := by simp [mixV]
theorem mixV_at {i j : Nat} {v w : List Int} (h : j < v.length) : (mixV i v w)[j]? = some (if j < i then v.getD j 0 - w.getD j 0 else v.getD j 0) := by simp [mixV, h]
theorem mixV_0 (v w : List Int) : mixV 0 v w = v := by
  apply List.ext_getElem?
  intro j
  by_cases h : j < v.length
  · rw [mixV_at h]; simp [h]
  · rw [List.getElem?_eq_none (by rw [mixV_len]; omega), List.getElem?_eq_none (by omega)]
theorem mixV_set {i : Nat} {v w : List Int} (h : i < v.length) : (mixV i v w).set i (v.getD i 0 - w.getD i 0) = mixV (i + 1) v w := by
  apply List.ext_getElem?
  intro j
  by_cases hj : j < v.length
  · rw [List.getElem?_set, mixV_at hj, mixV_len]
    by_cases hij : i = j
    · subst hij; rw [if_pos rfl, if_pos hj, mixV_at hj, if_pos (by omega)]
    · rw [if_neg hij, mixV_at hj]
      by_cases h1 : j < i
      · rw [if_pos h1, if_pos (by omega)]
      · rw [if_neg h1, if_neg (by omega)]
  · rw [List.getElem?_eq_none (by simp [mixV_len]; omega), List.getElem?_eq_none (by rw [mixV_len]; omega)]
theorem subV_len (v w : List Int) : (subV v w).length = v.length := mixV_len ..
theorem subV_okW {v w : List Int} (hv : okV 24000 v) (hw : okV 24000 w) (hl : v.length = w.length) : okW (subV v w) := by
  intro z hz
  obtain ⟨j, hj⟩ := List.getElem?_of_mem hz
  have hlt : j < v.length := by
    have := (List.getElem?_eq_some_iff.1 hj).1; rw [subV_len] at this; exact this
  rw [subV, mixV_at hlt, if_pos hlt] at hj
  have h1 := okV_at hv hlt
  have h2 := okV_at hw (show j < w.length by omega)
  rw [← Option.some.inj hj, List.getD_eq_getElem?_getD, List.getD_eq_getElem?_getD]
  simp [hlt, show j < w.length by omega]
  omega
theorem l31 (n : Nat) (v w : List Int) (u1 u2 : D) (hl : v.length = w.length) (hl6 : v.length ≤ 6) (hv : okV 24000 v) (hw : okV 24000 w) :
    loopR [L31_0 (RP n)] M0 0 [.n v.length, .n v.length, .n w.length, .n w.length, .d (il v.length), .d (il ((0 : Nat) : Int)), .r (rI w), .r (rI v), .d u1, .d u2] = some (0, [.n v.length, .n v.length, .r (rI (subV v w)), .d u1, .d u2]) := by
  have := range_loop (β := Unit) v (by omega) (L31_0 (RP n)) (fun i _ => [.n v.length, .n v.length, .n w.length, .n w.length, .d (il v.length), .d (il (i : Int)), .r (rI w), .r (rI (mixV i v w)), .d u1, .d u2]) (fun _ _ => True)
    (fun i r _ => some (0, [.n v.length, .n v.length, .r (rI (subV v w)), .d u1, .d u2])) ?_ ?_ M0 () trivial (M0_big (by omega))
  · simp only [mixV_0] at this; exact this
  · intro _ k _; simp [L31_0, subV]
  · intro i z r _ k hz hd hi hw1 _ ih
    have ih' := ih () trivial
    have hzi : v.getD i 0 = z := by rw [List.getD_eq_getElem?_getD, hz]; rfl
    have hwi := getD_some (l := w) 0 (show i < w.length by omega)
    have b1 := hv z (List.mem_of_getElem? hz)
    have b2 := hw _ (List.mem_of_getElem? hwi)
    have w1 : IntKind.i64.wrap (v.getD i 0 - w.getD i 0) = v.getD i 0 - w.getD i 0 := wrap_id (by omega) (by omega)
    have hm := rI_at (mixV_at (i := i) (w := w) hi)
    rw [if_neg (by omega)] at hm
    have hwr := rI_at hwi
    have hw2 : (i : Int) < (w.length : Int) := by omega
    rw [← mixV_set hi, rI_set] at ih'
    simp only [L31_0, r_ld0, r_lds, r_ln0, r_lns, r_lr0, r_lrs, r_lss, r_cond, hi, hw2, r_eqN, r_len, rI_len, mixV_len, r_inxg, Int.toNat_natCast, r_rowAtg, hm, hwr, r_cell0, r_sub, w1, r_setR, r_add, hw1, r_liti]
    simp only [Int.natCast_add, Int.cast_ofNat_Int] at ih'
    simp only [List.getElem?_eq_getElem hi, Int.natCast_nonneg, Int.ofNat_lt, hi, hw2, true_and, if_true, decide_true, List.length_singleton, show i < w.length by omega] at ih' ⊢
    exact ih'
theorem l38 (n : Nat) (v w : List Int) (u1 u2 : D) (hl : v.length = w.length) (hl6 : v.length ≤ 6) (hv : okV 24000 v) (hw : okV 24000 w) :
    loopR [L38_0 (RP n)] M0 0 [.n v.length, .n v.length, .n w.length, .n w.length, .d (il ((0 : Nat) : Int)), .r (rI w), .r (rI v), .d u1, .d u2] = some (0, [.n v.length, .n v.length, .r (rI (subV v w)), .d u1, .d u2]) := by
  have := range_loop (β := Unit) v (by omega) (L38_0 (RP n)) (fun i _ => [.n v.length, .n v.length, .n w.length, .n w.length, .d (il (i : Int)), .r (rI w), .r (rI (mixV i v w)), .d u1, .d u2]) (fun _ _ => True)
    (fun i r _ => some (0, [.n v.length, .n v.length, .r (rI (subV v w)), .d u1, .d u2])) ?_ ?_ M0 () trivial (M0_big (by omega))
  · simp only [mixV_0] at this; exact this
  · intro _ k _; simp [L38_0, subV]
  · intro i z r _ k hz hd hi hw1 _ ih
    have ih' := ih () trivial
    have hzi : v.getD i 0 = z := by rw [List.getD_eq_getElem?_getD, hz]; rfl
    have hwi := getD_some (l := w) 0 (show i < w.length by omega)
    have b1 := hv z (List.mem_of_getElem? hz)
    have b2 := hw _ (List.mem_of_getElem? hwi)
    have w1 : IntKind.i64.wrap (v.getD i 0 - w.getD i 0) = v.getD i 0 - w.getD i 0 := wrap_id (by omega) (by omega)
    have hm := rI_at (mixV_at (i := i) (w := w) hi)
    rw [if_neg (by omega)] at hm
    have hwr := rI_at hwi
    have hw2 : (i : Int) < (w.length : Int) := by omega
    rw [← mixV_set hi, rI_set] at ih'
    simp only [L38_0, r_ld0, r_lds, r_ln0, r_lns, r_lr0, r_lrs, r_natD, r_lss, r_cond, hi, hw2, r_eqN, r_len, rI_len, mixV_len, r_inxg, Int.toNat_natCast, r_rowAtg, hm, hwr, r_cell0, r_sub, w1, r_setR, r_add, hw1, r_liti]
    simp only [Int.natCast_add, Int.cast_ofNat_Int] at ih'
    simp only [List.getElem?_eq_getElem hi, Int.natCast_nonneg, Int.ofNat_lt, hi, hw2, true_and, if_true, decide_true, List.length_singleton, show i < w.length by omega] at ih' ⊢
    exact ih'

def lgErr (cs : List Chain) (cl : List Cell) (a b c d : Int) : Int := if okGround cs cl then (if isD cl a b && isD cl c d then 0 else 45) else 42
abbrev lgSpan (cs : List Chain) (cl : List Cell) (a b c d : Int) : Int × Int := spanV cs (subV (linkV cs cl a b) (linkV cs cl c d))
def lgRes (cs : List Chain) (cl : List Cell) (a b c d : Int) : Int := if lgErr cs cl a b c d = 0 then (if 0 < (lgSpan cs cl a b c d).1 then 1 else if (lgSpan cs cl a b c d).2 ≤ 0 then 0 else 2) else 0
theorem s31 (n : Nat) (cs : List Chain) (cl : List Cell) (a b c d : Int) : FN (n + 5) 31 [dChains cs, dCells cl, il a, il b, il c, il d] = some (0, [.d (il (lgRes cs cl a b c d)), .d (il (lgErr cs cl a b c d))]) := by
  rw [F31]
  by_cases hg : okGround cs cl = true
  · by_cases hd : (isD cl a b && isD cl c d) = true
    · have hl := okG_len hg
      have hd2 := hd
      rw [Bool.and_eq_true] at hd2
      have e1 := l31 (n + 4) (linkV cs cl a b) (linkV cs cl c d) (dChains cs) (dCells cl) (by simp [linkV_len]) (by rw [linkV_len]; omega) (linkV_ok hg a b) (linkV_ok hg c d)
      have e := s72 (n + 3) cs (subV (linkV cs cl a b) (linkV cs cl c d)) (dCells cl) (by simp [subV_len, linkV_len]) hl.2.1 (okG_chains hg) (subV_okW (linkV_ok hg a b) (linkV_ok hg c d) (by simp [linkV_len]))
      simp only [linkV_len, dI, Int.cast_ofNat_Int] at e1 e
      simp [G31, s15, hg, hd, s71two, s73 _ _ _ _ _ hg hd2.1, s73 _ _ _ _ _ hg hd2.2, lgErr, lgRes, lgSpan, rI_take, linkV_len, subV_len, rI_len, e1, e]
      by_cases h1 : 0 < (spanV cs (subV (linkV cs cl a b) (linkV cs cl c d))).1
      · simp [h1]
      · simp [h1]
        by_cases h2 : (spanV cs (subV (linkV cs cl a b) (linkV cs cl c d))).2 ≤ 0 <;> simp [h2]
    · simp [G31, s15, hg, hd, s71two, lgErr, lgRes]
  · simp [G31, s15, hg, lgErr, lgRes]
theorem s38 (n : Nat) (cs : List Chain) (cl : List Cell) (a b c d : Int) : FN (n + 5) 38 [dChains cs, dCells cl, il a, il b, il c, il d] = some (0, [.d (il (lgRes cs cl a b c d)), .d (il (lgErr cs cl a b c d))]) := by
  rw [F38]
  by_cases hg : okGround cs cl = true
  · by_cases hd1 : isD cl a b = true
    · by_cases hd2 : isD cl c d = true
      · have hl := okG_len hg
        have e1 := l38 (n + 4) (linkV cs cl a b) (linkV cs cl c d) (dChains cs) (dCells cl) (by simp [linkV_len]) (by rw [linkV_len]; omega) (linkV_ok hg a b) (linkV_ok hg c d)
        have e := s78 (n + 3) cs (subV (linkV cs cl a b) (linkV cs cl c d)) (dCells cl) (by simp [subV_len, linkV_len]) hl.2.1 (okG_chains hg) (subV_okW (linkV_ok hg a b) (linkV_ok hg c d) (by simp [linkV_len]))
        simp only [linkV_len, dI, Int.cast_ofNat_Int] at e1 e
        simp [G38, s16, hg, hd1, hd2, s77, s79 _ _ _ _ _ hg hd1, s79 _ _ _ _ _ hg hd2, lgErr, lgRes, lgSpan, rI_take, linkV_len, subV_len, rI_len, e1, e]
        by_cases h1 : 0 < (spanV cs (subV (linkV cs cl a b) (linkV cs cl c d))).1
        · simp [h1]
        · simp [h1]
          by_cases h2 : (spanV cs (subV (linkV cs cl a b) (linkV cs cl c d))).2 ≤ 0 <;> simp [h2]
      · simp [G38, s16, hg, hd1, hd2, s77, lgErr, lgRes]
    · simp [G38, s16, hg, hd1, s77, lgErr, lgRes]
  · simp [G38, s16, hg, lgErr, lgRes]
end Go.VE
/- What is truly so long, what it is worth, which gain is greater; the law DriftLengths. -/
namespace Go.VE
open Go.RowKit Go.Proofs
set_option maxRecDepth 100000

def lkOK (e : List Int) (cs : List Chain) : Bool := (e.zip cs).all fun p => decide (p.2.lo ≤ p.1 ∧ p.1 ≤ p.2.hi)
theorem l32 (n : Nat) (e : List Int) (cs : List Chain) (u1 u2 u3 u4 : D) (he : e.length = cs.length) (hl : cs.length ≤ 6) :
    loopR [L32_0 (RP (n + 1))] M0 0 [.d (dI e), .d (dChains cs), .d (il cs.length), .d (il ((0 : Nat) : Int)), .d u1, .d u2, .d u3, .d u4] = match lkOK e cs with | true => some (1, [.d (dI e), .d u1, .d u2, .d u3, .d u4]) | false => some (0, [.d (il 0), .d (il 1)]) := by
  have hzl : (e.zip cs).length = cs.length := by simp [he]
  refine range_loop (β := Unit) (e.zip cs) (by omega) (L32_0 (RP (n + 1))) (fun i _ => [.d (dI e), .d (dChains cs), .d (il cs.length), .d (il (i : Int)), .d u1, .d u2, .d u3, .d u4]) (fun _ _ => True)
    (fun i r _ => match (r.all fun p => decide (p.2.lo ≤ p.1 ∧ p.1 ≤ p.2.hi)) with | true => some (1, [.d (dI e), .d u1, .d u2, .d u3, .d u4]) | false => some (0, [.d (il 0), .d (il 1)])) ?_ ?_ M0 () trivial (M0_big (by omega))
  · intro _ k _; simp [L32_0, hzl]
  · intro i zc r _ k hz hd hi hw1 _ ih
    obtain ⟨z, c⟩ := zc
    obtain ⟨hz1, hc1⟩ := zip_at hz
    rw [hzl] at hi
    have ih' := ih () trivial
    simp only [L32_0, r_ld0, r_lds, r_lss, r_cond, dI, dChains, hi, Int.ofNat_lt, decide_true, if_true, r_rowDg, Int.toNat_natCast, List.getElem?_map, hc1, rI_at hz1, Option.map_some, rChain, r_cell0, r_cells, r_call, s59, r_bnd0, r_not, r_liti, r_add, hw1, r_out]
    simp only [dI, dChains, Int.natCast_add, Int.cast_ofNat_Int, rChain] at ih'
    by_cases h : c.lo ≤ z ∧ z ≤ c.hi
    · have h' : decide (c.lo ≤ z ∧ z ≤ c.hi) = true := by simpa using h
      simp only [h', List.all_cons, Bool.true_and, Bool.not_true, Bool.false_eq_true, if_false]; exact ih'
    · have h' : decide (c.lo ≤ z ∧ z ≤ c.hi) = false := by simpa using h
      simp only [h', List.all_cons, Bool.false_and, Bool.not_false, if_true]; simp
theorem l80 (n : Nat) (e : List Int) (cs : List Chain) (x : D) (he : e.length = cs.length) (hl : cs.length ≤ 6) :
    loopR [L80_0 (RP (n + 1))] M0 0 [.d (dI e), .d (il ((0 : Nat) : Int)), .d (dChains cs), .d x] = match lkOK e cs with | true => some (1, []) | false => some (0, [.d (bl false)]) := by
  have hzl : (e.zip cs).length = cs.length := by simp [he]
  refine range_loop (β := Unit) (e.zip cs) (by omega) (L80_0 (RP (n + 1))) (fun i _ => [.d (dI e), .d (il (i : Int)), .d (dChains cs), .d x]) (fun _ _ => True)
    (fun i r _ => match (r.all fun p => decide (p.2.lo ≤ p.1 ∧ p.1 ≤ p.2.hi)) with | true => some (1, []) | false => some (0, [.d (bl false)])) ?_ ?_ M0 () trivial (M0_big (by omega))
  · intro _ k _; simp [L80_0, hzl, dI, rI, he]
  · intro i zc r _ k hz hd hi hw1 _ ih
    obtain ⟨z, c⟩ := zc
    obtain ⟨hz1, hc1⟩ := zip_at hz
    rw [hzl] at hi
    have ih' := ih () trivial
    simp only [L80_0, r_ld0, r_lds, r_lss, r_cond, dI, dChains, r_lenD, rI_len, he, hi, Int.ofNat_lt, decide_true, if_true, r_rowDg, Int.toNat_natCast, List.getElem?_map, hc1, rI_at hz1, Option.map_some, rChain, r_cell0, r_cells, r_call, s61, r_bnd0, r_not, r_liti, r_add, hw1, r_out]
    simp only [dI, dChains, Int.natCast_add, Int.cast_ofNat_Int, rChain] at ih'
    by_cases h : c.lo ≤ z ∧ z ≤ c.hi
    · have h' : decide (c.lo ≤ z ∧ z ≤ c.hi) = true := by simpa using h
      simp only [h', List.all_cons, Bool.true_and, Bool.not_true, Bool.false_eq_true, if_false]; exact ih'
    · have h' : decide (c.lo ≤ z ∧ z ≤ c.hi) = false := by simpa using h
      simp only [h', List.all_cons, Bool.false_and, Bool.not_false, if_true]; simp
theorem s80 (n : Nat) (e : List Int) (cs : List Chain) (x : D) (hl : cs.length ≤ 6) : FN (n + 2) 80 [dChains cs, x, dI e] = some (0, [.d (bl (decide (e.length = cs.length) && lkOK e cs))]) := by
  rw [F80]
  simp only [G80, dI, dChains, r_lenD, rI_len, List.length_map, r_neq, r_cond]
  by_cases h : e.length = cs.length
  · have hz := l80 n e cs x h hl
    simp only [dI, dChains] at hz
    simp only [h, ne_eq, not_true, decide_false, Bool.false_eq_true, if_false, r_loop, r_liti]
    rw [show (il 0) = il ((0 : Nat) : Int) from rfl, hz]
    by_cases h2 : lkOK e cs = true <;> simp [h2]
  · have : (e.length : Int) ≠ (cs.length : Int) := by omega
    simp [h, this]
def trZ : List (Int × Int) → Int → Int
  | [], p => p
  | (z, e) :: r, p => trZ r (p + z * e)
def trV (v e : List Int) : Int := trZ (v.zip e) 0
theorem lkOK_mem {e : List Int} {cs : List Chain} (he : e.length = cs.length) (hc : ∀ c ∈ cs, 1 ≤ c.lo ∧ c.lo ≤ c.hi ∧ c.hi ≤ 1000) (h : lkOK e cs = true) : ∀ z ∈ e, 0 ≤ z ∧ z ≤ 1000 := by
  intro z hz
  obtain ⟨j, hj⟩ := List.getElem?_of_mem hz
  have hlt : j < e.length := (List.getElem?_eq_some_iff.1 hj).1
  have hcj : cs[j]? = some cs[j] := by simp [show j < cs.length by omega]
  have hm : (z, cs[j]) ∈ e.zip cs := List.mem_of_getElem? (List.getElem?_zip_eq_some.2 ⟨hj, hcj⟩)
  have := List.all_eq_true.1 h _ hm
  simp only [decide_eq_true_eq] at this
  have := hc _ (List.mem_of_getElem? hcj)
  omega
theorem l32b (n : Nat) (v e : List Int) (hl : v.length = e.length) (hl6 : v.length ≤ 6) (hv : okV 24000 v) (he : ∀ z ∈ e, 0 ≤ z ∧ z ≤ 1000) :
    loopR [L32_1 (RP n)] M0 0 [.d (dI e), .d (il 0), .n v.length, .n v.length, .d (il v.length), .d (il ((0 : Nat) : Int)), .r (rI v)] = some (0, [.d (il (trV v e))]) := by
  have hzl : (v.zip e).length = v.length := by simp [hl]
  refine range_loop (β := Int) (v.zip e) (by omega) (L32_1 (RP n)) (fun i p => [.d (dI e), .d (il p), .n v.length, .n v.length, .d (il v.length), .d (il (i : Int)), .r (rI v)]) (fun i p => 0 ≤ p ∧ p ≤ 24000000 * i)
    (fun i r p => some (0, [.d (il (trZ r p))])) ?_ ?_ M0 0 (by simp) (M0_big (by omega))
  · intro p k _; simp [L32_1, hzl, trZ]
  · intro i zc r p k hz hd hi hw1 hI ih
    obtain ⟨z, c⟩ := zc
    obtain ⟨hz1, hc1⟩ := List.getElem?_zip_eq_some.1 hz
    rw [hzl] at hi
    have b1 := hv z (List.mem_of_getElem? hz1)
    have b2 := he c (List.mem_of_getElem? hc1)
    have b3 := mul_bnd (z := z) (c := c) (A := 24000) (B := 1000) (by omega) (by omega) b2.1 b2.2 (by omega)
    have b4 : 0 ≤ z * c := Int.mul_nonneg b1.1 b2.1
    have w1 : IntKind.i64.wrap (z * c) = z * c := wrap_id (by omega) (by omega)
    have w2 : IntKind.i64.wrap (p + z * c) = p + z * c := wrap_id (by omega) (by omega)
    have ih' := ih (p + z * c) (by omega)
    have hv' := rI_at hz1
    have hc' := rI_at hc1
    simp [L32_1, dI, hi, rI_len, hv', hc', w1, w2, hw1, trZ, -getElem?_pos] at ih' ⊢
    exact ih'
theorem l39 (n : Nat) (v e : List Int) (hl : v.length = e.length) (hl6 : v.length ≤ 6) (hv : okV 24000 v) (he : ∀ z ∈ e, 0 ≤ z ∧ z ≤ 1000) :
    loopR [L39_0 (RP n)] M0 0 [.d (dI e), .n v.length, .n v.length, .d (il 0), .d (il ((0 : Nat) : Int)), .r (rI v)] = some (0, [.d (il (trV v e))]) := by
  have hzl : (v.zip e).length = v.length := by simp [hl]
  refine range_loop (β := Int) (v.zip e) (by omega) (L39_0 (RP n)) (fun i p => [.d (dI e), .n v.length, .n v.length, .d (il p), .d (il (i : Int)), .r (rI v)]) (fun i p => 0 ≤ p ∧ p ≤ 24000000 * i)
    (fun i r p => some (0, [.d (il (trZ r p))])) ?_ ?_ M0 0 (by simp) (M0_big (by omega))
  · intro p k _; simp [L39_0, hzl, trZ]
  · intro i zc r p k hz hd hi hw1 hI ih
    obtain ⟨z, c⟩ := zc
    obtain ⟨hz1, hc1⟩ := List.getElem?_zip_eq_some.1 hz
    rw [hzl] at hi
    have b1 := hv z (List.mem_of_getElem? hz1)
    have b2 := he c (List.mem_of_getElem? hc1)
    have b3 := mul_bnd (z := z) (c := c) (A := 24000) (B := 1000) (by omega) (by omega) b2.1 b2.2 (by omega)
    have b4 : 0 ≤ z * c := Int.mul_nonneg b1.1 b2.1
    have w1 : IntKind.i64.wrap (z * c) = z * c := wrap_id (by omega) (by omega)
    have w2 : IntKind.i64.wrap (p + z * c) = p + z * c := wrap_id (by omega) (by omega)
    have ih' := ih (p + z * c) (by omega)
    have hv' := rI_at hz1
    have hc' := rI_at hc1
    simp [L39_0, dI, hi, rI_len, hv', hc', w1, w2, hw1, trZ, -getElem?_pos] at ih' ⊢
    exact ih'
def trErr (cs : List Chain) (cl : List Cell) (e : List Int) (a b : Int) : Int := if okGround cs cl then (if decide (e.length = cs.length) && lkOK e cs then (if isD cl a b then 0 else 45) else 1) else 42
def trRes (cs : List Chain) (cl : List Cell) (e : List Int) (a b : Int) : Int := if trErr cs cl e a b = 0 then trV (linkV cs cl a b) e else 0
theorem s32 (n : Nat) (cs : List Chain) (cl : List Cell) (e : List Int) (a b : Int) : FN (n + 5) 32 [dChains cs, dCells cl, dI e, il a, il b] = some (0, [.d (il (trRes cs cl e a b)), .d (il (trErr cs cl e a b))]) := by
  rw [F32]
  by_cases hg : okGround cs cl = true
  · have hl := okG_len hg
    by_cases h1 : e.length = cs.length
    · have e1 := l32 (n + 3) e cs (il a) (il b) (dChains cs) (dCells cl) h1 hl.2.1
      simp only [dI, dChains, Int.cast_ofNat_Int] at e1
      by_cases h2 : lkOK e cs = true
      · by_cases hd : isD cl a b = true
        · have e2 := l32b (n + 4) (linkV cs cl a b) e (by rw [linkV_len]; omega) (by rw [linkV_len]; omega) (linkV_ok hg a b) (lkOK_mem h1 (okG_chains hg) h2)
          have e3 := s71one n (dChains cs) cl a b
          have e4 := s73 (n + 2) cs cl a b hg hd
          have e0 := s15 (n + 1) cs cl
          simp only [dI, dChains, linkV_len, Int.cast_ofNat_Int] at e0 e2 e3 e4
          simp [G32, e0, hg, h1, dI, dChains, rI_len, e1, h2, e3, hd, e4, linkV_len, e2, trRes, trErr]
        · have e3 := s71one n (dChains cs) cl a b
          have e0 := s15 (n + 1) cs cl
          simp only [dChains] at e0 e3
          simp [G32, e0, hg, h1, dI, dChains, rI_len, e1, h2, e3, hd, trRes, trErr]
      · have e0 := s15 (n + 1) cs cl
        simp only [dChains] at e0
        simp [G32, e0, hg, h1, dI, dChains, rI_len, e1, h2, trRes, trErr]
    · have h1' : (e.length : Int) ≠ (cs.length : Int) := by omega
      have e0 := s15 (n + 1) cs cl
      simp only [dChains] at e0
      simp [G32, e0, hg, h1, h1', dI, dChains, rI_len, trRes, trErr]
  · simp [G32, s15, hg, trErr, trRes]
theorem s39 (n : Nat) (cs : List Chain) (cl : List Cell) (e : List Int) (a b : Int) : FN (n + 5) 39 [dChains cs, dCells cl, dI e, il a, il b] = some (0, [.d (il (trRes cs cl e a b)), .d (il (trErr cs cl e a b))]) := by
  rw [F39]
  by_cases hg : okGround cs cl = true
  · have hl := okG_len hg
    have e1 := s80 (n + 2) e cs (dCells cl) hl.2.1
    by_cases h1 : (decide (e.length = cs.length) && lkOK e cs) = true
    · have h1' := h1
      rw [Bool.and_eq_true, decide_eq_true_eq] at h1'
      by_cases hd : isD cl a b = true
      · have e2 := l39 (n + 4) (linkV cs cl a b) e (by rw [linkV_len]; omega) (by rw [linkV_len]; omega) (linkV_ok hg a b) (lkOK_mem h1'.1 (okG_chains hg) h1'.2)
        simp only [linkV_len, Int.cast_ofNat_Int] at e2
        simp [G39, s16, hg, e1, h1'.1, h1'.2, s77, hd, s79 _ _ _ _ _ hg hd, rI_len, linkV_len, e2, trRes, trErr]
      · simp [G39, s16, hg, e1, h1'.1, h1'.2, s77, hd, trRes, trErr]
    · simp only [trRes, trErr, hg, if_true, h1]
      rw [Bool.not_eq_true] at h1
      rw [h1] at e1
      simp [G39, s16, hg, e1]
  · simp [G39, s16, hg, trErr, trRes]

def wErr (cs : List Chain) (cl : List Cell) (a b : Int) : Int := if okGround cs cl then (if isD cl a b then 0 else 45) else 42
def wRes (cs : List Chain) (cl : List Cell) (a b : Int) : Int := if wErr cs cl a b = 0 then worthV cl a b else 0
theorem isD_bnd {cs : List Chain} {cl : List Cell} {a b : Int} (hg : okGround cs cl = true) (h : isD cl a b = true) : 0 ≤ a ∧ a ≤ b ∧ b < 24 := by
  have := okG_len hg
  simp only [isD, decide_eq_true_eq] at h
  omega
theorem s40 (n : Nat) (cs : List Chain) (cl : List Cell) (a b : Int) : FN (n + 5) 40 [dChains cs, dCells cl, il a, il b] = some (0, [.d (il (wRes cs cl a b)), .d (il (wErr cs cl a b))]) := by
  rw [F40]
  by_cases hg : okGround cs cl = true
  · by_cases hd : isD cl a b = true
    · have hb := isD_bnd hg hd
      simp [G40, s15, hg, s71one, hd, s81 _ _ _ _ _ (okG_worth hg) (show a ≤ 4611686018427387904 by omega) (show b ≤ 4611686018427387904 by omega), wRes, wErr]
    · simp [G40, s15, hg, s71one, hd, wRes, wErr]
  · simp [G40, s15, hg, wRes, wErr]
theorem s41 (n : Nat) (cs : List Chain) (cl : List Cell) (a b : Int) : FN (n + 5) 41 [dChains cs, dCells cl, il a, il b] = some (0, [.d (il (wRes cs cl a b)), .d (il (wErr cs cl a b))]) := by
  rw [F41]
  by_cases hg : okGround cs cl = true
  · by_cases hd : isD cl a b = true
    · have hb := isD_bnd hg hd
      simp [G41, s16, hg, s77, hd, s82 _ _ _ _ _ (okG_worth hg) hb.1 (show a ≤ 4611686018427387904 by omega) (show b ≤ 4611686018427387904 by omega), wRes, wErr]
    · simp [G41, s16, hg, s77, hd, wRes, wErr]
  · simp [G41, s16, hg, wRes, wErr]

/-! ### gains -/
def isG (a b : Int) : Bool := decide (0 ≤ a ∧ a ≤ 1000000 ∧ 1 ≤ b ∧ b ≤ 1000000)
def cmpI (x y : Int) : Int := if x < y then -1 else if y < x then 1 else 0
theorem s69 (n : Nat) (a b : Int) : FN (n + 2) 69 [il a, il b] = some (0, [.d (bl (isG a b))]) := by
  rw [F69]
  simp only [G69, r_call, r_liti, s59, r_bnd0, r_ld0, r_cond, r_out, r_litb, isG]
  by_cases h : 0 ≤ a ∧ a ≤ 1000000
  · simp [h]
  · have : ¬ (0 ≤ a ∧ a ≤ 1000000 ∧ 1 ≤ b ∧ b ≤ 1000000) := fun h' => h ⟨h'.1, h'.2.1⟩
    simp only [h, this, decide_false, Bool.false_eq_true, if_false]
theorem s83 (n : Nat) (a b : Int) : FN (n + 2) 83 [il a, il b] = some (0, [.d (bl (isG a b))]) := by
  rw [F83]
  simp only [G83, r_call, r_liti, s61, r_bnd0, r_ld0, r_cond, r_out, r_litb, isG]
  by_cases h : 0 ≤ a ∧ a ≤ 1000000
  · simp [h]
  · have : ¬ (0 ≤ a ∧ a ≤ 1000000 ∧ 1 ≤ b ∧ b ≤ 1000000) := fun h' => h ⟨h'.1, h'.2.1⟩
    simp only [h, this, decide_false, Bool.false_eq_true, if_false]
theorem s106 (n : Nat) (a : Int) : FN (n + 1) 106 [il a] = some (0, [.d (bl false)]) := by
  rw [F106]; simp [G106]
theorem s93 (n : Nat) (a b : Int) : FN (n + 2) 93 [il a, il b] = some (0, [.d (il (cmpI a b))]) := by
  rw [F93]
  simp only [G93, r_call, s106, r_bnd0, r_ld0, r_cond, Bool.false_eq_true, if_false, r_lss, r_gtr, r_out, r_liti, cmpI, decide_eq_true_eq]
  split
  · rfl
  · split <;> rfl
/-- The product of numbers that a gain has. -/
theorem gmul {a b : Int} (ha : -4294967296 ≤ a ∧ a ≤ 4294967296) (hb : 0 ≤ b ∧ b ≤ 1000000) : IntKind.i64.wrap (a * b) = a * b := by
  have := mul_bnd (z := a) (c := b) (A := 4294967296) (B := 1000000) (by omega) (by omega) hb.1 hb.2 (by omega)
  exact wrap_id (by omega) (by omega)
theorem s70 (n : Nat) (a b c d : Int) (ha : -4294967296 ≤ a ∧ a ≤ 4294967296) (hb : 0 ≤ b ∧ b ≤ 1000000) (hc : -4294967296 ≤ c ∧ c ≤ 4294967296) (hd : 0 ≤ d ∧ d ≤ 1000000) : FN (n + 3) 70 [il a, il b, il c, il d] = some (0, [.d (il (cmpI (a * d) (c * b)))]) := by
  rw [F70]
  simp only [G70, r_mul, gmul ha hd, gmul hc hb, r_call, s93, r_bnd0, r_ld0, r_out]
theorem s56 (n : Nat) (a b c d : Int) (ha : -4294967296 ≤ a ∧ a ≤ 4294967296) (hb : 0 ≤ b ∧ b ≤ 1000000) (hc : -4294967296 ≤ c ∧ c ≤ 4294967296) (hd : 0 ≤ d ∧ d ≤ 1000000) : FN (n + 1) 56 [il a, il b, il c, il d] = some (0, [.d (bl (decide (a * d < c * b)))]) := by
  rw [F56]
  simp only [G56, r_mul, gmul ha hd, gmul hc hb, r_lss, r_out]
def cErr (a b c d : Int) : Int := if isG a b && isG c d then 0 else 1
def cRes (a b c d : Int) : Int := if cErr a b c d = 0 then cmpI (a * d) (c * b) else 0
theorem s28 (n : Nat) (a b c d : Int) : FN (n + 4) 28 [il a, il b, il c, il d] = some (0, [.d (il (cRes a b c d)), .d (il (cErr a b c d))]) := by
  rw [F28]
  simp only [G28, r_call, s69, r_bnd0, r_ld0, r_not, r_cond, r_out, r_liti]
  by_cases h1 : isG a b = true
  · by_cases h2 : isG c d = true
    · have h1' := h1; have h2' := h2
      simp only [isG, decide_eq_true_eq] at h1' h2'
      have e := s70 n a b c d (by omega) (by omega) (by omega) (by omega)
      simp [h1, h2, e, cRes, cErr]
    · simp [h1, h2, cRes, cErr]
  · simp [h1, cRes, cErr]
theorem s42 (n : Nat) (a b c d : Int) : FN (n + 4) 42 [il a, il b, il c, il d] = some (0, [.d (il (cRes a b c d)), .d (il (cErr a b c d))]) := by
  rw [F42]
  simp only [G42, r_call, s83, r_bnd0, r_ld0, r_not, r_cond, r_out, r_liti]
  by_cases h1 : isG a b = true
  · by_cases h2 : isG c d = true
    · have h1' := h1; have h2' := h2
      simp only [isG, decide_eq_true_eq] at h1' h2'
      have e := s56 (n + 2) a b c d (by omega) (by omega) (by omega) (by omega)
      have e' := s56 (n + 2) c d a b (by omega) (by omega) (by omega) (by omega)
      simp [h1, h2, e, e', cRes, cErr, cmpI]
      split
      · rfl
      · split <;> rfl
    · simp [h1, h2, cRes, cErr]
  · simp [h1, cRes, cErr]

theorem s8 (n : Nat) {Fn : Nat → List D → Out} {FnD : D → List Sh → List D → Out} {m : Nat} (h11 : Fn 11 [] = some (0, [.d (bl true)])) (hF : ∀ f xs, f ≠ 11 → Fn f xs = FN (n + 5) f xs) (cs : List Chain) (cl : List Cell) (a b c d e f g h : Int) (ls : List Int) :
    G8 (real Fn FnD m) (dChains cs) (dCells cl) (il a) (il b) (il c) (il d) (il e) (il f) (il g) (il h) (dI ls) = some (0, [.d (bl true)]) := by
  simp [G8, r_call, h11, hF 30 _ (by decide), hF 37 _ (by decide), hF 31 _ (by decide), hF 38 _ (by decide), hF 32 _ (by decide), hF 39 _ (by decide), hF 40 _ (by decide), hF 41 _ (by decide), hF 28 _ (by decide), hF 42 _ (by decide),
    s30, s37, s31, s38, s32, s39, s40, s41, s28, s42]
end Go.VE
/- The ground and the claims that numbers determine are valid. -/
namespace Go.VE
open Go.RowKit Go.Proofs
set_option maxRecDepth 100000

def modI (a b : Int) : Int := a % b
theorem modI_bnd (a : Int) {b : Int} (h : 0 < b) : 0 ≤ modI a b ∧ modI a b < b := ⟨Int.emod_nonneg _ (by omega), Int.emod_lt_of_pos _ h⟩
theorem s26 (n : Nat) (a b : Int) (h : 0 < b) (hb : b ≤ 1099511627776) : FN (n + 1) 26 [il a, il b] = some (0, [.d (il (modI a b))]) := by
  rw [F26]
  have h1 : -b < a.tmod b ∧ a.tmod b < b := by
    refine ⟨?_, Int.tmod_lt_of_pos a h⟩
    have := Int.lt_tmod_of_pos a h
    omega
  have w : IntKind.i64.wrap (a.tmod b + b) = a.tmod b + b := wrap_id (by omega) (by omega)
  have e : (a.tmod b + b).tmod b = modI a b := by
    rw [Int.tmod_eq_emod_of_nonneg (by omega), Int.add_emod_right, Int.tmod_def, modI, Int.sub_mul_emod_self_left]
  simp only [G26]
  rw [r_rem _ _ _ _ (by omega)]
  simp only [r_add, w]
  rw [r_rem _ _ _ _ (by omega), e, r_out]

def dR2 (l : List (Int × Int)) : D := .sl 2 (l.map fun p => [il p.1, il p.2])
def dR3 (l : List (Int × Int × Int)) : D := .sl 3 (l.map fun p => [il p.1, il p.2.1, il p.2.2])
def MC (cs : List Chain) : Prop := ∀ (j : Nat) c, cs[j]? = some c → c.id = (j : Int) + 1 ∧ 90 ≤ c.lo ∧ c.lo ≤ c.hi ∧ c.hi ≤ 121
def MK (nc : Nat) (cl : List Cell) : Prop := ∀ c ∈ cl, 1 ≤ c.chain ∧ c.chain ≤ (nc : Int) ∧ 1 ≤ c.links ∧ c.links ≤ 9 ∧ 0 ≤ c.worth ∧ c.worth ≤ 11
def ML (nk : Nat) (l : List Claim) : Prop := ∀ (j : Nat) c, l[j]? = some c → c.family = 3 + 2 * (j : Int) ∧ 1 ≤ c.heads ∧ c.heads ≤ 4 ∧ 0 ≤ c.from_ ∧ c.from_ ≤ c.to ∧ c.to < (nk : Int)
theorem MC_snoc {cs : List Chain} {c : Chain} (h : MC cs) (hc : c.id = (cs.length : Int) + 1 ∧ 90 ≤ c.lo ∧ c.lo ≤ c.hi ∧ c.hi ≤ 121) : MC (cs ++ [c]) := by
  intro j d hd
  rw [List.getElem?_append] at hd
  split at hd
  · exact h j d hd
  · rename_i hj
    have : j = cs.length := by
      have := (List.getElem?_eq_some_iff.1 hd).1; simp at this; omega
    subst this
    simp at hd; subst hd; exact hc
theorem ML_snoc {nk : Nat} {l : List Claim} {c : Claim} (h : ML nk l) (hc : c.family = 3 + 2 * (l.length : Int) ∧ 1 ≤ c.heads ∧ c.heads ≤ 4 ∧ 0 ≤ c.from_ ∧ c.from_ ≤ c.to ∧ c.to < (nk : Int)) : ML nk (l ++ [c]) := by
  intro j d hd
  rw [List.getElem?_append] at hd
  split at hd
  · exact h j d hd
  · rename_i hj
    have : j = l.length := by
      have := (List.getElem?_eq_some_iff.1 hd).1; simp at this; omega
    subst this
    simp at hd; subst hd; exact hc
theorem MK_snoc {nc : Nat} {cl : List Cell} {c : Cell} (h : MK nc cl) (hc : 1 ≤ c.chain ∧ c.chain ≤ (nc : Int) ∧ 1 ≤ c.links ∧ c.links ≤ 9 ∧ 0 ≤ c.worth ∧ c.worth ≤ 11) : MK nc (cl ++ [c]) := by
  intro d hd
  rcases List.mem_append.1 hd with hd | hd
  · exact h d hd
  · simp at hd; subst hd; exact hc

theorem l25a (n : Nat) (raws : List (Int × Int)) (hr : raws.length ≤ 140737488355328) (a1 a2 : D) :
    ∃ cs : List Chain, loopR [L25_0 (RP (n + 1)), L25_1 (RP (n + 1))] M0 0 [.d (il 0), .d (dR2 raws), .d a1, .d a2] = some (1, [.r (cs.map rChain), .n cs.length, .n cs.length, .d (dR2 raws), .d a1, .d a2]) ∧ MC cs ∧ 1 ≤ cs.length ∧ cs.length ≤ 3 := by
  refine loop_acc (α := Chain) (L25_0 (RP (n + 1))) (L25_1 (RP (n + 1))) [.d (il 0), .d (dR2 raws), .d a1, .d a2] (fun acc => [.d (il acc.length), .r (acc.map rChain), .n acc.length, .n acc.length, .d (dR2 raws), .d a1, .d a2]) 3 MC
    (fun o => ∃ cs : List Chain, o = some (1, [.r (cs.map rChain), .n cs.length, .n cs.length, .d (dR2 raws), .d a1, .d a2]) ∧ MC cs ∧ 1 ≤ cs.length ∧ cs.length ≤ 3) (by intro j c h; simp at h) ?_ ?_ M0 (by decide)
  · intro k ih
    have hx : ∃ x y, (if 0 < raws.length then raws[0]? else some (0, 0)) = some (x, y) := by
      by_cases h : 0 < raws.length
      · rw [if_pos h]; exact ⟨raws[0].1, raws[0].2, by simp [h]⟩
      · rw [if_neg h]; exact ⟨0, 0, rfl⟩
    obtain ⟨x, y, hxy⟩ := hx
    have b1 := modI_bnd x (b := 20) (by omega)
    have b2 := modI_bnd y (b := 12) (by omega)
    have w1 : IntKind.i64.wrap (90 + modI x 20) = 90 + modI x 20 := wrap_id (by omega) (by omega)
    have w2 : IntKind.i64.wrap (90 + modI x 20 + modI y 12) = 90 + modI x 20 + modI y 12 := wrap_id (by omega) (by omega)
    have w3 : IntKind.i64.wrap (1 + 0) = 1 := rfl
    have w4 : IntKind.i64.wrap (0 + 1) = 1 := rfl
    have e1 := s26 n x 20 (by omega) (by omega)
    have e2 := s26 n y 12 (by omega) (by omega)
    have go := ih ⟨1, 90 + modI x 20, 90 + modI x 20 + modI y 12⟩ (MC_snoc (cs := []) (by intro j c h; simp at h) ⟨rfl, by simp only; omega, by simp only; omega, by simp only; omega⟩) (by omega)
    cases raws with
    | nil =>
      simp at hxy
      obtain ⟨rfl, rfl⟩ := hxy
      simp [L25_0, dR2, e1, e2, w1, w2, w3, w4, rChain] at go ⊢
      exact go
    | cons p t =>
      simp at hxy
      subst hxy
      have h0 : (0 : Int) < (t.length : Int) + 1 := by omega
      simp [L25_0, dR2, e1, e2, w1, w2, w3, w4, rChain, h0] at go ⊢
      exact go
  · intro acc k hM hne hl ih
    have hp : 0 < acc.length := List.length_pos_iff.2 hne
    have hne0 : ¬ ((acc.length : Int) = 0) := by omega
    by_cases h1 : acc.length < raws.length ∧ acc.length < 3
    · obtain ⟨⟨x, y⟩, hxy⟩ : ∃ p, raws[acc.length]? = some p := ⟨raws[acc.length], by simp [h1.1]⟩
      have b1 := modI_bnd x (b := 20) (by omega)
      have b2 := modI_bnd y (b := 12) (by omega)
      have w1 : IntKind.i64.wrap (90 + modI x 20) = 90 + modI x 20 := wrap_id (by omega) (by omega)
      have w2 : IntKind.i64.wrap (90 + modI x 20 + modI y 12) = 90 + modI x 20 + modI y 12 := wrap_id (by omega) (by omega)
      have w3 : IntKind.i64.wrap (1 + (acc.length : Int)) = acc.length + 1 := by rw [wrap_id (by omega) (by omega)]; omega
      have w4 : IntKind.i64.wrap ((acc.length : Int) + 1) = acc.length + 1 := wrap_id (by omega) (by omega)
      have e1 := s26 n x 20 (by omega) (by omega)
      have e2 := s26 n y 12 (by omega) (by omega)
      have hi : (acc.length : Int) < (raws.length : Int) := by omega
      have hi3 : (acc.length : Int) < 3 := by omega
      have hf : (acc.length + 1) * 24 ≤ 140737488355328 ∧ acc.length ≤ 9223372036854775806 := by omega
      have go := ih ⟨acc.length + 1, 90 + modI x 20, 90 + modI x 20 + modI y 12⟩ (MC_snoc hM ⟨rfl, by simp only; omega, by simp only; omega, by simp only; omega⟩) h1.2
      simp [L25_1, dR2, hi, hi3, hxy, e1, e2, w1, w2, w3, w4, rChain, hf, h1, List.getElem?_cons_zero, List.getElem?_cons_succ, -getElem?_pos] at go ⊢
      exact go
    · refine ⟨acc, ?_, hM, hp, hl⟩
      by_cases h2 : acc.length < raws.length
      · have h3 : ¬ acc.length < 3 := fun h => h1 ⟨h2, h⟩
        have hi : (acc.length : Int) < (raws.length : Int) := by omega
        have hi3 : ¬ (acc.length : Int) < 3 := by omega
        simp [L25_1, dR2, hi, hi3, hne0, hne, h2, h3]
      · have hi : ¬ (acc.length : Int) < (raws.length : Int) := by omega
        simp [L25_1, dR2, hi, hne0, hne, h2]

theorem l25b (n : Nat) (raws : List (Int × Int × Int)) (hr : raws.length ≤ 140737488355328) (R : Rr) (nc : Nat) (hnc : 1 ≤ nc ∧ nc ≤ 3) (u a1 a2 : D) :
    ∃ cl : List Cell, loopR [L25_8 (RP (n + 1)), L25_9 (RP (n + 1))] M0 0 [.d (il 0), .r R, .n nc, .n nc, .d a1, .d (dR3 raws), .d a2] = some (1, [.r (cl.map rCell), .r R, .n nc, .n nc, .n cl.length, .n cl.length, .d a1, .d (dR3 raws), .d a2]) ∧ MK nc cl ∧ 1 ≤ cl.length ∧ cl.length ≤ 10 := by
  refine loop_acc (α := Cell) (L25_8 (RP (n + 1))) (L25_9 (RP (n + 1))) [.d (il 0), .r R, .n nc, .n nc, .d a1, .d (dR3 raws), .d a2] (fun acc => [.d (il acc.length), .r (acc.map rCell), .r R, .n nc, .n nc, .n acc.length, .n acc.length, .d a1, .d (dR3 raws), .d a2]) 10 (MK nc)
    (fun o => ∃ cl : List Cell, o = some (1, [.r (cl.map rCell), .r R, .n nc, .n nc, .n cl.length, .n cl.length, .d a1, .d (dR3 raws), .d a2]) ∧ MK nc cl ∧ 1 ≤ cl.length ∧ cl.length ≤ 10) (by intro c h; simp at h) ?_ ?_ M0 (by decide)
  · intro k ih
    have hx : ∃ x y z, (if 0 < raws.length then raws[0]? else some (0, 0, 0)) = some (x, y, z) := by
      by_cases h : 0 < raws.length
      · rw [if_pos h]; exact ⟨raws[0].1, raws[0].2.1, raws[0].2.2, by simp [h]⟩
      · rw [if_neg h]; exact ⟨0, 0, 0, rfl⟩
    obtain ⟨x, y, z, hxy⟩ := hx
    have b1 := modI_bnd x (b := nc) (by omega)
    have b2 := modI_bnd y (b := 9) (by omega)
    have b3 := modI_bnd z (b := 12) (by omega)
    have w1 : IntKind.i64.wrap (1 + modI x nc) = 1 + modI x nc := wrap_id (by omega) (by omega)
    have w2 : IntKind.i64.wrap (1 + modI y 9) = 1 + modI y 9 := wrap_id (by omega) (by omega)
    have w4 : IntKind.i64.wrap (0 + 1) = 1 := rfl
    have e1 := s26 n x nc (by omega) (by omega)
    have e2 := s26 n y 9 (by omega) (by omega)
    have e3 := s26 n z 12 (by omega) (by omega)
    have go := ih ⟨1 + modI x nc, 1 + modI y 9, modI z 12⟩ (MK_snoc (cl := []) (by intro c h; simp at h) (by simp only; omega)) (by omega)
    cases raws with
    | nil =>
      simp at hxy
      obtain ⟨rfl, rfl, rfl⟩ := hxy
      simp [L25_8, dR3, e1, e2, e3, w1, w2, w4, rCell] at go ⊢
      exact go
    | cons p t =>
      simp at hxy
      subst hxy
      have h0 : (0 : Int) < (t.length : Int) + 1 := by omega
      simp [L25_8, dR3, e1, e2, e3, w1, w2, w4, rCell, h0] at go ⊢
      exact go
  · intro acc k hM hne hl ih
    have hp : 0 < acc.length := List.length_pos_iff.2 hne
    have hne0 : ¬ ((acc.length : Int) = 0) := by omega
    by_cases h1 : acc.length < raws.length ∧ acc.length < 10
    · obtain ⟨⟨x, y, z⟩, hxy⟩ : ∃ p, raws[acc.length]? = some p := ⟨raws[acc.length], by simp [h1.1]⟩
      have b1 := modI_bnd x (b := nc) (by omega)
      have b2 := modI_bnd y (b := 9) (by omega)
      have b3 := modI_bnd z (b := 12) (by omega)
      have w1 : IntKind.i64.wrap (1 + modI x nc) = 1 + modI x nc := wrap_id (by omega) (by omega)
      have w2 : IntKind.i64.wrap (1 + modI y 9) = 1 + modI y 9 := wrap_id (by omega) (by omega)
      have w4 : IntKind.i64.wrap ((acc.length : Int) + 1) = acc.length + 1 := wrap_id (by omega) (by omega)
      have e1 := s26 n x nc (by omega) (by omega)
      have e2 := s26 n y 9 (by omega) (by omega)
      have e3 := s26 n z 12 (by omega) (by omega)
      have hi : (acc.length : Int) < (raws.length : Int) := by omega
      have hi3 : (acc.length : Int) < 10 := by omega
      have hf : (acc.length + 1) * 24 ≤ 140737488355328 ∧ acc.length ≤ 9223372036854775806 := by omega
      have go := ih ⟨1 + modI x nc, 1 + modI y 9, modI z 12⟩ (MK_snoc hM (by simp only; omega)) h1.2
      simp [L25_9, dR3, hi, hi3, hxy, e1, e2, e3, w1, w2, w4, rCell, hf, h1, List.getElem?_cons_zero, List.getElem?_cons_succ, -getElem?_pos] at go ⊢
      exact go
    · refine ⟨acc, ?_, hM, hp, hl⟩
      by_cases h2 : acc.length < raws.length
      · have h3 : ¬ acc.length < 10 := fun h => h1 ⟨h2, h⟩
        have hi : (acc.length : Int) < (raws.length : Int) := by omega
        have hi3 : ¬ (acc.length : Int) < 10 := by omega
        simp [L25_9, dR3, hi, hi3, hne0, hne, h2, h3]
      · have hi : ¬ (acc.length : Int) < (raws.length : Int) := by omega
        simp [L25_9, dR3, hi, hne0, hne, h2]

theorem l25c (n : Nat) (raws : List (Int × Int × Int)) (hr : raws.length ≤ 140737488355328) (RK RC : Rr) (nc nk : Nat) (hnk : 1 ≤ nk ∧ nk ≤ 10) (u a1 a2 : D) :
    ∃ l : List Claim, loopR [L25_12 (RP (n + 1)), L25_13 (RP (n + 1))] M0 0 [.d (il 0), .r RK, .r RC, .n nc, .n nc, .n nk, .n nk, .d a1, .d a2, .d (dR3 raws)] = some (1, [.n l.length, .n l.length, .r RK, .r RC, .r (l.map rClaim), .n nc, .n nc, .n nk, .n nk]) ∧ ML nk l ∧ 1 ≤ l.length ∧ l.length ≤ 6 := by
  refine loop_acc (α := Claim) (L25_12 (RP (n + 1))) (L25_13 (RP (n + 1))) [.d (il 0), .r RK, .r RC, .n nc, .n nc, .n nk, .n nk, .d a1, .d a2, .d (dR3 raws)] (fun acc => [.n acc.length, .n acc.length, .d (il acc.length), .r RK, .r RC, .r (acc.map rClaim), .n nc, .n nc, .n nk, .n nk, .d a1, .d a2, .d (dR3 raws)]) 6 (ML nk)
    (fun o => ∃ l : List Claim, o = some (1, [.n l.length, .n l.length, .r RK, .r RC, .r (l.map rClaim), .n nc, .n nc, .n nk, .n nk]) ∧ ML nk l ∧ 1 ≤ l.length ∧ l.length ≤ 6) (by intro j c h; simp at h) ?_ ?_ M0 (by decide)
  · intro k ih
    have hx : ∃ x y z, (if 0 < raws.length then raws[0]? else some (0, 0, 0)) = some (x, y, z) := by
      by_cases h : 0 < raws.length
      · rw [if_pos h]; exact ⟨raws[0].1, raws[0].2.1, raws[0].2.2, by simp [h]⟩
      · rw [if_neg h]; exact ⟨0, 0, 0, rfl⟩
    obtain ⟨x, y, z, hxy⟩ := hx
    have b1 := modI_bnd x (b := 4) (by omega)
    have b2 := modI_bnd y (b := nk) (by omega)
    have b3 := modI_bnd z (b := nk - modI y nk) (by omega)
    have w1 : IntKind.i64.wrap (1 + modI x 4) = 1 + modI x 4 := wrap_id (by omega) (by omega)
    have w2 : IntKind.i64.wrap (nk - modI y nk) = nk - modI y nk := wrap_id (by omega) (by omega)
    have w3 : IntKind.i64.wrap (modI y nk + modI z (nk - modI y nk)) = modI y nk + modI z (nk - modI y nk) := wrap_id (by omega) (by omega)
    have w4 : IntKind.i64.wrap (0 + 1) = 1 := rfl
    have w5 : IntKind.i64.wrap (2 * 0) = 0 := rfl
    have w6 : IntKind.i64.wrap (3 + 0) = 3 := rfl
    have w7 : IntKind.i64.wrap 0 = 0 := rfl
    have w8 : IntKind.i64.wrap 3 = 3 := rfl
    have e1 := s26 n x 4 (by omega) (by omega)
    have e2 := s26 n y nk (by omega) (by omega)
    have e3 := s26 n z (nk - modI y nk) (by omega) (by omega)
    have go := ih ⟨3, 1 + modI x 4, modI y nk, modI y nk + modI z (nk - modI y nk)⟩ (ML_snoc (l := []) (by intro j c h; simp at h) (by simp only [List.length_nil]; omega)) (by omega)
    cases raws with
    | nil =>
      simp at hxy
      obtain ⟨rfl, rfl, rfl⟩ := hxy
      simp [L25_12, dR3, e1, e2, e3, w1, w2, w3, w4, w5, w6, w7, w8, rClaim] at go ⊢
      exact go
    | cons p t =>
      simp at hxy
      subst hxy
      have h0 : (0 : Int) < (t.length : Int) + 1 := by omega
      simp [L25_12, dR3, e1, e2, e3, w1, w2, w3, w4, w5, w6, w7, w8, rClaim, h0] at go ⊢
      exact go
  · intro acc k hM hne hl ih
    have hp : 0 < acc.length := List.length_pos_iff.2 hne
    have hne0 : ¬ ((acc.length : Int) = 0) := by omega
    by_cases h1 : acc.length < raws.length ∧ acc.length < 6
    · obtain ⟨⟨x, y, z⟩, hxy⟩ : ∃ p, raws[acc.length]? = some p := ⟨raws[acc.length], by simp [h1.1]⟩
      have b1 := modI_bnd x (b := 4) (by omega)
      have b2 := modI_bnd y (b := nk) (by omega)
      have b3 := modI_bnd z (b := nk - modI y nk) (by omega)
      have w1 : IntKind.i64.wrap (1 + modI x 4) = 1 + modI x 4 := wrap_id (by omega) (by omega)
      have w2 : IntKind.i64.wrap (nk - modI y nk) = nk - modI y nk := wrap_id (by omega) (by omega)
      have w3 : IntKind.i64.wrap (modI y nk + modI z (nk - modI y nk)) = modI y nk + modI z (nk - modI y nk) := wrap_id (by omega) (by omega)
      have w4 : IntKind.i64.wrap ((acc.length : Int) + 1) = acc.length + 1 := wrap_id (by omega) (by omega)
      have w5 : IntKind.i64.wrap (2 * (acc.length : Int)) = 2 * acc.length := wrap_id (by omega) (by omega)
      have w6 : IntKind.i64.wrap (3 + 2 * (acc.length : Int)) = 3 + 2 * acc.length := wrap_id (by omega) (by omega)
      have e1 := s26 n x 4 (by omega) (by omega)
      have e2 := s26 n y nk (by omega) (by omega)
      have e3 := s26 n z (nk - modI y nk) (by omega) (by omega)
      have hi : (acc.length : Int) < (raws.length : Int) := by omega
      have hi3 : (acc.length : Int) < 6 := by omega
      have hf : (acc.length + 1) * 32 ≤ 140737488355328 ∧ acc.length ≤ 9223372036854775806 := by omega
      have go := ih ⟨3 + 2 * acc.length, 1 + modI x 4, modI y nk, modI y nk + modI z (nk - modI y nk)⟩ (ML_snoc hM ⟨rfl, by simp only; omega, by simp only; omega, by simp only; omega, by simp only; omega, by simp only; omega⟩) h1.2
      simp [L25_13, dR3, hi, hi3, hxy, e1, e2, e3, w1, w2, w3, w4, w5, w6, rClaim, hf, h1, List.getElem?_cons_zero, List.getElem?_cons_succ, -getElem?_pos] at go ⊢
      exact go
    · refine ⟨acc, ?_, hM, hp, hl⟩
      by_cases h2 : acc.length < raws.length
      · have h3 : ¬ acc.length < 6 := fun h => h1 ⟨h2, h⟩
        have hi : (acc.length : Int) < (raws.length : Int) := by omega
        have hi3 : ¬ (acc.length : Int) < 6 := by omega
        simp [L25_13, dR3, hi, hi3, hne0, hne, h2, h3]
      · have hi : ¬ (acc.length : Int) < (raws.length : Int) := by omega
        simp [L25_13, dR3, hi, hne0, hne, h2]

/-- What Made hands back. -/
structure MadeOK (cs : List Chain) (cl : List Cell) (l : List Claim) : Prop where
  mc : MC cs
  lc : 1 ≤ cs.length ∧ cs.length ≤ 3
  mkk : MK cs.length cl
  lk : 1 ≤ cl.length ∧ cl.length ≤ 10
  ml : ML cl.length l
  ll : 1 ≤ l.length ∧ l.length ≤ 6
theorem s25 (n : Nat) (r1 : List (Int × Int)) (r2 r3 : List (Int × Int × Int)) (h1 : r1.length ≤ 140737488355328) (h2 : r2.length ≤ 140737488355328) (h3 : r3.length ≤ 140737488355328) :
    ∃ cs cl l, FN (n + 2) 25 [dR2 r1, dR3 r2, dR3 r3] = some (0, [.d (dChains cs), .d (dCells cl), .d (dClaims l)]) ∧ MadeOK cs cl l := by
  obtain ⟨cs, e1, m1, c1, c2⟩ := l25a n r1 h1 (dR3 r2) (dR3 r3)
  obtain ⟨cl, e2, m2, k1, k2⟩ := l25b n r2 h2 (cs.map rChain) cs.length ⟨c1, c2⟩ (il 0) (dR2 r1) (dR3 r3)
  obtain ⟨l, e3, m3, q1, q2⟩ := l25c n r3 h3 (cl.map rCell) (cs.map rChain) cs.length cl.length ⟨k1, k2⟩ (il 0) (dR2 r1) (dR3 r2)
  refine ⟨cs, cl, l, ?_, m1, ⟨c1, c2⟩, m2, ⟨k1, k2⟩, m3, ⟨q1, q2⟩⟩
  rw [F25]
  simp only [G25, r_loop, r_liti, e1, r_bnd1, r_lr0, r_lrs, r_ln0, r_lns, r_ld0, r_lds, e2, e3]
  simp [dChains, dCells, dClaims]
  refine ⟨?_, ?_, ?_⟩ <;> exact List.take_of_length_le (by simp)
end Go.VE
/- What is made is valid; the law DriftTurns. -/
namespace Go.VE
open Go.RowKit Go.Proofs
set_option maxRecDepth 100000

theorem okC_of : ∀ (cs : List Chain) (i : Nat) (p : Option Int), (∀ (j : Nat) c, cs[j]? = some c → c.id = (i : Int) + j + 1 ∧ 90 ≤ c.lo ∧ c.lo ≤ c.hi ∧ c.hi ≤ 121) → i + cs.length ≤ 99 → (∀ q, p = some q → q ≤ i) → okChains p cs = true
  | [], i, p, _, _, _ => rfl
  | c :: cs, i, p, h, hl, hp => by
    have hc := h 0 c rfl
    simp only [okChains, Bool.and_eq_true]
    simp only [List.length_cons] at hl
    refine ⟨⟨?_, ?_⟩, okC_of cs (i + 1) (some c.id) (fun j d hd => ?_) (by omega) (fun q hq => ?_)⟩
    · simp only [vChain, decide_eq_true_eq]; omega
    · cases p with
      | none => rfl
      | some q => have := hp q rfl; simp only [ltO, decide_eq_true_eq]; omega
    · have := h (j + 1) d (by simpa using hd); omega
    · cases hq; omega
theorem findC_some {x : Int} : ∀ {cs : List Chain} {i : Nat}, (∃ c ∈ cs, c.id = x) → (findC x cs i).isSome = true
  | [], i, ⟨c, hc, _⟩ => by cases hc
  | d :: cs, i, ⟨c, hc, hx⟩ => by
    simp only [findC]
    split
    · rfl
    · rename_i hne
      rcases List.mem_cons.1 hc with rfl | hc
      · exact absurd hx hne
      · exact findC_some ⟨c, hc, hx⟩
theorem okK_of {cs : List Chain} : ∀ {cl : List Cell}, (∀ c ∈ cl, vCell c.chain c.links c.worth = true ∧ (findC c.chain cs 0).isSome = true) → okCells cs cl = true
  | [], _ => rfl
  | c :: cl, h => by
    simp only [okCells, Bool.and_eq_true]
    exact ⟨h c (by simp), okK_of fun c hc => h c (by simp [hc])⟩
theorem findF_mem {f : Int} : ∀ {l : List Claim} {i : Nat}, (findF f l i).isSome = true → ∃ c ∈ l, c.family = f
  | [], i, h => by cases h
  | c :: l, i, h => by
    simp only [findF] at h
    split at h
    · rename_i hc; exact ⟨c, by simp, hc⟩
    · obtain ⟨d, hd, e⟩ := findF_mem h; exact ⟨d, by simp [hd], e⟩
theorem okL_of (nk : Nat) : ∀ (l pre : List Claim), (∀ c ∈ l, vClaim c.family c.heads c.from_ c.to = true ∧ c.to < nk) → ((pre ++ l).map (·.family)).Nodup → okClaims nk pre l = true
  | [], pre, _, _ => rfl
  | c :: l, pre, h, hn => by
    simp only [okClaims, Bool.and_eq_true, decide_eq_true_eq]
    have hc := h c (by simp)
    refine ⟨⟨⟨hc.1, ?_⟩, hc.2⟩, okL_of nk l (pre ++ [c]) (fun c hc => h c (by simp [hc])) (by simpa using hn)⟩
    cases hf : (findF c.family pre 0).isSome with
    | false => rfl
    | true =>
      obtain ⟨d, hd, e⟩ := findF_mem hf
      simp only [List.map_append, List.map_cons, List.nodup_append] at hn
      exact absurd e (hn.2.2 d.family (List.mem_map.2 ⟨d, hd, rfl⟩) c.family (by simp))
theorem made_ground {cs : List Chain} {cl : List Cell} {l : List Claim} (h : MadeOK cs cl l) : okGround cs cl = true := by
  simp only [okGround, Bool.and_eq_true, decide_eq_true_eq]
  have hc := h.lc; have hk := h.lk
  refine ⟨⟨by omega, okC_of cs 0 none (fun j c hj => ?_) (by omega) (fun q hq => by cases hq)⟩, okK_of fun c hc => ?_⟩
  · have := h.mc j c hj; omega
  · have hb := h.mkk c hc
    refine ⟨by simp only [vCell, decide_eq_true_eq]; omega, findC_some ?_⟩
    have hlt : (c.chain - 1).toNat < cs.length := by omega
    refine ⟨cs[(c.chain - 1).toNat], List.getElem_mem hlt, ?_⟩
    have := h.mc _ _ (List.getElem?_eq_getElem hlt)
    omega
theorem ML_nodup {nk : Nat} {l : List Claim} (h : ML nk l) : (l.map (·.family)).Nodup := by
  unfold List.Nodup
  rw [List.pairwise_iff_getElem]
  intro i j hi hj hij
  simp only [List.length_map] at hi hj
  simp only [List.getElem_map]
  have h1 := h i _ (List.getElem?_eq_getElem hi)
  have h2 := h j _ (List.getElem?_eq_getElem hj)
  omega
theorem made_ok {cs : List Chain} {cl : List Cell} {l : List Claim} (h : MadeOK cs cl l) : cOK cs cl l = 0 := by
  have hl := h.ll; have hk := h.lk
  have e : okClaims cl.length [] l = true := okL_of _ l [] (fun c hc => by
    obtain ⟨j, hj⟩ := List.getElem?_of_mem hc
    have := h.ml j c hj
    have hlt := (List.getElem?_eq_some_iff.1 hj).1
    refine ⟨by simp only [vClaim, decide_eq_true_eq]; omega, by omega⟩) (by simpa using ML_nodup h.ml)
  simp [cOK, made_ground h, e]
  omega

/-! ### turning -/
theorem rotN_nat (l : List Claim) (d : Nat) : rotN l (d : Int) = l.drop (d % l.length) ++ l.take (d % l.length) := by
  unfold rotN
  rw [show ((d : Int).tmod (l.length : Int)).toNat = d % l.length by rw [Int.tmod_eq_emod_of_nonneg (by omega), ← Int.natCast_emod, Int.toNat_natCast]]
theorem rotN_len (l : List Claim) (d : Nat) : (rotN l (d : Int)).length = l.length := by
  rw [rotN_nat]; simp
  by_cases h : l.length = 0
  · omega
  · have := Nat.mod_lt d (show l.length > 0 by omega); omega
theorem rotN_at (l : List Claim) (d i : Nat) (hi : i < l.length) : (rotN l (d : Int))[i]? = l[(d + i) % l.length]? := by
  rw [rotN_nat]
  have hk := Nat.mod_lt d (show l.length > 0 by omega)
  rw [← Nat.mod_add_mod]
  generalize d % l.length = k at hk
  rw [List.getElem?_append]
  split
  · rename_i h
    simp only [List.length_drop] at h
    rw [List.getElem?_drop, Nat.mod_eq_of_lt (by omega)]
  · rename_i h
    simp only [List.length_drop] at h
    rw [List.getElem?_take, if_pos (by simp only [List.length_drop]; omega), Nat.mod_eq_sub_mod (by omega), Nat.mod_eq_of_lt (by omega)]
    simp only [List.length_drop]
    congr 1; omega
theorem rotN_0 (l : List Claim) : rotN l 0 = l := by
  have := rotN_nat l 0
  simp only [Int.cast_ofNat_Int, Nat.zero_mod, List.drop_zero, List.take_zero, List.append_nil] at this
  exact this
theorem rotN_add (l : List Claim) (d : Nat) : rotN l ((d : Int) + l.length) = rotN l d := by
  rw [show (d : Int) + l.length = ((d + l.length : Nat) : Int) by simp, rotN_nat, rotN_nat, Nat.add_mod_right]

theorem l4 (n : Nat) {Fn : Nat → List D → Out} {FnD : D → List Sh → List D → Out} (hF : ∀ f xs, f ≠ 11 → Fn f xs = FN (n + 5) f xs) (cs : List Chain) (cl : List Cell) (l : List Claim) (d : Nat) (hok : cOK cs cl l = 0) (hd : d ≤ 4000) :
    loopR [L4_0 (real Fn FnD M0)] M0 0 [.d (il d), .d (dClaims l), .d (dClaims (rotN l d)), .d (il ((0 : Nat) : Int)), .d (dChains cs), .d (dCells cl)] = some (1, []) := by
  have hl := cOK_len hok
  refine range_loop (β := Unit) l (by omega) (L4_0 (real Fn FnD M0)) (fun i _ => [.d (il d), .d (dClaims l), .d (dClaims (rotN l d)), .d (il (i : Int)), .d (dChains cs), .d (dCells cl)]) (fun _ _ => True) (fun _ _ _ => some (1, [])) ?_ ?_ M0 () trivial (M0_big (by omega))
  · intro _ k _; simp [L4_0, dClaims]
  · intro i c r _ k hc hdr hi hw _ ih
    have ih' := ih () trivial
    have w1 : IntKind.i64.wrap ((d : Int) + i) = ((d + i : Nat) : Int) := by rw [wrap_id (by omega) (by omega)]; simp
    have e1 := s12 n cs cl l ((d + i : Nat) : Int)
    rw [← hF 12 _ (by decide)] at e1
    have he : tErr cs cl l ((d + i : Nat) : Int) = 0 := by unfold tErr; rw [if_pos hok, if_pos (by omega)]
    rw [tRes, he, if_pos rfl] at e1
    have hlen := rotN_len l (d + i)
    have h0 := rotN_at l (d + i) 0 (by omega)
    rw [Nat.add_zero] at h0
    have hdi := rotN_at l d i hi
    have hlt := Nat.mod_lt (d + i) (show l.length > 0 by omega)
    rw [List.getElem?_eq_getElem hlt] at h0 hdi
    generalize l[(d + i) % l.length] = c0 at h0 hdi
    obtain ⟨R, hR⟩ : ∃ R, rotN l ((d + i : Nat) : Int) = R := ⟨_, rfl⟩
    obtain ⟨R0, hR0⟩ : ∃ R, rotN l (d : Int) = R := ⟨_, rfl⟩
    rw [hR] at e1 hlen h0
    rw [hR0] at hdi ih' ⊢
    simp only [L4_0, r_ld0, r_lds, dClaims, r_lenD, List.length_map, r_lss, r_cond, Int.ofNat_lt, hi, decide_true, if_true, r_add, w1, r_call] at e1 ⊢
    simp only [dClaims] at ih'
    rw [e1]
    simp only [r_bnd0, r_ld0, r_lds, r_liti, r_neq, ne_eq, not_true_eq_false, decide_false, r_cond, Bool.false_eq_true, if_false, r_lenD, List.length_map, hlen, r_rowDg, List.getElem?_map, h0, hdi, Option.map_some, Int.toNat_natCast, Int.toNat_zero, rClaim]
    simp [hw]
    simpa using ih'

theorem s4 (n : Nat) {Fn : Nat → List D → Out} {FnD : D → List Sh → List D → Out} (h11 : Fn 11 [] = some (0, [.d (bl true)])) (hF : ∀ f xs, f ≠ 11 → Fn f xs = FN (n + 5) f xs)
    (r1 : List (Int × Int)) (r2 r3 : List (Int × Int × Int)) (h1 : r1.length ≤ 140737488355328) (h2 : r2.length ≤ 140737488355328) (h3 : r3.length ≤ 140737488355328) (day : Int) :
    G4 (real Fn FnD M0) (dR2 r1) (dR3 r2) (dR3 r3) (il day) = some (0, [.d (bl true)]) := by
  obtain ⟨cs, cl, l, e25, hm⟩ := s25 (n + 3) r1 r2 r3 h1 h2 h3
  have hok := made_ok hm
  have hl := hm.ll
  have hb := modI_bnd day (b := 4000) (by omega)
  obtain ⟨d, hd⟩ : ∃ d : Nat, modI day 4000 = d := ⟨(modI day 4000).toNat, by omega⟩
  have e26 := s26 (n + 4) day 4000 (by omega) (by omega)
  rw [hd] at e26
  have w1 : IntKind.i64.wrap ((d : Int) + l.length) = (d : Int) + l.length := wrap_id (by omega) (by omega)
  have t0 := s12 n cs cl l 0
  have t1 := s12 n cs cl l d
  have t2 := s12 n cs cl l ((d : Int) + l.length)
  have f0 : tErr cs cl l 0 = 0 := by unfold tErr; rw [if_pos hok, if_pos (by omega)]
  have f1 : tErr cs cl l d = 0 := by unfold tErr; rw [if_pos hok, if_pos (by omega)]
  have f2 : tErr cs cl l ((d : Int) + l.length) = 0 := by unfold tErr; rw [if_pos hok, if_pos (by omega)]
  rw [tRes, f0, if_pos rfl, rotN_0] at t0
  rw [tRes, f1, if_pos rfl] at t1
  rw [tRes, f2, if_pos rfl, rotN_add] at t2
  have u1 := s14 (n + 4) l l (by omega)
  have u2 := s14 (n + 4) (rotN l d) (rotN l d) (by rw [rotN_len]; omega)
  have e4 := l4 n (FnD := FnD) hF cs cl l d hok (by omega)
  have hlen : (real Fn FnD M0).lenD (dClaims l) = fun k => k (il l.length) := by
    funext k; simp [dClaims]
  simp [G4, h11, hF 25 _ (by decide), hF 26 _ (by decide), hF 12 _ (by decide), hF 14 _ (by decide), e25, e26, t0, t1, hlen, w1, t2, u1, u2]
  simp at e4
  rw [e4]
  simp
end Go.VE
