/- The functions. -/
import Derived.Test.YtdeodfmhbgejoaaMf0
import Derived.Test.YtdeodfmhbgejoaaMe
/- What the checks of the drifts hand back. -/
namespace Go.VE
open Go.RowKit Go.Proofs

theorem s59 (n : Nat) (x lo hi : Int) : FN (n + 1) 59 [il x, il lo, il hi] = some (0, [.d (bl (decide (lo ≤ x ∧ x ≤ hi)))]) := by
  rw [F59]
  simp only [G59, r_leq, r_cond, r_litb, r_out]
  by_cases h : lo ≤ x <;> simp [h]
theorem s61 (n : Nat) (x lo hi : Int) : FN (n + 1) 61 [il x, il lo, il hi] = some (0, [.d (bl (decide (lo ≤ x ∧ x ≤ hi)))]) := by
  rw [F61]
  simp only [G61, r_geq, r_leq, r_cond, r_litb, r_out]
  by_cases h : lo ≤ x <;> simp [h]

def vChain (id lo hi : Int) : Bool := decide (1 ≤ id ∧ id ≤ 99 ∧ 1 ≤ lo ∧ lo ≤ hi ∧ hi ≤ 1000)
theorem s19 (n : Nat) (id lo hi : Int) : FN (n + 2) 19 [il id, il lo, il hi] = some (0, [.d (il (if vChain id lo hi then 0 else 40))]) := by
  rw [F19]
  simp [G19, s59]
  unfold vChain
  repeat' split
  all_goals (first | rfl | (exfalso; simp at *; omega) | (simp at *; omega))
theorem s20 (n : Nat) (id lo hi : Int) : FN (n + 2) 20 [il id, il lo, il hi] = some (0, [.d (il (if vChain id lo hi then 0 else 40))]) := by
  rw [F20]
  simp [G20, s61]
  unfold vChain
  repeat' split
  all_goals (first | rfl | (exfalso; simp at *; omega) | (simp at *; omega))

def vCell (c l w : Int) : Bool := decide (1 ≤ c ∧ c ≤ 99 ∧ 1 ≤ l ∧ l ≤ 1000 ∧ 0 ≤ w ∧ w ≤ 10000)
theorem s21 (n : Nat) (c l w : Int) : FN (n + 2) 21 [il c, il l, il w] = some (0, [.d (il (if vCell c l w then 0 else 41))]) := by
  rw [F21]
  simp [G21, s59]
  unfold vCell
  repeat' split
  all_goals (first | rfl | (exfalso; simp at *; omega) | (simp at *; omega))
theorem s22 (n : Nat) (c l w : Int) : FN (n + 2) 22 [il c, il l, il w] = some (0, [.d (il (if vCell c l w then 0 else 41))]) := by
  rw [F22]
  simp [G22, s61]
  unfold vCell
  repeat' split
  all_goals (first | rfl | (exfalso; simp at *; omega) | (simp at *; omega))

def vClaim (f h a b : Int) : Bool := decide (1 ≤ f ∧ f ≤ 99 ∧ 1 ≤ h ∧ h ≤ 20 ∧ 0 ≤ a ∧ a ≤ b ∧ b < 24)
theorem s23 (n : Nat) (f h a b : Int) : FN (n + 2) 23 [il f, il h, il a, il b] = some (0, [.d (il (if vClaim f h a b then 0 else 43))]) := by
  rw [F23]
  simp [G23, s59]
  unfold vClaim
  repeat' split
  all_goals (first | rfl | (exfalso; simp at *; omega) | (simp at *; omega))
theorem s24 (n : Nat) (f h a b : Int) : FN (n + 2) 24 [il f, il h, il a, il b] = some (0, [.d (il (if vClaim f h a b then 0 else 43))]) := by
  rw [F24]
  simp [G24, s61]
  unfold vClaim
  repeat' split
  all_goals (first | rfl | (exfalso; simp at *; omega) | (simp at *; omega))
end Go.VE
/- Grounds and claims: what the checks hand back. -/
namespace Go.VE
open Go.RowKit Go.Proofs

structure Chain where
  id : Int
  lo : Int
  hi : Int
structure Cell where
  chain : Int
  links : Int
  worth : Int
structure Claim where
  family : Int
  heads : Int
  from_ : Int
  to : Int
  deriving DecidableEq
def rChain (c : Chain) : List D := [il c.id, il c.lo, il c.hi]
def rCell (c : Cell) : List D := [il c.chain, il c.links, il c.worth]
def rClaim (c : Claim) : List D := [il c.family, il c.heads, il c.from_, il c.to]
def dChains (l : List Chain) : D := .sl 3 (l.map rChain)
def dCells (l : List Cell) : D := .sl 3 (l.map rCell)
def dClaims (l : List Claim) : D := .sl 4 (l.map rClaim)

theorem rounds {l : Nat} (h : l ≤ 9223372036854775807) : ∃ k, M0 = k + l + 1 := ⟨M0 - l - 1, by have : M0 = 18446744073709551616 := rfl; omega⟩

/-- The place of a chain, from a place on. -/
def findC (id : Int) : List Chain → Nat → Option Nat
  | [], _ => none
  | c :: r, i => if c.id = id then some i else findC id r (i + 1)
theorem l63 (n : Nat) (id : Int) (cl : D) : ∀ (suf pre : List Chain) (k : Nat), (pre ++ suf).length ≤ 9223372036854775806 →
    loopR [L63_0 (RP n)] (k + suf.length + 1) 0 [.d (il id), .d (il pre.length), .d (dChains (pre ++ suf)), .d cl] = match findC id suf pre.length with
      | some j => some (0, [.d (il j)])
      | none => some (1, [])
  | [], pre, k, hl => by simp [loopR1, L63_0, dChains, findC]
  | c :: suf, pre, k, hl => by
    have ih := l63 n id cl suf (pre ++ [c]) k (by simpa using hl)
    simp only [List.append_assoc, List.singleton_append, List.length_append, List.length_singleton] at ih
    simp only [List.length_cons, List.length_append] at hl ⊢
    rw [loopR1]
    have hw : IntKind.i64.wrap ((pre.length : Int) + 1) = ((pre.length + 1 : Nat) : Int) := by rw [wrap_id (by omega) (by omega)]; simp
    have hr : (List.map rChain (pre ++ c :: suf))[pre.length]? = some (rChain c) := by simp
    have hlt : (pre.length : Int) < ((pre.length + (suf.length + 1) : Nat) : Int) := by omega
    simp only [L63_0, dChains, r_ld0, r_lds, r_lenD, r_lss, r_cond, List.length_map, List.length_append, List.length_cons, hlt, decide_true, if_true, findC]
    rw [r_rowDn 3 _ _ _ _ hr rfl]
    simp only [rChain, r_cell0, r_eql, r_cond, decide_eq_true_eq, r_out, r_liti, r_add, hw, findC]
    split
    · rfl
    · exact ih

def ltO : Option Int → Int → Bool
  | none, _ => true
  | some q, x => decide (q < x)
/-- The chains are valid and rise. -/
def okChains : Option Int → List Chain → Bool
  | _, [] => true
  | p, c :: r => vChain c.id c.lo c.hi && ltO p c.id && okChains (some c.id) r
def lastId (l : List Chain) : Option Int := l.getLast?.map (·.id)
theorem lastId_snoc (l : List Chain) (c : Chain) : lastId (l ++ [c]) = some c.id := by simp [lastId]

theorem l15a (n : Nat) (x : D) : ∀ (suf pre : List Chain) (k : Nat), (pre ++ suf).length ≤ 9223372036854775806 →
    loopR [L15_0 (RP (n + 2))] (k + suf.length + 1) 0 [.d (dChains (pre ++ suf)), .d (il (pre ++ suf).length), .d (il pre.length), .d (dChains (pre ++ suf)), .d x] =
      if okChains (lastId pre) suf = true then some (1, [.d (dChains (pre ++ suf)), .d x]) else some (0, [.d (il 42)])
  | [], pre, k, hl => by simp [loopR1, L15_0, okChains]
  | c :: suf, pre, k, hl => by
    have ih := l15a n x suf (pre ++ [c]) k (by simpa using hl)
    simp only [List.append_assoc, List.singleton_append, List.length_append, List.length_singleton, lastId_snoc] at ih
    simp only [List.length_cons, List.length_append] at hl ih ⊢
    rw [loopR1]
    have hw : IntKind.i64.wrap ((pre.length : Int) + 1) = ((pre.length + 1 : Nat) : Int) := by rw [wrap_id (by omega) (by omega)]; simp
    have hr : (List.map rChain (pre ++ c :: suf))[pre.length]? = some (rChain c) := by simp
    have hlt : (pre.length : Int) < ((pre.length + (suf.length + 1) : Nat) : Int) := by omega
    simp only [L15_0, dChains, r_ld0, r_lds, r_lss, r_cond, hlt, decide_true, if_true]
    rw [r_rowDn 3 _ _ _ _ hr rfl]
    simp only [rChain, r_cell0, r_cells, r_call, s19, r_bnd0, r_ld0, r_liti, r_neq, r_cond, r_out, r_gtr, r_sub, r_add, hw, okChains]
    by_cases hv : vChain c.id c.lo c.hi = true
    · simp only [hv, if_true, Bool.true_and]
      rw [if_neg (by simp)]
      rcases List.eq_nil_or_concat pre with rfl | ⟨pre', q, hp⟩
      · simp [lastId, ltO] at ih ⊢
        exact ih
      · rw [List.concat_eq_append] at hp
        subst hp
        have hw2 : IntKind.i64.wrap (((pre' ++ [q]).length : Int) - 1) = ((pre'.length : Nat) : Int) := by
          simp only [List.length_append, List.length_singleton] at hl ⊢
          rw [wrap_id (by omega) (by omega)]; omega
        have hr2 : (List.map rChain ((pre' ++ [q]) ++ c :: suf))[pre'.length]? = some (rChain q) := by simp
        rw [if_pos (by simp), hw2, r_rowDn 3 _ _ _ _ hr2 rfl]
        simp only [rChain, r_cell0, r_geq, r_cond, decide_eq_true_eq, r_out, lastId_snoc, ltO]
        by_cases hq : c.id ≤ q.id
        · rw [if_pos hq, if_neg (by simp; omega)]
        · rw [if_neg hq]
          have : decide (q.id < c.id) = true := by simp; omega
          simp only [this, Bool.true_and]
          exact ih
    · simp only [hv, Bool.false_and]
      simp

/-! ### the map of chains -/
def kChain (c : Chain) : Value := .int .i64 c.id
theorem mFind_ok (x : Int) : ∀ (l : List Chain) (j : Nat), mFind 0 (.int .i64 x) (l.map kChain) j = some (findC x l j)
  | [], j => rfl
  | c :: l, j => by
    simp only [List.map_cons, mFind, kChain, kEq, if_true, findC]
    by_cases h : c.id = x
    · simp [h]
    · have : (x == c.id) = false := by simp; exact fun e => h e.symm
      simp only [this, h, if_false]
      exact mFind_ok x l (j + 1)
theorem findC_none {x : Int} : ∀ {l : List Chain} {j : Nat}, (∀ c ∈ l, c.id ≠ x) → findC x l j = none
  | [], j, _ => rfl
  | c :: l, j, h => by simp only [findC, if_neg (h c (by simp))]; exact findC_none fun c hc => h c (by simp [hc])
theorem findC_lt {x : Int} : ∀ {l : List Chain} {j i : Nat}, findC x l j = some i → j ≤ i ∧ i < j + l.length
  | [], j, i, h => by cases h
  | c :: l, j, i, h => by
    simp only [findC] at h
    split at h
    · cases h; simp
    · have := findC_lt h; simp; omega
def mpOf (l : List Chain) : Mr := (l.map kChain, (List.range l.length).map fun (i : Nat) => [il (i : Int)])
theorem upd_ok (l : List Chain) (c : Chain) (h : ∀ d ∈ l, d.id ≠ c.id) : updD 0 (mpOf l) (il c.id) [il l.length] = some (mpOf (l ++ [c])) := by
  simp only [updD, il, litD, isKey, if_true, mpOf, mFind_ok, findC_none h]
  simp [kChain, List.range_succ, il]
theorem look_ok (l : List Chain) (x : Int) : ∃ r, lookD 0 [.int .i64 0] (mpOf l) (il x) = some (r, bl (findC x l 0).isSome) := by
  simp only [lookD, il, litD, isKey, if_true, mpOf, mFind_ok]
  cases hf : findC x l 0 with
  | none => exact ⟨_, rfl⟩
  | some i =>
    have := findC_lt hf
    refine ⟨[il i], ?_⟩
    simp only [List.getElem?_map, List.getElem?_range (show i < l.length by omega), Option.map_some, Option.isSome_some]
    rfl
theorem l62 (n : Nat) : ∀ (suf pre : List Chain) (k : Nat), (pre ++ suf).length ≤ 9223372036854775806 → ((pre ++ suf).map (·.id)).Nodup →
    loopR [L62_0 (RP n)] (k + suf.length + 1) 0 [.d (dChains (pre ++ suf)), .d (il (pre ++ suf).length), .d (il pre.length), .m (mpOf pre)] = some (0, [.m (mpOf (pre ++ suf))])
  | [], pre, k, hl, hn => by simp [loopR1, L62_0]
  | c :: suf, pre, k, hl, hn => by
    have ih := l62 n suf (pre ++ [c]) k (by simpa using hl) (by simpa using hn)
    simp only [List.append_assoc, List.singleton_append, List.length_append, List.length_singleton] at ih
    simp only [List.length_cons, List.length_append] at hl ih ⊢
    rw [loopR1]
    have hw : IntKind.i64.wrap ((pre.length : Int) + 1) = ((pre.length + 1 : Nat) : Int) := by rw [wrap_id (by omega) (by omega)]; simp
    have hr : (List.map rChain (pre ++ c :: suf))[pre.length]? = some (rChain c) := by simp
    have hlt : (pre.length : Int) < ((pre.length + (suf.length + 1) : Nat) : Int) := by omega
    have hd : ∀ d ∈ pre, d.id ≠ c.id := by
      intro d hd e
      simp only [List.map_append, List.map_cons, List.nodup_append] at hn
      exact hn.2.2 d.id (List.mem_map.2 ⟨d, hd, rfl⟩) c.id (by simp) e
    simp only [L62_0, dChains, r_ld0, r_lds, r_lss, r_cond, hlt, decide_true, if_true]
    rw [r_rowDn 3 _ _ _ _ hr rfl]
    simp only [rChain, r_cell0, r_lms, r_lm0]
    rw [r_upd 0 _ _ _ _ _ (upd_ok pre c hd)]
    simp only [r_liti, r_add, hw]
    exact ih
theorem s62 (n : Nat) (cs : List Chain) (x : D) (hl : cs.length ≤ 9223372036854775806) (hn : (cs.map (·.id)).Nodup) : FN (n + 1) 62 [dChains cs, x] = some (0, [.m (mpOf cs)]) := by
  rw [F62]
  obtain ⟨k, hk⟩ := rounds (l := cs.length) (by omega)
  have := l62 n cs [] k (by simpa using hl) (by simpa using hn)
  simp only [List.nil_append, List.length_nil] at this
  simp only [G62, dChains, r_lenD, List.length_map, r_loop, hk, r_liti, r_emp]
  rw [show (0 : Int) = ((0 : Nat) : Int) from rfl, show (([], []) : Mr) = mpOf [] from rfl]
  simp only [dChains] at this
  rw [this]
  simp
end Go.VE
/- Grounds: what both checks hand back. -/
namespace Go.VE
open Go.RowKit Go.Proofs

theorem ids_nodup : ∀ {l : List Chain} {p : Option Int}, okChains p l = true → (∀ c ∈ l, ltO p c.id = true) ∧ (l.map (·.id)).Nodup
  | [], p, _ => by simp
  | c :: l, p, h => by
    simp only [okChains, Bool.and_eq_true] at h
    obtain ⟨h1, h2⟩ := ids_nodup h.2
    refine ⟨?_, ?_⟩
    · intro d hd
      rcases List.mem_cons.1 hd with rfl | hd
      · exact h.1.2
      · have := h1 d hd
        have h3 := h.1.2
        cases p with
        | none => rfl
        | some q => simp only [ltO, decide_eq_true_eq] at this h3 ⊢; omega
    · simp only [List.map_cons, List.nodup_cons, List.mem_map, not_exists, not_and]
      refine ⟨fun d hd e => ?_, h2⟩
      have := h1 d hd
      simp only [ltO, decide_eq_true_eq] at this
      omega

/-- The cells are valid, their chains known. -/
def okCells (cs : List Chain) : List Cell → Bool
  | [] => true
  | c :: r => vCell c.chain c.links c.worth && (findC c.chain cs 0).isSome && okCells cs r

set_option maxRecDepth 10000 in
theorem l15b (n : Nat) (cs : List Chain) : ∀ (suf pre : List Cell) (k : Nat), (pre ++ suf).length ≤ 9223372036854775806 →
    loopR [L15_1 (RP (n + 2))] (k + suf.length + 1) 0 [.d (dCells (pre ++ suf)), .d (il (pre ++ suf).length), .d (il pre.length), .m (mpOf cs)] =
      if okCells cs suf = true then some (1, []) else some (0, [.d (il 42)])
  | [], pre, k, hl => by simp [loopR1, L15_1, okCells]
  | c :: suf, pre, k, hl => by
    have ih := l15b n cs suf (pre ++ [c]) k (by simpa using hl)
    simp only [List.append_assoc, List.singleton_append, List.length_append, List.length_singleton] at ih
    simp only [List.length_cons, List.length_append] at hl ih ⊢
    rw [loopR1]
    have hw : IntKind.i64.wrap ((pre.length : Int) + 1) = ((pre.length + 1 : Nat) : Int) := by rw [wrap_id (by omega) (by omega)]; simp
    have hr : (List.map rCell (pre ++ c :: suf))[pre.length]? = some (rCell c) := by simp
    have hlt : (pre.length : Int) < ((pre.length + (suf.length + 1) : Nat) : Int) := by omega
    obtain ⟨r, hlook⟩ := look_ok cs c.chain
    simp only [L15_1, dCells, r_ld0, r_lds, r_lss, r_cond, hlt, decide_true, if_true]
    rw [r_rowDn 3 _ _ _ _ hr rfl]
    simp only [rCell, r_cell0, r_cells, r_lms, r_lm0]
    rw [r_look 0 _ _ _ _ _ hlook]
    simp only [r_call, s21, r_bnd0, r_ld0, r_liti, r_neq, r_cond, r_out, r_not, r_add, hw, okCells]
    by_cases hv : vCell c.chain c.links c.worth = true
    · simp only [hv, if_true, Bool.true_and]
      rw [if_neg (by simp)]
      cases hf : (findC c.chain cs 0).isSome with
      | true => simp only [Bool.not_true, Bool.true_and]; exact ih
      | false => simp
    · simp only [hv, Bool.false_and]
      simp

def okGround (cs : List Chain) (cl : List Cell) : Bool := decide (1 ≤ cs.length ∧ cs.length ≤ 6 ∧ 1 ≤ cl.length ∧ cl.length ≤ 24) && okChains none cs && okCells cs cl

set_option maxRecDepth 10000 in
theorem s15 (n : Nat) (cs : List Chain) (cl : List Cell) : FN (n + 3) 15 [dChains cs, dCells cl] = some (0, [.d (il (if okGround cs cl then 0 else 42))]) := by
  rw [F15]
  simp only [G15, dChains, dCells, r_lenD, List.length_map, r_liti, r_call, s59, r_bnd0, r_ld0, r_not, r_cond, r_out]
  by_cases h1 : 1 ≤ (cs.length : Int) ∧ (cs.length : Int) ≤ 6
  · by_cases h2 : 1 ≤ (cl.length : Int) ∧ (cl.length : Int) ≤ 24
    · simp only [h1, h2, decide_true, and_self, Bool.not_true, Bool.false_eq_true, if_false, r_loop]
      obtain ⟨k, hk⟩ := rounds (l := cs.length) (by omega)
      have e1 := l15a n (dCells cl) cs [] k (by simp; omega)
      simp only [List.nil_append, List.length_nil, dChains, dCells, ← hk] at e1
      rw [show (0 : Int) = ((0 : Nat) : Int) from rfl, e1]
      by_cases h3 : okChains none cs = true
      · rw [if_pos (by simpa [lastId] using h3)]
        simp only [r_bnd1, r_ld0, r_lds, r_call]
        have e2 := s62 (n + 1) cs (dCells cl) (by omega) (ids_nodup h3).2
        simp only [dChains, dCells] at e2
        rw [e2]
        simp only [r_bnd0, r_lenD, r_lm0, List.length_map, r_loop]
        obtain ⟨k2, hk2⟩ := rounds (l := cl.length) (by omega)
        have e3 := l15b n cs cl [] k2 (by simp; omega)
        simp only [List.nil_append, List.length_nil, dCells, ← hk2] at e3
        rw [e3]
        by_cases h4 : okCells cs cl = true
        · rw [if_pos h4, r_bnd1]
          have : okGround cs cl = true := by simp [okGround, h3, h4]; omega
          simp [this]
        · rw [if_neg h4, r_bnd0]
          have : okGround cs cl = false := by simp [okGround, h4]
          simp [this]
      · rw [if_neg (by simpa [lastId] using h3), r_bnd0]
        have : okGround cs cl = false := by simp [okGround, h3]
        simp [this]
    · have : okGround cs cl = false := by simp [okGround]; intros; omega
      simp [h1, h2, this]
  · have : okGround cs cl = false := by simp [okGround]; intros; omega
    simp [h1, this]

theorem s63 (n : Nat) (cs : List Chain) (x : D) (id : Int) (hl : cs.length ≤ 9223372036854775806) : FN (n + 1) 63 [dChains cs, x, il id] = some (0, [.d (il (match findC id cs 0 with | some j => (j : Int) | none => -1))]) := by
  rw [F63]
  obtain ⟨k, hk⟩ := rounds (l := cs.length) (by omega)
  have e := l63 n id x cs [] k (by simpa using hl)
  simp only [List.nil_append, List.length_nil, ← hk] at e
  simp only [G63, r_loop, r_liti]
  rw [show (0 : Int) = ((0 : Nat) : Int) from rfl, e]
  cases findC id cs 0 <;> simp

theorem l16a (n : Nat) (x : D) : ∀ (suf pre : List Chain) (k : Nat), (pre ++ suf).length ≤ 9223372036854775806 →
    loopR [L16_0 (RP (n + 2))] (k + suf.length + 1) 0 [.d (il pre.length), .d (dChains (pre ++ suf)), .d x] =
      if okChains (lastId pre) suf = true then some (1, [.d (dChains (pre ++ suf)), .d x]) else some (0, [.d (il 42)])
  | [], pre, k, hl => by simp [loopR1, L16_0, okChains, dChains]
  | c :: suf, pre, k, hl => by
    have ih := l16a n x suf (pre ++ [c]) k (by simpa using hl)
    simp only [List.append_assoc, List.singleton_append, List.length_append, List.length_singleton, lastId_snoc] at ih
    simp only [List.length_cons, List.length_append] at hl ih ⊢
    rw [loopR1]
    have hw : IntKind.i64.wrap ((pre.length : Int) + 1) = ((pre.length + 1 : Nat) : Int) := by rw [wrap_id (by omega) (by omega)]; simp
    have hr : (List.map rChain (pre ++ c :: suf))[pre.length]? = some (rChain c) := by simp
    have hlt : (pre.length : Int) < ((pre.length + (suf.length + 1) : Nat) : Int) := by omega
    simp only [L16_0, dChains, r_ld0, r_lds, r_lenD, List.length_map, List.length_append, List.length_cons, r_lss, r_cond, hlt, decide_true, if_true]
    rw [r_rowDn 3 _ _ _ _ hr rfl]
    simp only [rChain, r_cell0, r_cells, r_call, s20, r_bnd0, r_ld0, r_liti, r_neq, r_cond, r_out, r_gtr, r_sub, r_add, hw, okChains]
    by_cases hv : vChain c.id c.lo c.hi = true
    · simp only [hv, if_true, Bool.true_and]
      rw [if_neg (by simp)]
      rcases List.eq_nil_or_concat pre with rfl | ⟨pre', q, hp⟩
      · simp [lastId, ltO] at ih ⊢
        exact ih
      · rw [List.concat_eq_append] at hp
        subst hp
        have hw2 : IntKind.i64.wrap (((pre' ++ [q]).length : Int) - 1) = ((pre'.length : Nat) : Int) := by
          simp only [List.length_append, List.length_singleton] at hl ⊢
          rw [wrap_id (by omega) (by omega)]; omega
        have hr2 : (List.map rChain ((pre' ++ [q]) ++ c :: suf))[pre'.length]? = some (rChain q) := by simp
        rw [if_pos (by simp), hw2, r_rowDn 3 _ _ _ _ hr2 rfl, r_rowDn 3 _ _ _ _ hr rfl]
        simp only [rChain, r_cell0, r_geq, r_cond, decide_eq_true_eq, r_out, lastId_snoc, ltO]
        by_cases hq : c.id ≤ q.id
        · rw [if_pos hq, if_neg (by simp; omega)]
        · rw [if_neg hq]
          have : decide (q.id < c.id) = true := by simp; omega
          simp only [this, Bool.true_and]
          exact ih
    · simp only [hv, Bool.false_and]
      simp

set_option maxRecDepth 10000 in
theorem l16b (n : Nat) (cs : List Chain) (hcs : cs.length ≤ 9223372036854775806) : ∀ (suf pre : List Cell) (k : Nat), (pre ++ suf).length ≤ 9223372036854775806 →
    loopR [L16_1 (RP (n + 2))] (k + suf.length + 1) 0 [.d (il pre.length), .d (dChains cs), .d (dCells (pre ++ suf))] =
      if okCells cs suf = true then some (1, []) else some (0, [.d (il 42)])
  | [], pre, k, hl => by simp [loopR1, L16_1, okCells, dCells]
  | c :: suf, pre, k, hl => by
    have ih := l16b n cs hcs suf (pre ++ [c]) k (by simpa using hl)
    simp only [List.append_assoc, List.singleton_append, List.length_append, List.length_singleton] at ih
    simp only [List.length_cons, List.length_append] at hl ih ⊢
    rw [loopR1]
    have hw : IntKind.i64.wrap ((pre.length : Int) + 1) = ((pre.length + 1 : Nat) : Int) := by rw [wrap_id (by omega) (by omega)]; simp
    have hr : (List.map rCell (pre ++ c :: suf))[pre.length]? = some (rCell c) := by simp
    have hlt : (pre.length : Int) < ((pre.length + (suf.length + 1) : Nat) : Int) := by omega
    have h63 := s63 (n + 1) cs (dCells (pre ++ c :: suf)) c.chain hcs
    simp only [dCells] at h63
    simp only [L16_1, dCells, r_ld0, r_lds, r_lenD, List.length_map, List.length_append, List.length_cons, r_lss, r_cond, hlt, decide_true, if_true]
    rw [r_rowDn 3 _ _ _ _ hr rfl]
    simp only [rCell, r_cell0, r_cells, r_call, s22, r_bnd0, r_ld0, r_liti, r_neq, r_cond, r_out, okCells]
    by_cases hv : vCell c.chain c.links c.worth = true
    · simp only [hv, if_true, Bool.true_and]
      rw [if_neg (by simp), r_rowDn 3 _ _ _ _ hr rfl]
      simp only [rCell, r_cell0]
      rw [h63]
      simp only [r_bnd0, r_ld0, r_lss, r_cond, decide_eq_true_eq, r_add, hw]
      cases hf : findC c.chain cs 0 with
      | some j => simp only [Option.isSome_some, Bool.true_and]; rw [if_neg (by omega)]; exact ih
      | none => simp
    · simp only [hv, Bool.false_and]
      simp

set_option maxRecDepth 10000 in
theorem s16 (n : Nat) (cs : List Chain) (cl : List Cell) : FN (n + 3) 16 [dChains cs, dCells cl] = some (0, [.d (il (if okGround cs cl then 0 else 42))]) := by
  rw [F16]
  simp only [G16, dChains, dCells, r_lenD, List.length_map, r_liti, r_call, s61, r_bnd0, r_ld0, r_not, r_cond, r_out]
  by_cases h1 : 1 ≤ (cs.length : Int) ∧ (cs.length : Int) ≤ 6
  · by_cases h2 : 1 ≤ (cl.length : Int) ∧ (cl.length : Int) ≤ 24
    · simp only [h1, h2, decide_true, and_self, Bool.not_true, Bool.false_eq_true, if_false, r_loop]
      obtain ⟨k, hk⟩ := rounds (l := cs.length) (by omega)
      have e1 := l16a n (dCells cl) cs [] k (by simp; omega)
      simp only [List.nil_append, List.length_nil, dChains, dCells, ← hk] at e1
      rw [show (0 : Int) = ((0 : Nat) : Int) from rfl, e1]
      by_cases h3 : okChains none cs = true
      · rw [if_pos (by simpa [lastId] using h3)]
        simp only [r_bnd1, r_ld0, r_lds, r_loop]
        obtain ⟨k2, hk2⟩ := rounds (l := cl.length) (by omega)
        have e3 := l16b n cs (by omega) cl [] k2 (by simp; omega)
        simp only [List.nil_append, List.length_nil, dChains, dCells, ← hk2] at e3
        rw [e3]
        by_cases h4 : okCells cs cl = true
        · rw [if_pos h4, r_bnd1]
          have : okGround cs cl = true := by simp [okGround, h3, h4]; omega
          simp [this]
        · rw [if_neg h4, r_bnd0]
          have : okGround cs cl = false := by simp [okGround, h4]
          simp [this]
      · rw [if_neg (by simpa [lastId] using h3), r_bnd0]
        have : okGround cs cl = false := by simp [okGround, h3]
        simp [this]
    · have : okGround cs cl = false := by simp [okGround]; intros; omega
      simp [h1, h2, this]
  · have : okGround cs cl = false := by simp [okGround]; intros; omega
    simp [h1, this]
end Go.VE
/- Claims: what both checks hand back. -/
namespace Go.VE
open Go.RowKit Go.Proofs

theorem s65 (n : Nat) (a b c d e f g h : Int) : FN (n + 1) 65 [il a, il b, il c, il d, il e, il f, il g, il h] = some (0, [.d (bl (decide (a = e)))]) := by
  rw [F65]; simp [G65]
theorem d65 (n : Nat) (x c : Claim) : FnDof (cf3 tb Try.prog) (FN (n + 1)) (.fn 65 [.dp (rClaim c) 0]) [.agg 4] (rClaim x) = some (0, [.d (bl (decide (x.family = c.family)))]) := by
  simp [FnDof, vdsOf, flatV, cf3, tb, ashT, rskT, isOneD, rClaim, s65, D.isLit, bl]

/-- The first place of a claim of a family, from a place on. -/
def findF (f : Int) : List Claim → Nat → Option Nat
  | [], _ => none
  | c :: r, i => if c.family = f then some i else findF f r (i + 1)
theorem l90 (n : Nat) (c : Claim) : ∀ (suf pre : List Claim) (k : Nat), (pre ++ suf).length ≤ 9223372036854775806 →
    loopR [L90_0 (RP (n + 1))] (k + suf.length + 1) 0 [.d (dClaims (pre ++ suf)), .d (.fn 65 [.dp (rClaim c) 0]), .d (il (pre ++ suf).length), .d (il pre.length)] =
      match findF c.family suf pre.length with
      | some j => some (0, [.d (il j)])
      | none => some (1, [])
  | [], pre, k, hl => by simp [loopR1, L90_0, findF]
  | x :: suf, pre, k, hl => by
    have ih := l90 n c suf (pre ++ [x]) k (by simpa using hl)
    simp only [List.append_assoc, List.singleton_append, List.length_append, List.length_singleton] at ih
    simp only [List.length_cons, List.length_append] at hl ih ⊢
    rw [loopR1]
    have hw : IntKind.i64.wrap ((pre.length : Int) + 1) = ((pre.length + 1 : Nat) : Int) := by rw [wrap_id (by omega) (by omega)]; simp
    have hr : (List.map rClaim (pre ++ x :: suf))[pre.length]? = some (rClaim x) := by simp
    have hlt : (pre.length : Int) < ((pre.length + (suf.length + 1) : Nat) : Int) := by omega
    have hd := d65 n x c
    simp only [L90_0, dClaims, r_ld0, r_lds, r_lss, r_cond, hlt, decide_true, if_true]
    rw [r_rowDn 4 _ _ _ _ hr rfl]
    simp only [rClaim, r_cell0, r_cells, r_callD] at hd ⊢
    rw [hd]
    simp only [r_bnd0, r_ld0, r_cond, r_out, r_liti, r_add, hw, findF, decide_eq_true_eq]
    by_cases hf : x.family = c.family
    · simp [hf]
    · rw [if_neg hf, if_neg hf]; exact ih
theorem s64 (n : Nat) (l : List Claim) (c : Claim) (hl : l.length ≤ 9223372036854775806) : FN (n + 3) 64 [dClaims l, .fn 65 [.dp (rClaim c) 0]] = some (0, [.d (bl (findF c.family l 0).isSome)]) := by
  rw [F64]
  simp only [G64, r_call]
  rw [F90]
  obtain ⟨k, hk⟩ := rounds (l := l.length) (by omega)
  have e := l90 n c l [] k (by simpa using hl)
  simp only [List.nil_append, List.length_nil, ← hk] at e
  simp only [G90, dClaims, r_lenD, List.length_map, r_loop, r_liti]
  rw [show (0 : Int) = ((0 : Nat) : Int) from rfl]
  simp only [dClaims] at e
  rw [e]
  cases findF c.family l 0 <;> simp
end Go.VE
/- Claims: what both checks hand back, whole. -/
namespace Go.VE
open Go.RowKit Go.Proofs

def okClaims (nc : Nat) : List Claim → List Claim → Bool
  | _, [] => true
  | pre, c :: r => vClaim c.family c.heads c.from_ c.to && !(findF c.family pre 0).isSome && decide (c.to < nc) && okClaims nc (pre ++ [c]) r

set_option maxRecDepth 10000 in
theorem l17 (n : Nat) (a : D) (cl : List Cell) : ∀ (suf pre : List Claim) (k : Nat), (pre ++ suf).length ≤ 9223372036854775806 →
    loopR [L17_0 (RP (n + 3))] (k + suf.length + 1) 0 [.d (dClaims (pre ++ suf)), .d (dClaims (pre ++ suf)), .d (il (pre ++ suf).length), .d (il pre.length), .d a, .d (dCells cl)] =
      if okClaims cl.length pre suf = true then some (1, []) else some (0, [.d (il 44)])
  | [], pre, k, hl => by simp [loopR1, L17_0, okClaims]
  | c :: suf, pre, k, hl => by
    have ih := l17 n a cl suf (pre ++ [c]) k (by simpa using hl)
    simp only [List.append_assoc, List.singleton_append, List.length_append, List.length_singleton] at ih
    simp only [List.length_cons, List.length_append] at hl ih ⊢
    rw [loopR1]
    have hw : IntKind.i64.wrap ((pre.length : Int) + 1) = ((pre.length + 1 : Nat) : Int) := by rw [wrap_id (by omega) (by omega)]; simp
    have hr : (List.map rClaim (pre ++ c :: suf))[pre.length]? = some (rClaim c) := by simp
    have hlt : (pre.length : Int) < ((pre.length + (suf.length + 1) : Nat) : Int) := by omega
    have hcut : (List.map rClaim (pre ++ c :: suf)).take ((pre.length : Int)).toNat = pre.map rClaim := by simp
    have h64 := s64 n pre c (by omega)
    simp only [dClaims, rClaim] at h64
    simp only [L17_0, dClaims, r_ld0, r_lds, r_lss, r_cond, hlt, decide_true, if_true]
    rw [r_rowDn 4 _ _ _ _ hr rfl, r_cutD_hi 4 _ _ _ (by simp; omega), hcut]
    simp only [rClaim, r_cell0, r_cells, r_call, r_fnD, r_dpD]
    rw [h64]
    simp only [r_bnd0, r_ld0, r_lits, s23, r_liti, r_neq, r_cond, r_out, okClaims, dCells, r_lenD, List.length_map, r_geq, r_add, hw]
    rw [if_pos (by simp [ynLit, D.isLit, bl])]
    by_cases hv : vClaim c.family c.heads c.from_ c.to = true
    · simp only [hv, if_true, Bool.true_and]
      rw [if_neg (by simp)]
      cases hf : (findF c.family pre 0).isSome with
      | true => simp
      | false =>
        simp only [Bool.false_eq_true, if_false, Bool.not_false, Bool.true_and]
        by_cases hc : (cl.length : Int) ≤ c.to
        · rw [if_pos (by simpa using hc)]
          have : decide (c.to < (cl.length : Int)) = false := by simp; omega
          simp [this]
        · rw [if_neg (by simpa using hc)]
          have : decide (c.to < (cl.length : Int)) = true := by simp; omega
          simp only [this, Bool.true_and]
          exact ih
    · simp only [hv, Bool.false_and]
      simp

def cOK (cs : List Chain) (cl : List Cell) (l : List Claim) : Int := if okGround cs cl then (if decide (1 ≤ l.length ∧ l.length ≤ 12) && okClaims cl.length [] l then 0 else 44) else 42

set_option maxRecDepth 10000 in
theorem s17 (n : Nat) (cs : List Chain) (cl : List Cell) (l : List Claim) : FN (n + 4) 17 [dChains cs, dCells cl, dClaims l] = some (0, [.d (il (cOK cs cl l))]) := by
  rw [F17]
  simp only [G17, r_call]
  rw [s15]
  simp only [r_bnd0, r_ld0, r_liti, r_neq, r_cond, r_out]
  by_cases hg : okGround cs cl = true
  · simp only [hg, if_true, cOK]
    rw [if_neg (by simp)]
    simp only [dClaims, r_lenD, List.length_map, r_call, s59, r_bnd0, r_ld0, r_not, r_cond, r_out, r_loop]
    by_cases h1 : 1 ≤ (l.length : Int) ∧ (l.length : Int) ≤ 12
    · simp only [h1, decide_true, and_self, Bool.not_true, Bool.false_eq_true, if_false]
      obtain ⟨k, hk⟩ := rounds (l := l.length) (by omega)
      have e := l17 n (dChains cs) cl l [] k (by simp; omega)
      simp only [List.nil_append, List.length_nil, dClaims, ← hk] at e
      rw [show (0 : Int) = ((0 : Nat) : Int) from rfl, e]
      have h1' : decide (1 ≤ l.length ∧ l.length ≤ 12) = true := by simp; omega
      simp only [h1', Bool.true_and]
      by_cases h2 : okClaims cl.length [] l = true
      · simp [h2]
      · simp [h2]
    · have h1' : decide (1 ≤ l.length ∧ l.length ≤ 12) = false := by simp; intros; omega
      simp [h1, h1']
  · simp [hg, cOK]

theorem l66a (n : Nat) (a b : D) (c : Claim) (post : List Claim) : ∀ (suf pre : List Claim) (k : Nat), (pre ++ suf ++ c :: post).length ≤ 9223372036854775806 →
    loopR [L66_0 (RP n)] (k + suf.length + 1) 0 [.d (dClaims (pre ++ suf ++ c :: post)), .d (il (pre ++ suf).length), .d (il pre.length), .d a, .d b] =
      if (findF c.family suf pre.length).isSome = true then some (0, [.d (bl false)]) else some (1, [.d (dClaims (pre ++ suf ++ c :: post)), .d (il (pre ++ suf).length), .d a, .d b])
  | [], pre, k, hl => by simp [loopR1, L66_0, findF]
  | x :: suf, pre, k, hl => by
    have ih := l66a n a b c post suf (pre ++ [x]) k (by simpa using hl)
    simp only [List.append_assoc, List.singleton_append, List.cons_append, List.length_append, List.length_singleton] at ih
    simp only [List.append_assoc, List.cons_append, List.length_cons, List.length_append] at hl ih ⊢
    rw [loopR1]
    have hw : IntKind.i64.wrap ((pre.length : Int) + 1) = ((pre.length + 1 : Nat) : Int) := by rw [wrap_id (by omega) (by omega)]; simp
    have hr : (List.map rClaim (pre ++ x :: (suf ++ c :: post)))[pre.length]? = some (rClaim x) := by simp
    have hr2 : (List.map rClaim (pre ++ x :: (suf ++ c :: post)))[pre.length + (suf.length + 1)]? = some (rClaim c) := by simp
    have hlt : (pre.length : Int) < ((pre.length + (suf.length + 1) : Nat) : Int) := by omega
    simp only [L66_0, dClaims, r_ld0, r_lds, r_lss, r_cond, hlt, decide_true, if_true]
    rw [r_rowDn 4 _ _ _ _ hr rfl, r_rowDn 4 _ _ _ _ hr2 rfl]
    simp only [rClaim, r_cell0, r_eql, r_cond, decide_eq_true_eq, r_out, r_liti, r_litb, r_add, hw, findF]
    by_cases hf : x.family = c.family
    · simp [hf]
    · simp only [hf, if_false]
      simp only [List.nil_append, List.length_nil, Nat.zero_add] at ih
      exact ih

set_option maxRecDepth 10000 in
theorem l66b (n : Nat) (a : D) (cl : List Cell) : ∀ (suf pre : List Claim) (k : Nat), (pre ++ suf).length ≤ 9223372036854775806 →
    loopR [L66_1 (RP (n + 2))] (k + suf.length + 1) 0 [.d (dClaims (pre ++ suf)), .d (il pre.length), .d a, .d (dCells cl)] =
      if okClaims cl.length pre suf = true then some (1, [.d (dClaims (pre ++ suf))]) else some (0, [.d (bl false)])
  | [], pre, k, hl => by simp [loopR1, L66_1, okClaims, dClaims]
  | c :: suf, pre, k, hl => by
    have ih := l66b n a cl suf (pre ++ [c]) k (by simpa using hl)
    simp only [List.append_assoc, List.singleton_append, List.length_append, List.length_singleton] at ih
    simp only [List.length_cons, List.length_append] at hl ih ⊢
    rw [loopR1]
    have hw : IntKind.i64.wrap ((pre.length : Int) + 1) = ((pre.length + 1 : Nat) : Int) := by rw [wrap_id (by omega) (by omega)]; simp
    have hr : (List.map rClaim (pre ++ c :: suf))[pre.length]? = some (rClaim c) := by simp
    have hlt : (pre.length : Int) < ((pre.length + (suf.length + 1) : Nat) : Int) := by omega
    obtain ⟨k2, hk2⟩ := rounds (l := pre.length) (by omega)
    have e := l66a (n + 2) a (dCells cl) c suf pre [] k2 (by simp; omega)
    simp only [List.nil_append, List.length_nil, ← hk2] at e
    simp only [L66_1, dClaims, r_ld0, r_lds, r_lenD, List.length_map, List.length_append, List.length_cons, r_lss, r_cond, hlt, decide_true, if_true]
    rw [r_rowDn 4 _ _ _ _ hr rfl]
    simp only [rClaim, r_cell0, r_cells, r_call, s24, r_bnd0, r_ld0, r_liti, r_litb, r_neq, r_cond, r_out, okClaims]
    by_cases hv : vClaim c.family c.heads c.from_ c.to = true
    · simp only [hv, if_true, Bool.true_and]
      rw [if_neg (by simp), r_rowDn 4 _ _ _ _ hr rfl]
      simp only [rClaim, r_cell0, r_cells, dCells, r_lenD, List.length_map, r_geq, r_cond, r_loop]
      by_cases hc : (cl.length : Int) ≤ c.to
      · rw [if_pos (by simpa using hc)]
        have : decide (c.to < (cl.length : Int)) = false := by simp; omega
        simp [this]
      · rw [if_neg (by simpa using hc)]
        have : decide (c.to < (cl.length : Int)) = true := by simp; omega
        simp only [this, Bool.and_true]
        simp only [dClaims, dCells] at e
        rw [show (0 : Int) = ((0 : Nat) : Int) from rfl, e]
        cases hf : (findF c.family pre 0).isSome with
        | true => simp
        | false =>
          simp only [Bool.false_eq_true, if_false, r_bnd1, r_ld0, r_lds, r_add, hw, Bool.not_false, Bool.true_and]
          exact ih
    · simp only [hv, Bool.false_and]
      simp

set_option maxRecDepth 10000 in
theorem s18 (n : Nat) (cs : List Chain) (cl : List Cell) (l : List Claim) (hl : l.length ≤ 9223372036854775806) : FN (n + 4) 18 [dChains cs, dCells cl, dClaims l] = some (0, [.d (il (cOK cs cl l))]) := by
  rw [F18]
  simp only [G18, r_call]
  rw [s16]
  simp only [r_bnd0, r_ld0, r_liti, r_neq, r_cond, r_out]
  by_cases hg : okGround cs cl = true
  · simp only [hg, if_true, cOK]
    rw [if_neg (by simp), F66]
    obtain ⟨k, hk⟩ := rounds (l := l.length) (by omega)
    have e := l66b n (dChains cs) cl l [] k (by simpa using hl)
    simp only [List.nil_append, List.length_nil, ← hk] at e
    simp only [G66, r_loop, r_liti]
    rw [show (0 : Int) = ((0 : Nat) : Int) from rfl, e]
    by_cases h2 : okClaims cl.length [] l = true
    · rw [if_pos h2]
      simp only [r_bnd1, r_ld0, dClaims, r_lenD, List.length_map, r_call, s61, r_bnd0, r_out, r_not, r_cond]
      by_cases h1 : 1 ≤ (l.length : Int) ∧ (l.length : Int) ≤ 12
      · have h1' : decide (1 ≤ l.length ∧ l.length ≤ 12) = true := by simp; omega
        simp [h1, h1', h2]
      · have h1' : decide (1 ≤ l.length ∧ l.length ≤ 12) = false := by simp; intros; omega
        simp [h1, h1']
    · rw [if_neg h2]
      simp [h2]
  · simp [hg, cOK]
end Go.VE
/- Grow, Concat, the two Turns, SameClaims. -/
namespace Go.VE
open Go.RowKit Go.Proofs

section
variable (Fn : Nat → List D → Out) (FnD : D → List Sh → List D → Out) (m : Nat)
theorem r_gap (bs : Nat) (n : Int) (k : Nat → Out) (h : 0 < n ∧ bs * n ≤ 140737488355328 ∧ n ≤ 9223372036854775807) : (real Fn FnD m).gap bs (il n) k = k n.toNat := by simp [real, il, h]
theorem r_cutNat (z : Int) (n : Nat) (k : Nat → Nat → Out) (e : Out) (h : 0 ≤ z ∧ z ≤ n) : (real Fn FnD m).cut none (some (il z)) n k e = k 0 z.toNat := by simp [real, oIntD_n, oIntD_s, h]
theorem r_nilDD (k : Out) : (real Fn FnD m).nilD (.lit (.slice none 0 0)) k = k := rfl
theorem r_litS : (real Fn FnD m).lit (.slice none 0 0) = .lit (.slice none 0 0) := rfl
theorem r_cutDn (s : Nat) (z : Int) (k : D → Out) (h : z = 0) : (real Fn FnD m).cutD s (.lit (.slice none 0 0)) none (some (il z)) k = k (.lit (.slice none 0 0)) := by subst h; rfl
end

theorem s89 (n : Nat) (m : Int) (h : 0 < m ∧ m ≤ 4398046511104) : FN (n + 1) 89 [.lit (.slice none 0 0), il m] = some (0, [.r []]) := by
  rw [F89]
  have hw : IntKind.i64.wrap (m - IntKind.i64.wrap (0 - 0)) = m := by
    rw [show IntKind.i64.wrap ((0 : Int) - 0) = 0 from rfl, Int.sub_zero]; exact wrap_id (by omega) (by omega)
  have h1 : decide (m < 0) = false := by simp; omega
  have h2 : decide (0 < m) = true := by simp; omega
  simp only [G89, r_liti, r_litS, r_lss, r_cond, h1, r_bnd0, r_ld0, r_lds, r_nilDD, r_lenN, r_sub, hw, r_gtr, h2, Bool.false_eq_true, if_false, if_true, r_out]
  rw [r_cutDn _ _ _ _ _ _ rfl]
  simp only [r_nilDD]
  rw [r_gap _ _ _ _ _ _ ⟨h.1, by omega, by omega⟩]
  simp only [r_eqN, r_leN, r_len, r_repl, r_out, r_seg0, List.length_replicate, if_true]
  rw [r_cutNat _ _ _ _ _ _ _ ⟨by omega, by omega⟩]
  simp

set_option maxRecDepth 10000 in
theorem l60_0 (n k : Nat) (r1 r2 : Rr) (hl : r1.length + r2.length ≤ 4398046511104) :
    loopR [L60_0 (RP n)] (k + 2 + 1) 0 [.d (.sl 1 [[.sl 4 r1], [.sl 4 r2]]), .d (il 0), .d (.sl 1 [[.sl 4 r1], [.sl 4 r2]]), .d (il ((2 : Nat) : Int)), .d (il ((0 : Nat) : Int))] =
      some (0, [.d (.sl 1 [[.sl 4 r1], [.sl 4 r2]]), .d (il ((r1.length + r2.length : Nat) : Int))]) := by
  have w1 : IntKind.i64.wrap (0 + (r1.length : Int)) = ((r1.length : Nat) : Int) := by rw [wrap_id (by omega) (by omega)]; simp
  have w2 : IntKind.i64.wrap ((r1.length : Int) + (r2.length : Int)) = ((r1.length + r2.length : Nat) : Int) := by rw [wrap_id (by omega) (by omega)]; simp
  have i1 : IntKind.i64.wrap (((0 : Nat) : Int) + 1) = ((1 : Nat) : Int) := rfl
  have i2 : IntKind.i64.wrap (((1 : Nat) : Int) + 1) = ((2 : Nat) : Int) := rfl
  have d1 : decide (((r1.length : Nat) : Int) < 0) = false := by simp
  have d2 : decide (((r1.length + r2.length : Nat) : Int) < 0) = false := by simp; omega
  rw [loopR1]
  simp only [L60_0, r_ld0, r_lds, r_lss, r_cond, r_liti]
  rw [if_pos (by decide), r_rowDn 1 _ 0 _ [.sl 4 r1] rfl rfl]
  simp only [r_cell0, r_lenD, r_add, w1, r_lss, d1, r_cond, Bool.false_eq_true, if_false, i1]
  rw [loopR1]
  simp only [L60_0, r_ld0, r_lds, r_lss, r_cond, r_liti]
  rw [if_pos (by decide), r_rowDn 1 _ 1 _ [.sl 4 r2] rfl rfl]
  simp only [r_cell0, r_lenD, r_add, w2, r_lss, d2, r_cond, Bool.false_eq_true, if_false, i2]
  rw [loopR1]
  simp only [L60_0, r_ld0, r_lds, r_lss, r_cond, r_liti]
  rw [if_neg (by decide)]
  rfl

set_option maxRecDepth 10000 in
theorem l60_1 (n k : Nat) (r1 r2 : Rr) (hl : r1.length + r2.length ≤ 4398046511104) :
    loopR [L60_1 (RP n)] (k + 2 + 1) 0 [.n 0, .n 0, .d (.sl 1 [[.sl 4 r1], [.sl 4 r2]]), .d (il ((2 : Nat) : Int)), .d (il ((0 : Nat) : Int)), .r []] =
      some (0, [.n (r1.length + r2.length), .n (r1.length + r2.length), .r (r1 ++ r2)]) := by
  have i1 : IntKind.i64.wrap (((0 : Nat) : Int) + 1) = ((1 : Nat) : Int) := rfl
  have i2 : IntKind.i64.wrap (((1 : Nat) : Int) + 1) = ((2 : Nat) : Int) := rfl
  have hm : (maxLen : Nat) = 9223372036854775807 := rfl
  rw [loopR1]
  simp only [L60_1, r_ld0, r_lds, r_lss, r_cond, r_liti]
  rw [if_pos (by decide), r_rowDn 1 _ 0 _ [.sl 4 r1] rfl rfl]
  simp only [r_cell0, r_rowsD, r_ln0, r_lns, r_lr0, r_lrs, r_len, r_eqN, List.length_nil, if_true, r_addN, Nat.zero_add]
  rw [r_fits _ _ _ (by omega) (by omega)]
  simp only [r_add, i1, r_app, List.nil_append]
  rw [loopR1]
  simp only [L60_1, r_ld0, r_lds, r_lss, r_cond, r_liti]
  rw [if_pos (by decide), r_rowDn 1 _ 1 _ [.sl 4 r2] rfl rfl]
  simp only [r_cell0, r_rowsD, r_ln0, r_lns, r_lr0, r_lrs, r_len, r_eqN, if_true, r_addN]
  rw [r_fits _ _ _ (by omega) (by omega)]
  simp only [r_add, i2, r_app]
  rw [loopR1]
  simp only [L60_1, r_ld0, r_lds, r_lss, r_cond, r_liti]
  rw [if_neg (by decide)]
  rfl

theorem s60 (n : Nat) (r1 r2 : Rr) (hl : r1.length + r2.length ≤ 4398046511104) (hp : 0 < r1.length + r2.length) :
    FN (n + 2) 60 [.sl 1 [[.sl 4 r1], [.sl 4 r2]]] = some (0, [.r (r1 ++ r2)]) := by
  rw [F60]
  obtain ⟨k, hk⟩ := rounds (l := 2) (by omega)
  have e0 := l60_0 (n + 1) k r1 r2 hl
  have e1 := l60_1 (n + 1) k r1 r2 hl
  rw [← hk] at e0 e1
  have h89 := s89 n ((r1.length + r2.length : Nat) : Int) ⟨by omega, by omega⟩
  simp only [G60, r_lenD, r_loop, r_liti, r_litS]
  simp only [List.length_cons, List.length_nil, Nat.zero_add, Nat.reduceAdd]
  rw [show (0 : Int) = ((0 : Nat) : Int) from rfl]
  rw [show (il ((0 : Nat) : Int)) = il 0 from rfl] at e0
  erw [e0]
  simp only [r_bnd0, r_ld0, r_lds, r_call, h89, r_lr0, r_len, r_lenD, List.length_nil, r_loop]
  simp only [List.length_cons, List.length_nil, Nat.zero_add, Nat.reduceAdd]
  erw [e1]
  simp [r_bnd0, r_ln0, r_lns, r_lr0, r_lrs, r_len, r_eqN, r_leN, r_out, r_seg0]
  exact List.take_of_length_le (by simp)
end Go.VE
/- The two Turns. -/
namespace Go.VE
open Go.RowKit Go.Proofs

theorem cOK_len {cs : List Chain} {cl : List Cell} {l : List Claim} (h : cOK cs cl l = 0) : 1 ≤ l.length ∧ l.length ≤ 12 := by
  unfold cOK at h
  split at h
  · split at h
    · rename_i h2; simp at h2; omega
    · simp at h
  · simp at h

end Go.VE
/- Whether claims are the same; the law DriftChecks. -/
namespace Go.VE
open Go.RowKit Go.Proofs

end Go.VE
/- Drifts: whether they are ones, how many links of each chain they have. -/
namespace Go.VE
open Go.RowKit Go.Proofs

structure Drift where
  fr : Int
  to_ : Int
  deriving DecidableEq
def rDrift (d : Drift) : List D := [il d.fr, il d.to_]
def dDrifts (l : List Drift) : D := .sl 2 (l.map rDrift)
def isD (cl : List Cell) (a b : Int) : Bool := decide (0 ≤ a ∧ a ≤ b ∧ b < cl.length)
def rI (v : List Int) : Rr := v.map fun z => [il z]
def dI (v : List Int) : D := .sl 1 (rI v)

theorem s77 (n : Nat) (x : D) (cl : List Cell) (a b : Int) : FN (n + 2) 77 [x, dCells cl, il a, il b] = some (0, [.d (bl (isD cl a b))]) := by
  rw [F77]
  simp [G77, s61, dCells, isD]
  by_cases h1 : 0 ≤ a <;> by_cases h2 : a ≤ b <;> simp [h1, h2]

/-! ### links -/
def seg (cl : List Cell) (a b : Int) : List Cell := (cl.take (b + 1).toNat).drop a.toNat
theorem okCells_mem {cs : List Chain} : ∀ {cl : List Cell}, okCells cs cl = true → ∀ c ∈ cl, vCell c.chain c.links c.worth = true ∧ ∃ k, findC c.chain cs 0 = some k ∧ k < cs.length
  | [], _, c, h => by cases h
  | x :: cl, ho, c, h => by
    simp only [okCells, Bool.and_eq_true] at ho
    rcases List.mem_cons.1 h with rfl | h
    · refine ⟨ho.1.1, ?_⟩
      obtain ⟨k, hk⟩ := Option.isSome_iff_exists.1 ho.1.2
      have := findC_lt hk
      exact ⟨k, hk, by omega⟩
    · exact okCells_mem ho.2 c h
end Go.VE
/- How many links of each chain a drift has. -/
namespace Go.VE
open Go.RowKit Go.Proofs

theorem rI_set (v : List Int) (k : Nat) (x : Int) : rI (v.set k x) = (rI v).set k [il x] := by simp [rI, List.map_set]
theorem rI_at {v : List Int} {k : Nat} {z : Int} (h : v[k]? = some z) : (rI v)[k]? = some [il z] := by simp [rI, h]
theorem rI_len (v : List Int) : (rI v).length = v.length := by simp [rI]
theorem seg_mem {cl : List Cell} {a b : Int} {c : Cell} (h : c ∈ seg cl a b) : c ∈ cl := List.mem_of_mem_take (List.mem_of_mem_drop h)
theorem seg_len (cl : List Cell) (a b : Int) : (seg cl a b).length ≤ cl.length := by simp [seg]; omega
theorem okG_cells {cs : List Chain} {cl : List Cell} (h : okGround cs cl = true) : ∀ c ∈ cl, vCell c.chain c.links c.worth = true ∧ ∃ k, findC c.chain cs 0 = some k ∧ k < cs.length := by
  simp only [okGround, Bool.and_eq_true] at h
  exact okCells_mem h.2
theorem okG_len {cs : List Chain} {cl : List Cell} (h : okGround cs cl = true) : 1 ≤ cs.length ∧ cs.length ≤ 6 ∧ 1 ≤ cl.length ∧ cl.length ≤ 24 := by
  simp only [okGround, Bool.and_eq_true, decide_eq_true_eq] at h
  exact h.1.1
end Go.VE
/- Lengths of drifts: spans, what is truly so long. -/
namespace Go.VE
open Go.RowKit Go.Proofs
set_option maxRecDepth 100000

theorem mul_bnd {z c A B : Int} (h1 : -A ≤ z) (h2 : z ≤ A) (h3 : 0 ≤ c) (h4 : c ≤ B) (hA : 0 ≤ A) : -(A * B) ≤ z * c ∧ z * c ≤ A * B := by
  have a1 := Int.mul_le_mul_of_nonneg_right h2 h3
  have a2 := Int.mul_le_mul_of_nonneg_left h4 hA
  have a3 := Int.mul_le_mul_of_nonneg_right h1 h3
  rw [Int.neg_mul] at a3
  exact ⟨by omega, by omega⟩
/-! ### spans -/
end Go.VE
/- What drifts are worth. -/
namespace Go.VE
open Go.RowKit Go.Proofs
set_option maxRecDepth 100000

theorem s98 (n : Nat) (v : List Int) (hl : v.length ≤ 1000) (hv : ∀ z ∈ v, -1000000 ≤ z ∧ z ≤ 1000000) : FN (n + 1) 98 [dI v] = some (0, [.d (il v.sum)]) := by
  rw [F98]
  have e := range_loop (β := Int) v (by omega) (L98_0 (RP n)) (fun i p => [.d (il p), .d (dI v), .d (il v.length), .d (il (i : Int))]) (fun i p => -1000000 * i ≤ p ∧ p ≤ 1000000 * i)
    (fun i r p => some (0, [.d (il (p + r.sum))])) (by intro p k hI; simp [L98_0])
    (by
      intro i z r p k hz hd hi hw hI ih
      have hzb := hv z (List.mem_of_getElem? hz)
      have w1 : IntKind.i64.wrap (p + z) = p + z := wrap_id (by omega) (by omega)
      have ih' := ih (p + z) (by omega)
      simp [L98_0, dI, hi, rI, hz, w1, hw, -getElem?_pos] at ih' ⊢
      rw [ih']
      simp; omega)
    M0 0 (by simp) (M0_big (by omega))
  simp only [G98, dI, r_lenD, rI_len, r_loop, r_liti]
  simp only [dI] at e
  rw [show (il 0) = il ((0 : Nat) : Int) from rfl] at e ⊢
  rw [e]
  simp
theorem s98n (n : Nat) : FN (n + 1) 98 [.lit (.slice none 0 0)] = some (0, [.d (il 0)]) := by
  rw [F98]
  simp [G98]
  rw [show M0 = 18446744073709551615 + 1 from rfl, loopR1]
  simp [L98_0]

def worthV (cl : List Cell) (a b : Int) : Int := ((seg cl a b).map Cell.worth).sum
def okWorth (cl : List Cell) : Prop := cl.length ≤ 24 ∧ ∀ c ∈ cl, 0 ≤ c.worth ∧ c.worth ≤ 10000
theorem okG_worth {cs : List Chain} {cl : List Cell} (h : okGround cs cl = true) : okWorth cl := by
  refine ⟨(okG_len h).2.2.2, fun c hc => ?_⟩
  have := (okG_cells h c hc).1
  simp only [vCell, decide_eq_true_eq] at this
  omega
def res81 (v : List Int) : Out := match v with
  | [] => some (0, [])
  | z :: r => some (1, [.n (z :: r).length, .n (z :: r).length, .r (rI (z :: r))])

theorem l81 (n : Nat) (cl : List Cell) (b : Int) (u x : D) (hc : cl.length ≤ 24) (i0 : Nat) (hi0 : i0 ≤ 4611686018427387904) (hb : b ≤ 4611686018427387904) :
    loopR [L81_0 (RP n), L81_1 (RP n)] M0 0 [.d (il i0), .d u, .d (il b), .d x, .d (dCells cl)] = res81 (((cl.take (b + 1).toNat).drop i0).map Cell.worth) := by
  have := loop_ms (σ := Nat × List Int) [L81_0 (RP n), L81_1 (RP n)]
    (fun s => match s.2 with
      | [] => (0, [.d (il s.1), .d u, .d (il b), .d x, .d (dCells cl)])
      | z :: r => (1, [.n (z :: r).length, .n (z :: r).length, .d (il s.1), .r (rI (z :: r)), .d u, .d (il b), .d x, .d (dCells cl)]))
    (fun s => cl.length - s.1) (fun s => s.1 ≤ 4611686018427387904 ∧ (s.2 ≠ [] → s.2.length ≤ s.1 ∧ s.1 ≤ cl.length))
    (fun s => res81 (s.2 ++ ((cl.take (b + 1).toNat).drop s.1).map Cell.worth)) ?_ M0 (i0, []) ⟨by simp only; omega, fun h => absurd rfl h⟩ (M0_big (by simp only; omega))
  · simpa using this
  · rintro ⟨i, acc⟩ k ⟨hi, hacc⟩ ih
    simp only at hi hacc
    by_cases h1 : (i : Int) ≤ b ∧ i < cl.length
    · have hlt : i < (cl.take (b + 1).toNat).length := by simp; omega
      have hd := List.drop_eq_getElem_cons hlt
      have hci : cl[i]? = some cl[i] := by simp [h1.2]
      have hw := wrap_succ (i := i) (n := cl.length) h1.2 (by omega)
      have ih' := ih (i + 1, acc ++ [cl[i].worth]) ⟨by simp only; omega, fun _ => by
        simp only [List.length_append, List.length_singleton]
        by_cases ha : acc = []
        · subst ha; simp; omega
        · have := hacc ha; omega⟩ (by simp only; omega)
      simp only [List.getElem_take] at hd
      cases acc with
      | nil =>
        refine ⟨_, rfl, ?_⟩
        simp [hd] at ih' ⊢
        simp [L81_0, h1, dCells, hci, rCell, hw, rI, -getElem?_pos] at ih' ⊢
        simpa using ih'
      | cons z r =>
        refine ⟨_, rfl, ?_⟩
        have hz := hacc (by simp)
        simp only [List.length_cons] at hz
        simp [hd] at ih' ⊢
        have hf : (r.length + 1 + 1) * 8 ≤ 140737488355328 ∧ r.length + 1 + 1 ≤ 9223372036854775807 := by omega
        simp [L81_1, h1, dCells, hci, rCell, hw, rI, hf, -getElem?_pos] at ih' ⊢
        exact ih'
    · have hdr : (cl.take (b + 1).toNat).drop i = [] := by simp; omega
      cases acc with
      | nil =>
        refine ⟨_, rfl, ?_⟩
        simp [L81_0, dCells, hdr, res81]
        by_cases h2 : (i : Int) ≤ b
        · have : ¬ i < cl.length := fun h => h1 ⟨h2, h⟩
          simp [h2, this]
        · simp [h2]
      | cons z r =>
        refine ⟨_, rfl, ?_⟩
        simp [L81_1, dCells, hdr, res81]
        by_cases h2 : (i : Int) ≤ b
        · have : ¬ i < cl.length := fun h => h1 ⟨h2, h⟩
          simp [h2, this]
        · simp [h2]
theorem s81 (n : Nat) (cl : List Cell) (a b : Int) (x : D) (hc : okWorth cl) (ha : a ≤ 4611686018427387904) (hb : b ≤ 4611686018427387904) :
    FN (n + 2) 81 [x, dCells cl, il a, il b] = some (0, [.d (il (worthV cl a b))]) := by
  rw [F81]
  have e := l81 (n + 1) cl b (il a) x hc.1 a.toNat (by omega) hb
  rw [show ((a.toNat : Nat) : Int) = max a 0 by omega] at e
  simp only [G81, r_mm, if_true, r_loop, r_liti, e, worthV, seg]
  have hlen : (((cl.take (b + 1).toNat).drop a.toNat).map Cell.worth).length ≤ 24 := by
    have := hc.1
    simp; omega
  have hv : ∀ z ∈ ((cl.take (b + 1).toNat).drop a.toNat).map Cell.worth, -1000000 ≤ z ∧ z ≤ 1000000 := by
    intro z hz
    obtain ⟨c, hc1, rfl⟩ := List.mem_map.1 hz
    have := hc.2 c (List.mem_of_mem_take (List.mem_of_mem_drop hc1))
    omega
  generalize ((cl.take (b + 1).toNat).drop a.toNat).map Cell.worth = v at hlen hv
  cases v with
  | nil => simp [res81, s98n]
  | cons z r =>
    have := s98 n (z :: r) (by omega) hv
    simp only [dI] at this
    simp [res81, rI_len]
    rw [List.take_of_length_le (by simp [rI_len]), this]
    simp
theorem s82 (n : Nat) (cl : List Cell) (a b : Int) (x : D) (hc : okWorth cl) (ha0 : 0 ≤ a) (ha : a ≤ 4611686018427387904) (hb : b ≤ 4611686018427387904) :
    FN (n + 1) 82 [x, dCells cl, il a, il b] = some (0, [.d (il (worthV cl a b))]) := by
  rw [F82]
  have := loop_ms (σ := Nat × Int) [L82_0 (RP n)] (fun s => (0, [.d (il b), .d (il s.2), .d (il s.1), .d x, .d (dCells cl)]))
    (fun s => cl.length - s.1) (fun s => s.1 ≤ 4611686018427387904 ∧ 0 ≤ s.2 ∧ s.2 + 10000 * (cl.length - s.1 : Nat) ≤ 240000)
    (fun s => some (0, [.d (il (s.2 + (((cl.take (b + 1).toNat).drop s.1).map Cell.worth).sum))])) ?_ M0 (a.toNat, 0) ⟨by simp only; omega, by simp only; omega, by have := hc.1; simp only; omega⟩ (M0_big (by have := hc.1; simp only; omega))
  · simp only [G82, r_loop, r_liti, worthV, seg]
    rw [show ((a.toNat : Nat) : Int) = a by omega] at this
    rw [this]; simp
  · rintro ⟨i, p⟩ k ⟨hi, hp0, hp⟩ ih
    simp only at hi hp hp0
    have hcl := hc.1
    refine ⟨_, rfl, ?_⟩
    by_cases h1 : (i : Int) ≤ b ∧ i < cl.length
    · have hlt : i < (cl.take (b + 1).toNat).length := by simp; omega
      have hd := List.drop_eq_getElem_cons hlt
      simp only [List.getElem_take] at hd
      have hci : cl[i]? = some cl[i] := by simp [h1.2]
      have hw := wrap_succ (i := i) (n := cl.length) h1.2 (by have := hc.1; omega)
      have hcw := hc.2 _ (List.mem_of_getElem? hci)
      have w1 : IntKind.i64.wrap (p + cl[i].worth) = p + cl[i].worth := wrap_id (by omega) (by omega)
      have ih' := ih (i + 1, p + cl[i].worth) ⟨by simp only; omega, by simp only; omega, by simp only; omega⟩ (by simp only; omega)
      simp [L82_0, h1, dCells, hci, rCell, hw, w1, hd, -getElem?_pos] at ih' ⊢
      simpa [Int.add_assoc] using ih'
    · have hdr : (cl.take (b + 1).toNat).drop i = [] := by simp; omega
      simp [L82_0, dCells, hdr]
      by_cases h2 : (i : Int) ≤ b
      · have : ¬ i < cl.length := fun h => h1 ⟨h2, h⟩
        simp [h2, this]
      · simp [h2]
end Go.VE
/- How long drifts are, which one is longer, what they are worth, which gain is greater: both programs. -/
namespace Go.VE
open Go.RowKit Go.Proofs
set_option maxRecDepth 100000

theorem rI_take (v : List Int) (n : Nat) (h : v.length ≤ n) : (rI v).take n = rI v := List.take_of_length_le (by rw [rI_len]; exact h)
/-! ### longer -/
end Go.VE
/- What is truly so long, what it is worth, which gain is greater; the law DriftLengths. -/
namespace Go.VE
open Go.RowKit Go.Proofs
set_option maxRecDepth 100000

/-! ### gains -/
def isG (a b : Int) : Bool := decide (0 ≤ a ∧ a ≤ 1000000 ∧ 1 ≤ b ∧ b ≤ 1000000)
def cmpI (x y : Int) : Int := if x < y then -1 else if y < x then 1 else 0
theorem s69 (n : Nat) (a b : Int) : FN (n + 2) 69 [il a, il b] = some (0, [.d (bl (isG a b))]) := by
  rw [F69]
  simp only [G69, r_call, r_liti, s59, r_bnd0, r_ld0, r_cond, r_out, r_litb, isG]
  by_cases h : 0 ≤ a ∧ a ≤ 1000000
  · simp [h]
  · have : ¬ (0 ≤ a ∧ a ≤ 1000000 ∧ 1 ≤ b ∧ b ≤ 1000000) := fun h' => h ⟨h'.1, h'.2.1⟩
    simp only [h, this, decide_false, Bool.false_eq_true, if_false]
theorem s83 (n : Nat) (a b : Int) : FN (n + 2) 83 [il a, il b] = some (0, [.d (bl (isG a b))]) := by
  rw [F83]
  simp only [G83, r_call, r_liti, s61, r_bnd0, r_ld0, r_cond, r_out, r_litb, isG]
  by_cases h : 0 ≤ a ∧ a ≤ 1000000
  · simp [h]
  · have : ¬ (0 ≤ a ∧ a ≤ 1000000 ∧ 1 ≤ b ∧ b ≤ 1000000) := fun h' => h ⟨h'.1, h'.2.1⟩
    simp only [h, this, decide_false, Bool.false_eq_true, if_false]
theorem s106 (n : Nat) (a : Int) : FN (n + 1) 106 [il a] = some (0, [.d (bl false)]) := by
  rw [F106]; simp [G106]
theorem s93 (n : Nat) (a b : Int) : FN (n + 2) 93 [il a, il b] = some (0, [.d (il (cmpI a b))]) := by
  rw [F93]
  simp only [G93, r_call, s106, r_bnd0, r_ld0, r_cond, Bool.false_eq_true, if_false, r_lss, r_gtr, r_out, r_liti, cmpI, decide_eq_true_eq]
  split
  · rfl
  · split <;> rfl
/-- The product of numbers that a gain has. -/
theorem gmul {a b : Int} (ha : -4294967296 ≤ a ∧ a ≤ 4294967296) (hb : 0 ≤ b ∧ b ≤ 1000000) : IntKind.i64.wrap (a * b) = a * b := by
  have := mul_bnd (z := a) (c := b) (A := 4294967296) (B := 1000000) (by omega) (by omega) hb.1 hb.2 (by omega)
  exact wrap_id (by omega) (by omega)
theorem s70 (n : Nat) (a b c d : Int) (ha : -4294967296 ≤ a ∧ a ≤ 4294967296) (hb : 0 ≤ b ∧ b ≤ 1000000) (hc : -4294967296 ≤ c ∧ c ≤ 4294967296) (hd : 0 ≤ d ∧ d ≤ 1000000) : FN (n + 3) 70 [il a, il b, il c, il d] = some (0, [.d (il (cmpI (a * d) (c * b)))]) := by
  rw [F70]
  simp only [G70, r_mul, gmul ha hd, gmul hc hb, r_call, s93, r_bnd0, r_ld0, r_out]
theorem s56 (n : Nat) (a b c d : Int) (ha : -4294967296 ≤ a ∧ a ≤ 4294967296) (hb : 0 ≤ b ∧ b ≤ 1000000) (hc : -4294967296 ≤ c ∧ c ≤ 4294967296) (hd : 0 ≤ d ∧ d ≤ 1000000) : FN (n + 1) 56 [il a, il b, il c, il d] = some (0, [.d (bl (decide (a * d < c * b)))]) := by
  rw [F56]
  simp only [G56, r_mul, gmul ha hd, gmul hc hb, r_lss, r_out]
end Go.VE
/- The ground and the claims that numbers determine are valid. -/
namespace Go.VE
open Go.RowKit Go.Proofs
set_option maxRecDepth 100000

end Go.VE
/- What is made is valid; the law DriftTurns. -/
namespace Go.VE
open Go.RowKit Go.Proofs
set_option maxRecDepth 100000

theorem findF_mem {f : Int} : ∀ {l : List Claim} {i : Nat}, (findF f l i).isSome = true → ∃ c ∈ l, c.family = f
  | [], i, h => by cases h
  | c :: l, i, h => by
    simp only [findF] at h
    split at h
    · rename_i hc; exact ⟨c, by simp, hc⟩
    · obtain ⟨d, hd, e⟩ := findF_mem h; exact ⟨d, by simp [hd], e⟩
theorem okL_of (nk : Nat) : ∀ (l pre : List Claim), (∀ c ∈ l, vClaim c.family c.heads c.from_ c.to = true ∧ c.to < nk) → ((pre ++ l).map (·.family)).Nodup → okClaims nk pre l = true
  | [], pre, _, _ => rfl
  | c :: l, pre, h, hn => by
    simp only [okClaims, Bool.and_eq_true, decide_eq_true_eq]
    have hc := h c (by simp)
    refine ⟨⟨⟨hc.1, ?_⟩, hc.2⟩, okL_of nk l (pre ++ [c]) (fun c hc => h c (by simp [hc])) (by simpa using hn)⟩
    cases hf : (findF c.family pre 0).isSome with
    | false => rfl
    | true =>
      obtain ⟨d, hd, e⟩ := findF_mem hf
      simp only [List.map_append, List.map_cons, List.nodup_append] at hn
      exact absurd e (hn.2.2 d.family (List.mem_map.2 ⟨d, hd, rfl⟩) c.family (by simp))
/-! ### turning -/
end Go.VE
