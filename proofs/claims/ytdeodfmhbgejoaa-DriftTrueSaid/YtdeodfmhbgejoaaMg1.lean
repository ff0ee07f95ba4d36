/- DriftTrue returns true for whatever numbers of a ground and claims, two drifts by numbers, and links; no condition. -/
import Derived.Test.YtdeodfmhbgejoaaMg0
import Derived.Test.YtdeodfmhbgejoaaMe
import Derived.Test.YtdeodfmhbgejoaaRows
import Derived.Test.YtdeodfmhbgejoaaMt
/- True lengths lie within the span, both ends of which are attained. -/
namespace Go.VE
open Go.RowKit Go.Proofs
set_option maxRecDepth 100000

/-! ### the plain law -/
def dot : List Int → List Int → Int
  | v :: vs, e :: es => v * e + dot vs es
  | _, _ => 0
theorem trZ_dot : ∀ (v e : List Int) (p : Int), trZ (v.zip e) p = p + dot v e
  | [], _, p => by simp [trZ, dot]
  | _ :: _, [], p => by simp [trZ, dot]
  | v :: vs, e :: es, p => by simp only [List.zip_cons_cons, trZ, trZ_dot vs es, dot]; omega
theorem trV_dot (v e : List Int) : trV v e = dot v e := by unfold trV; rw [trZ_dot]; omega
def sLo : List Int → List Chain → Int
  | v :: vs, c :: cs => min (v * c.lo) (v * c.hi) + sLo vs cs
  | _, _ => 0
def sHi : List Int → List Chain → Int
  | v :: vs, c :: cs => max (v * c.lo) (v * c.hi) + sHi vs cs
  | _, _ => 0
theorem spanZ_s : ∀ (v : List Int) (cs : List Chain) (p : Int × Int), spanZ (v.zip cs) p = (p.1 + sLo v cs, p.2 + sHi v cs)
  | [], _, p => by simp [spanZ, sLo, sHi]
  | _ :: _, [], p => by simp [spanZ, sLo, sHi]
  | v :: vs, c :: cs, p => by
    simp only [List.zip_cons_cons, spanZ, spanZ_s vs cs, sLo, sHi]
    ext <;> simp only <;> omega
theorem spanV_s (cs : List Chain) (v : List Int) : spanV cs v = (sLo v cs, sHi v cs) := by unfold spanV; rw [spanZ_s]; simp
/-- Links within their chains. -/
def Lk : List Int → List Chain → Prop
  | [], [] => True
  | e :: es, c :: cs => c.lo ≤ e ∧ e ≤ c.hi ∧ Lk es cs
  | _, _ => False
theorem mul_between {v lo hi e : Int} (h1 : lo ≤ e) (h2 : e ≤ hi) : min (v * lo) (v * hi) ≤ v * e ∧ v * e ≤ max (v * lo) (v * hi) := by
  rcases Int.le_total 0 v with h | h
  · have a := Int.mul_le_mul_of_nonneg_left h1 h
    have b := Int.mul_le_mul_of_nonneg_left h2 h
    omega
  · have a := Int.mul_le_mul_of_nonpos_left h h1
    have b := Int.mul_le_mul_of_nonpos_left h h2
    omega
theorem dot_in : ∀ (v e : List Int) (cs : List Chain), Lk e cs → sLo v cs ≤ dot v e ∧ dot v e ≤ sHi v cs
  | [], e, cs, h => by simp [dot, sLo, sHi]
  | v :: vs, [], [], h => by simp [dot, sLo, sHi]
  | _ :: _, [], _ :: _, h => h.elim
  | _ :: _, _ :: _, [], h => h.elim
  | v :: vs, e :: es, c :: cs, h => by
    have h1 := dot_in vs es cs h.2.2
    have h2 := mul_between (v := v) h.1 h.2.1
    simp only [dot, sLo, sHi]; omega
theorem Lk_at : ∀ {e : List Int} {cs : List Chain}, e.length = cs.length → (∀ (k : Nat) z c, e[k]? = some z → cs[k]? = some c → c.lo ≤ z ∧ z ≤ c.hi) → Lk e cs
  | [], [], _, _ => trivial
  | [], _ :: _, h, _ => by simp at h
  | _ :: _, [], h, _ => by simp at h
  | e :: es, c :: cs, hl, h => by
    have h0 := h 0 e c rfl rfl
    exact ⟨h0.1, h0.2, Lk_at (by simpa using hl) fun k z d hz hd => h (k + 1) z d (by simpa using hz) (by simpa using hd)⟩
theorem lkOK_Lk : ∀ {e : List Int} {cs : List Chain}, Lk e cs → lkOK e cs = true
  | [], [], _ => rfl
  | e :: es, c :: cs, h => by
    have := lkOK_Lk h.2.2
    simp only [lkOK, List.zip_cons_cons, List.all_cons, Bool.and_eq_true, decide_eq_true_eq] at this ⊢
    exact ⟨⟨h.1, h.2.1⟩, this⟩
  | [], _ :: _, h => h.elim
  | _ :: _, [], h => h.elim
/-- With each link at the end that bits choose. -/
def ends (f : Nat → Bool) : Nat → List Chain → List Int
  | _, [] => []
  | k, c :: cs => (if f k then c.hi else c.lo) :: ends f (k + 1) cs
theorem ends_at (f : Nat → Bool) : ∀ (cs : List Chain) (i k : Nat) (c : Chain), cs[k]? = some c → (ends f i cs)[k]? = some (if f (i + k) then c.hi else c.lo)
  | [], i, k, c, h => by simp at h
  | d :: cs, i, 0, c, h => by simp at h; subst h; rfl
  | d :: cs, i, k + 1, c, h => by
    have := ends_at f cs (i + 1) k c (by simpa using h)
    rw [show i + 1 + k = i + (k + 1) by omega] at this
    simpa [ends] using this
theorem ends_len (f : Nat → Bool) : ∀ (cs : List Chain) (i : Nat), (ends f i cs).length = cs.length
  | [], i => rfl
  | c :: cs, i => by simp [ends, ends_len f cs]
theorem ends_eq {f : Nat → Bool} {e : List Int} {cs : List Chain} (hl : e.length = cs.length) (h : ∀ (k : Nat) z c, e[k]? = some z → cs[k]? = some c → z = if f k then c.hi else c.lo) : e = ends f 0 cs := by
  apply List.ext_getElem?
  intro k
  by_cases hk : k < cs.length
  · have h1 : cs[k]? = some cs[k] := by simp [hk]
    have h2 : e[k]? = some e[k] := by simp [show k < e.length by omega]
    rw [ends_at f cs 0 k _ h1, h2, h k _ _ h2 h1, Nat.zero_add]
  · rw [List.getElem?_eq_none (by omega), List.getElem?_eq_none (by rw [ends_len]; omega)]
/-- Bits by which the least sum is attained, the greatest one by the others. -/
def loBits : List Int → List Bool
  | [] => []
  | v :: vs => decide (v < 0) :: loBits vs
theorem dot_lo (f : Nat → Bool) : ∀ (v : List Int) (cs : List Chain) (i : Nat), (∀ c ∈ cs, c.lo ≤ c.hi) → (∀ (k : Nat) z, v[k]? = some z → (f (i + k) = decide (z < 0))) → v.length = cs.length → dot v (ends f i cs) = sLo v cs
  | [], [], i, _, _, _ => rfl
  | [], _ :: _, _, _, _, h => by simp at h
  | _ :: _, [], _, _, _, h => by simp at h
  | v :: vs, c :: cs, i, hc, hf, hl => by
    have ih := dot_lo f vs cs (i + 1) (fun c h => hc c (by simp [h])) (fun k z hz => by
      have := hf (k + 1) z (by simpa using hz)
      rwa [show i + (k + 1) = i + 1 + k by omega] at this) (by simpa using hl)
    have h0 := hf 0 v rfl
    have hcc := hc c (by simp)
    simp only [Nat.add_zero] at h0
    simp only [ends, dot, sLo, ih, h0, decide_eq_true_eq]
    split
    · have := Int.mul_le_mul_of_nonpos_left (show v ≤ 0 by omega) hcc; omega
    · have := Int.mul_le_mul_of_nonneg_left hcc (show 0 ≤ v by omega); omega
theorem dot_hi (f : Nat → Bool) : ∀ (v : List Int) (cs : List Chain) (i : Nat), (∀ c ∈ cs, c.lo ≤ c.hi) → (∀ (k : Nat) z, v[k]? = some z → (f (i + k) = decide (0 ≤ z))) → v.length = cs.length → dot v (ends f i cs) = sHi v cs
  | [], [], i, _, _, _ => rfl
  | [], _ :: _, _, _, _, h => by simp at h
  | _ :: _, [], _, _, _, h => by simp at h
  | v :: vs, c :: cs, i, hc, hf, hl => by
    have ih := dot_hi f vs cs (i + 1) (fun c h => hc c (by simp [h])) (fun k z hz => by
      have := hf (k + 1) z (by simpa using hz)
      rwa [show i + (k + 1) = i + 1 + k by omega] at this) (by simpa using hl)
    have h0 := hf 0 v rfl
    have hcc := hc c (by simp)
    simp only [Nat.add_zero] at h0
    simp only [ends, dot, sHi, ih, h0, decide_eq_true_eq]
    split
    · have := Int.mul_le_mul_of_nonneg_left hcc (show 0 ≤ v by omega); omega
    · have := Int.mul_le_mul_of_nonpos_left (show v ≤ 0 by omega) hcc; omega
def bit (s k : Nat) : Bool := decide (s / 2 ^ k % 2 = 1)
theorem bits_ex (g : Nat → Bool) {m : Nat} (h : 1 ≤ m ∧ m ≤ 3) : ∃ s, s < 2 ^ m ∧ ∀ k, k < m → bit s k = g k := by
  have : m = 1 ∨ m = 2 ∨ m = 3 := by omega
  rcases this with rfl | rfl | rfl
  · refine ⟨if g 0 then 1 else 0, by split <;> decide, ?_⟩
    intro k hk
    have : k = 0 := by omega
    subst this
    cases g 0 <;> decide
  · refine ⟨(if g 0 then 1 else 0) + (if g 1 then 2 else 0), by cases g 0 <;> cases g 1 <;> decide, ?_⟩
    intro k hk
    have : k = 0 ∨ k = 1 := by omega
    rcases this with rfl | rfl <;> cases g 0 <;> cases g 1 <;> decide
  · refine ⟨(if g 0 then 1 else 0) + (if g 1 then 2 else 0) + (if g 2 then 4 else 0), by cases g 0 <;> cases g 1 <;> cases g 2 <;> decide, ?_⟩
    intro k hk
    have : k = 0 ∨ k = 1 ∨ k = 2 := by omega
    rcases this with rfl | rfl | rfl <;> cases g 0 <;> cases g 1 <;> cases g 2 <;> decide
theorem dot_sub : ∀ (v w e : List Int), v.length = w.length → v.length = e.length → dot v e - dot w e = dot (List.zipWith (· - ·) v w) e
  | [], [], _, _, _ => by simp [dot]
  | [], _ :: _, _, h, _ => by simp at h
  | _ :: _, [], _, h, _ => by simp at h
  | _ :: _, _ :: _, [], _, h => by simp at h
  | v :: vs, w :: ws, e :: es, h1, h2 => by
    have := dot_sub vs ws es (by simpa using h1) (by simpa using h2)
    simp only [dot, List.zipWith_cons_cons, Int.sub_mul]; omega
theorem subV_zip {v w : List Int} (h : v.length = w.length) : subV v w = List.zipWith (· - ·) v w := by
  apply List.ext_getElem?
  intro j
  by_cases hj : j < v.length
  · rw [subV, mixV_at hj, if_pos hj]
    rw [List.getElem?_zipWith]
    simp [hj, show j < w.length by omega]
  · rw [List.getElem?_eq_none (by rw [subV_len]; omega), List.getElem?_eq_none (by simp; omega)]
end Go.VE
/- The law DriftTrue. -/
namespace Go.VE
open Go.RowKit Go.Proofs
set_option maxRecDepth 100000

theorem s29 (n : Nat) (x : D) (cl : List Cell) (a b : Int) (h : 1 ≤ cl.length ∧ cl.length ≤ 24) : ∃ f t : Int, FN (n + 2) 29 [x, dCells cl, il a, il b] = some (0, [.d (il f), .d (il t)]) ∧ isD cl f t = true := by
  have b1 := modI_bnd a (b := cl.length) (by omega)
  have b2 := modI_bnd b (b := cl.length - modI a cl.length) (by omega)
  have e1 := s26 n a cl.length (by omega) (by omega)
  have e2 := s26 n b (cl.length - modI a cl.length) (by omega) (by omega)
  have w1 : IntKind.i64.wrap (cl.length - modI a cl.length) = cl.length - modI a cl.length := wrap_id (by omega) (by omega)
  have w2 : IntKind.i64.wrap (modI a cl.length + modI b (cl.length - modI a cl.length)) = modI a cl.length + modI b (cl.length - modI a cl.length) := wrap_id (by omega) (by omega)
  refine ⟨modI a cl.length, modI a cl.length + modI b (cl.length - modI a cl.length), ?_, by simp only [isD, decide_eq_true_eq]; omega⟩
  rw [F29]
  simp [G29, dCells, e1, w1, e2, w2]

section
variable {Fn : Nat → List D → Out} {FnD : D → List Sh → List D → Out} {m : Nat}
theorem r_shr (s k : Nat) (hs : s ≤ 8) (hk : k ≤ 2) (K : D → Out) : (real Fn FnD m).bin .shr false (il (s : Int)) (il (k : Int)) K = K (il ((s / 2 ^ k : Nat) : Int)) := by
  have a : s = 0 ∨ s = 1 ∨ s = 2 ∨ s = 3 ∨ s = 4 ∨ s = 5 ∨ s = 6 ∨ s = 7 ∨ s = 8 := by omega
  have b : k = 0 ∨ k = 1 ∨ k = 2 := by omega
  have e : binD .shr false (il (s : Int)) (il (k : Int)) = some (il ((s / 2 ^ k : Nat) : Int)) := by
    rcases a with rfl | rfl | rfl | rfl | rfl | rfl | rfl | rfl | rfl <;> rcases b with rfl | rfl | rfl <;> rfl
  simp only [real, e, optO]
theorem r_and1 (s : Nat) (hs : s ≤ 8) (K : D → Out) : (real Fn FnD m).bin .and false (il (s : Int)) (il 1) K = K (il ((s % 2 : Nat) : Int)) := by
  have a : s = 0 ∨ s = 1 ∨ s = 2 ∨ s = 3 ∨ s = 4 ∨ s = 5 ∨ s = 6 ∨ s = 7 ∨ s = 8 := by omega
  have e : binD .and false (il (s : Int)) (il 1) = some (il ((s % 2 : Nat) : Int)) := by
    rcases a with rfl | rfl | rfl | rfl | rfl | rfl | rfl | rfl | rfl <;> rfl
  simp only [real, e, optO]
theorem r_shl1 (k : Nat) (hk : k ≤ 3) (K : D → Out) : (real Fn FnD m).bin .shl false (il 1) (il (k : Int)) K = K (il ((2 ^ k : Nat) : Int)) := by
  have b : k = 0 ∨ k = 1 ∨ k = 2 ∨ k = 3 := by omega
  have e : binD .shl false (il 1) (il (k : Int)) = some (il ((2 ^ k : Nat) : Int)) := by
    rcases b with rfl | rfl | rfl | rfl <;> rfl
  simp only [real, e, optO]
theorem r_bit (s k : Nat) (hs : s ≤ 8) (hk : k ≤ 2) (K : D → Out) : ((real Fn FnD m).bin .shr false (il (s : Int)) (il (k : Int)) fun x => (real Fn FnD m).bin .and false x (il 1) fun y => (real Fn FnD m).bin .eql false y (il 1) K) = K (bl (decide (s / 2 ^ k % 2 = 1))) := by
  rw [r_shr s k hs hk, r_and1 _ (Nat.le_trans (Nat.div_le_self ..) hs), r_eql]
  congr 2
  rw [Bool.eq_iff_iff]; simp only [decide_eq_true_eq]; omega
theorem r_last (s k : Nat) (hk : k ≤ 3) (K : D → Out) : ((real Fn FnD m).bin .shl false (il 1) (il (k : Int)) fun x => (real Fn FnD m).bin .eql false (il (s : Int)) x K) = K (bl (decide (s = 2 ^ k))) := by
  rw [r_shl1 k hk, r_eql]
  congr 2
  rw [Bool.eq_iff_iff]; simp only [decide_eq_true_eq]; omega
end

/-- True links of a round: within the chains, at the ends that the bits say if it is not the last round. -/
def Es (cs : List Chain) (s : Nat) (e : List Int) : Prop := ∀ (k : Nat) z c, e[k]? = some z → cs[k]? = some c → c.lo ≤ z ∧ z ≤ c.hi ∧ (s < 2 ^ cs.length → z = if bit s k then c.hi else c.lo)
theorem Es_snoc {cs : List Chain} {s : Nat} {e : List Int} {z : Int} {c : Chain} (h : Es cs s e) (hc : cs[e.length]? = some c) (hz : c.lo ≤ z ∧ z ≤ c.hi ∧ (s < 2 ^ cs.length → z = if bit s e.length then c.hi else c.lo)) : Es cs s (e ++ [z]) := by
  intro k y d hy hd
  rw [List.getElem?_append] at hy
  split at hy
  · exact h k y d hy hd
  · rename_i hk
    have : k = e.length := by
      have := (List.getElem?_eq_some_iff.1 hy).1; simp at this; omega
    subst this
    rw [hc] at hd; cases hd
    simp at hy; subst hy; exact hz
set_option maxHeartbeats 2000000 in
theorem l6in (n : Nat) (cs : List Chain) (hl : 1 ≤ cs.length ∧ cs.length ≤ 3) (hc : ∀ c ∈ cs, 1 ≤ c.lo ∧ c.lo ≤ c.hi ∧ c.hi ≤ 1000) (picks : List Int) (hp : picks.length ≤ 140737488355328) (s : Nat) (hs : s ≤ 2 ^ cs.length) (u1 u2 u3 v1 v2 v3 v4 v5 v6 x : D) {Fn : Nat → List D → Out} {FnD : D → List Sh → List D → Out} {m : Nat} (h26 : ∀ xs, Fn 26 xs = FN (n + 1) 26 xs) :
    ∃ e : List Int, loopR [L6_0 (real Fn FnD m), L6_1 (real Fn FnD m)] M0 0 [.d (dI picks), .d u1, .d u2, .d u3, .d (il (s : Int)), .d (il 0), .d v1, .d v2, .d v3, .d v4, .d v5, .d v6, .d (dChains cs), .d x] =
      some (1, [.d (dI picks), .d u1, .d u2, .d u3, .d (il (s : Int)), .n e.length, .n e.length, .r (rI e), .d v1, .d v2, .d v3, .d v4, .d v5, .d v6, .d (dChains cs), .d x]) ∧ Es cs s e ∧ e.length = cs.length := by
  have h8 : s ≤ 8 := by
    have : cs.length = 1 ∨ cs.length = 2 ∨ cs.length = 3 := by omega
    rcases this with h | h | h <;> rw [h] at hs <;> simpa using (Nat.le_trans hs (by decide))
  refine loop_acc (α := Int) (L6_0 (real Fn FnD m)) (L6_1 (real Fn FnD m)) [.d (dI picks), .d u1, .d u2, .d u3, .d (il (s : Int)), .d (il 0), .d v1, .d v2, .d v3, .d v4, .d v5, .d v6, .d (dChains cs), .d x]
    (fun acc => [.d (dI picks), .d u1, .d u2, .d u3, .d (il (s : Int)), .n acc.length, .n acc.length, .d (il acc.length), .r (rI acc), .d v1, .d v2, .d v3, .d v4, .d v5, .d v6, .d (dChains cs), .d x]) cs.length (Es cs s)
    (fun o => ∃ e : List Int, o = some (1, [.d (dI picks), .d u1, .d u2, .d u3, .d (il (s : Int)), .n e.length, .n e.length, .r (rI e), .d v1, .d v2, .d v3, .d v4, .d v5, .d v6, .d (dChains cs), .d x]) ∧ Es cs s e ∧ e.length = cs.length)
    (by intro k z c h; simp at h) ?_ ?_ M0 (by have : M0 = 18446744073709551616 := rfl; omega)
  · intro k ih
    have hck : cs[0]? = some cs[0] := by simp [show 0 < cs.length by omega]
    have hb := hc cs[0] (List.getElem_mem (by omega))
    generalize cs[0] = c at hck hb
    have hbit := fun K => r_bit (Fn := Fn) (FnD := FnD) (m := m) s 0 h8 (by omega) K
    have hlast := fun K => r_last (Fn := Fn) (FnD := FnD) (m := m) s cs.length hl.2 K
    have hpos : (0 : Int) < (cs.length : Int) := by omega
    have w1 : IntKind.i64.wrap 1 = 1 := rfl
    simp only [Int.cast_ofNat_Int] at hbit
    have step : ∀ z, c.lo ≤ z ∧ z ≤ c.hi ∧ (s < 2 ^ cs.length → z = if bit s 0 then c.hi else c.lo) → _ := fun z hz => ih z (Es_snoc (e := []) (by intro k z c h; simp at h) hck hz) hl.1
    have hbd : bit s 0 = decide (s / 2 ^ 0 % 2 = 1) := rfl
    have cd : ∀ (g : Bool), (if g = true then c.hi else c.lo) ≤ 1000 ∧ 1 ≤ (if g = true then c.hi else c.lo) ∧ c.lo ≤ (if g = true then c.hi else c.lo) ∧ (if g = true then c.hi else c.lo) ≤ c.hi := by intro g; cases g <;> simp <;> omega
    have wd : IntKind.i64.wrap (c.hi - c.lo) = c.hi - c.lo := wrap_id (by omega) (by omega)
    have wd1 : IntKind.i64.wrap (c.hi - c.lo + 1) = c.hi - c.lo + 1 := wrap_id (by omega) (by omega)
    simp only [L6_0, r_ld0, r_lds, dChains, r_lenD, List.length_map, r_lss, r_cond, hpos, decide_true, if_true, r_rowDg, Int.toNat_zero, List.getElem?_map, hck, Option.map_some, rChain, r_cell0, r_cells, r_liti, hbit, ← hbd, Int.le_refl, and_self, List.length_cons, List.length_nil]
    simp only [dChains, List.length_cons, List.length_nil] at step
    by_cases hA : s < 2 ^ cs.length ∨ picks = []
    · have st := step (if bit s 0 then c.hi else c.lo) ⟨(cd _).2.2.1, (cd _).2.2.2, fun _ => rfl⟩
      cases hbb : bit s 0 <;> (
        rw [hbb] at st
        simp only [Bool.false_eq_true, if_false, if_true] at st
        simp [hlast]
        rcases hA with hA | hA
        · have : ¬ s = 2 ^ cs.length := by omega
          simp [this, w1]
          simpa [rI] using st
        · subst hA
          by_cases hq : s = 2 ^ cs.length
          · simp [hq, dI, rI, w1] at st ⊢
            exact st
          · simp [hq, w1]
            simpa [rI] using st)
    · have hA1 : s = 2 ^ cs.length := by
        have : ¬ s < 2 ^ cs.length := fun h => hA (.inl h)
        omega
      have hA1d : decide (s = 2 ^ cs.length) = true := decide_eq_true hA1
      have hA2 : picks ≠ [] := fun h => hA (.inr h)
      have hpl : 0 < picks.length := List.length_pos_iff.2 hA2
      have hpk : picks[0]? = some picks[0] := by simp [hpl]
      generalize picks[0] = p at hpk
      have hbp := modI_bnd p (b := c.hi - c.lo + 1) (by omega)
      have hrem : ∀ k, (real Fn FnD m).bin .rem false (il 0) (il (picks.length : Int)) k = k (il 0) := fun k => by
        rw [r_rem _ _ _ _ (by omega)]; simp
      have e26 := s26 n p (c.hi - c.lo + 1) (by omega) (by omega)
      have wz : IntKind.i64.wrap (c.lo + modI p (c.hi - c.lo + 1)) = c.lo + modI p (c.hi - c.lo + 1) := wrap_id (by omega) (by omega)
      have st := step (c.lo + modI p (c.hi - c.lo + 1)) ⟨by omega, by omega, fun h => by omega⟩
      have hpi := rI_at hpk
      have hrow : ∀ k, (real Fn FnD m).rowD 1 (.sl 1 (rI picks)) (il 0) k = k [il p] := fun k => r_rowDn 1 (rI picks) 0 k _ hpi rfl
      cases hbb : bit s 0 <;> (
        simp only [Bool.false_eq_true, if_false, if_true, r_out, r_bnd0, r_ld0, r_lds, r_lenD, List.length_map, hlast, hA1d, r_cond, decide_true, dI, rI_len, r_gtr, show (0 : Int) < (picks.length : Int) by omega, hrem, hrow, r_cell0, r_sub, wd, r_add, wd1, r_call, h26, e26, wz]
        simp [w1, rI_len, dI, hA1] at st ⊢
        simpa [rI] using st)
  · intro acc k hE hne hla ih
    have hpp : 0 < acc.length := List.length_pos_iff.2 hne
    by_cases hlt : acc.length < cs.length
    · have hck : cs[acc.length]? = some cs[acc.length] := by simp [hlt]
      have hb := hc cs[acc.length] (List.getElem_mem hlt)
      generalize cs[acc.length] = c at hck hb
      have hbit := fun K => r_bit (Fn := Fn) (FnD := FnD) (m := m) s acc.length h8 (by omega) K
      have hlast := fun K => r_last (Fn := Fn) (FnD := FnD) (m := m) s cs.length hl.2 K
      have hi : (acc.length : Int) < (cs.length : Int) := by omega
      have w1 : IntKind.i64.wrap ((acc.length : Int) + 1) = (acc.length : Int) + 1 := wrap_id (by omega) (by omega)
      have step : ∀ z, c.lo ≤ z ∧ z ≤ c.hi ∧ (s < 2 ^ cs.length → z = if bit s acc.length then c.hi else c.lo) → _ := fun z hz => ih z (Es_snoc hE hck hz) hlt
      have hbd : bit s acc.length = decide (s / 2 ^ acc.length % 2 = 1) := rfl
      have cd : ∀ (g : Bool), (if g = true then c.hi else c.lo) ≤ 1000 ∧ 1 ≤ (if g = true then c.hi else c.lo) ∧ c.lo ≤ (if g = true then c.hi else c.lo) ∧ (if g = true then c.hi else c.lo) ≤ c.hi := by intro g; cases g <;> simp <;> omega
      have wd : IntKind.i64.wrap (c.hi - c.lo) = c.hi - c.lo := wrap_id (by omega) (by omega)
      have wd1 : IntKind.i64.wrap (c.hi - c.lo + 1) = c.hi - c.lo + 1 := wrap_id (by omega) (by omega)
      have hf : (acc.length + 1) * 8 ≤ 140737488355328 ∧ acc.length ≤ 9223372036854775806 := by omega
      have hn0 : (0 : Int) ≤ (acc.length : Int) := by omega
      simp only [L6_1, r_ld0, r_lds, dChains, r_lenD, List.length_map, r_lss, r_cond, hi, decide_true, if_true, r_rowDg, hn0, Int.toNat_natCast, List.getElem?_map, hck, Option.map_some, rChain, r_cell0, r_cells, r_liti, hbit, ← hbd, and_self, List.length_cons, List.length_nil]
      simp only [dChains, List.length_append, List.length_cons, List.length_nil] at step
      by_cases hA : s < 2 ^ cs.length ∨ picks = []
      · have st := step (if bit s acc.length then c.hi else c.lo) ⟨(cd _).2.2.1, (cd _).2.2.2, fun _ => rfl⟩
        cases hbb : bit s acc.length <;> (
          rw [hbb] at st
          simp only [Bool.false_eq_true, if_false, if_true] at st
          simp [hlast]
          rcases hA with hA | hA
          · have : ¬ s = 2 ^ cs.length := by omega
            simp [this, w1, rI_len, hf]
            simpa [rI] using st
          · subst hA
            by_cases hq : s = 2 ^ cs.length
            · simp [hq, dI, rI, w1, hf] at st ⊢
              exact st
            · simp [hq, w1, rI_len, hf]
              simpa [rI] using st)
      · have hA1 : s = 2 ^ cs.length := by
          have : ¬ s < 2 ^ cs.length := fun h => hA (.inl h)
          omega
        have hA1d : decide (s = 2 ^ cs.length) = true := decide_eq_true hA1
        have hA2 : picks ≠ [] := fun h => hA (.inr h)
        have hpl : 0 < picks.length := List.length_pos_iff.2 hA2
        have hmod := Nat.mod_lt acc.length hpl
        have hpk : picks[acc.length % picks.length]? = some picks[acc.length % picks.length] := by simp [hmod]
        generalize picks[acc.length % picks.length] = p at hpk
        have hbp := modI_bnd p (b := c.hi - c.lo + 1) (by omega)
        have hrem : ∀ k, (real Fn FnD m).bin .rem false (il (acc.length : Int)) (il (picks.length : Int)) k = k (il ((acc.length % picks.length : Nat) : Int)) := fun k => by
          rw [r_rem _ _ _ _ (by omega), Int.tmod_eq_emod_of_nonneg (by omega)]; rfl
        have e26 := s26 n p (c.hi - c.lo + 1) (by omega) (by omega)
        have wz : IntKind.i64.wrap (c.lo + modI p (c.hi - c.lo + 1)) = c.lo + modI p (c.hi - c.lo + 1) := wrap_id (by omega) (by omega)
        have st := step (c.lo + modI p (c.hi - c.lo + 1)) ⟨by omega, by omega, fun h => by omega⟩
        have hpi := rI_at hpk
        have hrow : ∀ k, (real Fn FnD m).rowD 1 (.sl 1 (rI picks)) (il ((acc.length % picks.length : Nat) : Int)) k = k [il p] := fun k => by
          rw [r_rowDn 1 _ _ _ _ hpi rfl]
        cases hbb : bit s acc.length <;> (
          simp only [Bool.false_eq_true, if_false, if_true, r_out, r_bnd0, r_ld0, r_lds, r_lenD, r_lns, r_ln0, r_lrs, r_lr0, List.length_map, hlast, hA1d, r_cond, decide_true, dI, rI_len, r_gtr, show (0 : Int) < (picks.length : Int) by omega, hrem, hrow, r_cell0, r_sub, wd, r_add, wd1, r_call, h26, e26, wz]
          simp [hf, w1, rI_len, dI, hA1] at st ⊢
          simpa [rI] using st)
    · have hi : ¬ (acc.length : Int) < (cs.length : Int) := by omega
      refine ⟨acc, ?_, hE, by omega⟩
      simp [L6_1, dChains, hi]

theorem bit_zero (k : Nat) : bit 0 k = false := by simp [bit]
theorem bit_all {m k : Nat} (hm : 1 ≤ m ∧ m ≤ 3) (hk : k < m) : bit (2 ^ m - 1) k = true := by
  have : m = 1 ∨ m = 2 ∨ m = 3 := by omega
  rcases this with rfl | rfl | rfl
  · have : k = 0 := by omega
    subst this; decide
  · have : k = 0 ∨ k = 1 := by omega
    rcases this with rfl | rfl <;> decide
  · have : k = 0 ∨ k = 1 ∨ k = 2 := by omega
    rcases this with rfl | rfl | rfl <;> decide
theorem getElem?_lt {α : Type} {l : List α} {k : Nat} {x : α} (h : l[k]? = some x) : k < l.length := (List.getElem?_eq_some_iff.1 h).1

/-- What the numbers of a round show. -/
theorem round6 (cs : List Chain) (cl : List Cell) (hg : okGround cs cl = true) (hl : 1 ≤ cs.length ∧ cs.length ≤ 3) (a0 a1 b0 b1 : Int) (s : Nat) (e : List Int) (hE : Es cs s e) (he : e.length = cs.length) :
    lkOK e cs = true ∧ sLo (linkV cs cl a0 a1) cs ≤ dot (linkV cs cl a0 a1) e ∧ dot (linkV cs cl a0 a1) e ≤ sHi (linkV cs cl a0 a1) cs ∧
    (s = 0 → dot (linkV cs cl a0 a1) e = sLo (linkV cs cl a0 a1) cs) ∧ (s = 2 ^ cs.length - 1 → dot (linkV cs cl a0 a1) e = sHi (linkV cs cl a0 a1) cs) ∧
    (sLo (subV (linkV cs cl a0 a1) (linkV cs cl b0 b1)) cs ≤ dot (linkV cs cl a0 a1) e - dot (linkV cs cl b0 b1) e) ∧ (dot (linkV cs cl a0 a1) e - dot (linkV cs cl b0 b1) e ≤ sHi (subV (linkV cs cl a0 a1) (linkV cs cl b0 b1)) cs) := by
  have hLk : Lk e cs := Lk_at he fun k z c hz hc => by have := hE k z c hz hc; exact ⟨this.1, this.2.1⟩
  have hch := okG_chains hg
  have hle : ∀ c ∈ cs, c.lo ≤ c.hi := fun c h => (hch c h).2.1
  have h1 := dot_in (linkV cs cl a0 a1) e cs hLk
  have h2 := dot_in (subV (linkV cs cl a0 a1) (linkV cs cl b0 b1)) e cs hLk
  have hp : 0 < 2 ^ cs.length := Nat.pow_pos (by decide)
  have hsub : dot (linkV cs cl a0 a1) e - dot (linkV cs cl b0 b1) e = dot (subV (linkV cs cl a0 a1) (linkV cs cl b0 b1)) e := by
    rw [subV_zip (by simp [linkV_len]), dot_sub _ _ _ (by simp [linkV_len]) (by rw [linkV_len]; omega)]
  refine ⟨lkOK_Lk hLk, h1.1, h1.2, fun h0 => ?_, fun h0 => ?_, by rw [hsub]; exact h2.1, by rw [hsub]; exact h2.2⟩
  · have := ends_eq (f := bit s) he fun k z c hz hc => (hE k z c hz hc).2.2 (by omega)
    rw [this]
    exact dot_lo (bit s) _ cs 0 hle (fun k z hz => by
      have := (linkV_ok hg a0 a1 z (List.mem_of_getElem? hz)).1
      rw [h0, bit_zero]; simp; omega) (by rw [linkV_len])
  · have := ends_eq (f := bit s) he fun k z c hz hc => (hE k z c hz hc).2.2 (by omega)
    rw [this]
    exact dot_hi (bit s) _ cs 0 hle (fun k z hz => by
      have h3 := (linkV_ok hg a0 a1 z (List.mem_of_getElem? hz)).1
      have h4 := getElem?_lt hz
      rw [linkV_len] at h4
      rw [h0, Nat.zero_add, bit_all hl h4]; simp; omega) (by rw [linkV_len])
theorem ends6 (cs : List Chain) (cl : List Cell) (hg : okGround cs cl = true) (hl : 1 ≤ cs.length ∧ cs.length ≤ 3) (a0 a1 b0 b1 : Int) :
    ∃ s1 s2, s1 < 2 ^ cs.length ∧ s2 < 2 ^ cs.length ∧ (∀ e, Es cs s1 e → e.length = cs.length → dot (linkV cs cl a0 a1) e - dot (linkV cs cl b0 b1) e = sLo (subV (linkV cs cl a0 a1) (linkV cs cl b0 b1)) cs) ∧
      (∀ e, Es cs s2 e → e.length = cs.length → dot (linkV cs cl a0 a1) e - dot (linkV cs cl b0 b1) e = sHi (subV (linkV cs cl a0 a1) (linkV cs cl b0 b1)) cs) := by
  have hch := okG_chains hg
  have hle : ∀ c ∈ cs, c.lo ≤ c.hi := fun c h => (hch c h).2.1
  obtain ⟨s1, l1, e1⟩ := bits_ex (fun k => decide ((subV (linkV cs cl a0 a1) (linkV cs cl b0 b1)).getD k 0 < 0)) hl
  obtain ⟨s2, l2, e2⟩ := bits_ex (fun k => decide (0 ≤ (subV (linkV cs cl a0 a1) (linkV cs cl b0 b1)).getD k 0)) hl
  have hsub : ∀ e : List Int, e.length = cs.length → dot (linkV cs cl a0 a1) e - dot (linkV cs cl b0 b1) e = dot (subV (linkV cs cl a0 a1) (linkV cs cl b0 b1)) e := fun e he => by
    rw [subV_zip (by simp [linkV_len]), dot_sub _ _ _ (by simp [linkV_len]) (by rw [linkV_len]; omega)]
  refine ⟨s1, s2, l1, l2, fun e hE he => ?_, fun e hE he => ?_⟩
  · rw [hsub e he, ends_eq (f := bit s1) he fun k z c hz hc => (hE k z c hz hc).2.2 l1]
    exact dot_lo (bit s1) _ cs 0 hle (fun k z hz => by
      have h4 := getElem?_lt hz
      rw [subV_len, linkV_len] at h4
      rw [Nat.zero_add, e1 k h4, List.getD_eq_getElem?_getD, hz]; rfl) (by rw [subV_len, linkV_len])
  · rw [hsub e he, ends_eq (f := bit s2) he fun k z c hz hc => (hE k z c hz hc).2.2 l2]
    exact dot_hi (bit s2) _ cs 0 hle (fun k z hz => by
      have h4 := getElem?_lt hz
      rw [subV_len, linkV_len] at h4
      rw [Nat.zero_add, e2 k h4, List.getD_eq_getElem?_getD, hz]; rfl) (by rw [subV_len, linkV_len])

set_option maxHeartbeats 2000000 in
theorem l6 (n : Nat) {Fn : Nat → List D → Out} {FnD : D → List Sh → List D → Out} (hF : ∀ f xs, f ≠ 11 → Fn f xs = FN (n + 5) f xs) (cs : List Chain) (cl : List Cell) (hg : okGround cs cl = true) (hl : 1 ≤ cs.length ∧ cs.length ≤ 3) (a0 a1 b0 b1 : Int) (ha : isD cl a0 a1 = true) (hb : isD cl b0 b1 = true) (picks : List Int) (hp : picks.length ≤ 140737488355328) :
    ∃ is nt, loopR [L6_2 (real Fn FnD M0)] M0 0 [.d (dI picks), .d (il (lgRes cs cl a0 a1 b0 b1)), .d (bl false), .d (bl false), .d (il ((0 : Nat) : Int)), .d (il (sLo (linkV cs cl a0 a1) cs)), .d (il (sHi (linkV cs cl a0 a1) cs)), .d (il b0), .d (il b1), .d (il a0), .d (il a1), .d (dChains cs), .d (dCells cl)] =
      some (0, [.d (il (lgRes cs cl a0 a1 b0 b1)), .d (bl is), .d (bl nt)]) ∧ ((decide (lgRes cs cl a0 a1 b0 b1 = 2)) = (is && nt)) := by
  obtain ⟨s1, s2, l1, l2, hs1, hs2⟩ := ends6 cs cl hg hl a0 a1 b0 b1
  have hlg : lgRes cs cl a0 a1 b0 b1 = if 0 < sLo (subV (linkV cs cl a0 a1) (linkV cs cl b0 b1)) cs then 1 else if sHi (subV (linkV cs cl a0 a1) (linkV cs cl b0 b1)) cs ≤ 0 then 0 else 2 := by
    have : lgErr cs cl a0 a1 b0 b1 = 0 := by simp [lgErr, hg, ha, hb]
    unfold lgRes
    rw [if_pos this]
    simp only [lgSpan, spanV_s]
  have hr := fun s e (hE : Es cs s e) he => round6 cs cl hg hl a0 a1 b0 b1 s e hE he
  generalize lgRes cs cl a0 a1 b0 b1 = lg at hlg
  generalize hVlo : sLo (subV (linkV cs cl a0 a1) (linkV cs cl b0 b1)) cs = Vlo at hlg hr hs1
  generalize hVhi : sHi (subV (linkV cs cl a0 a1) (linkV cs cl b0 b1)) cs = Vhi at hlg hr hs2
  have hp8 : 2 ^ cs.length ≤ 8 := by
    have : cs.length = 1 ∨ cs.length = 2 ∨ cs.length = 3 := by omega
    rcases this with h | h | h <;> rw [h] <;> decide
  have hp1 : 1 ≤ 2 ^ cs.length := Nat.pow_pos (by decide)
  have hshl := fun K => r_shl1 (Fn := Fn) (FnD := FnD) (m := M0) cs.length hl.2 K
  have key := loop_pr (σ := Nat × Bool × Bool) [L6_2 (real Fn FnD M0)]
    (fun p => (0, [.d (dI picks), .d (il lg), .d (bl p.2.1), .d (bl p.2.2), .d (il (p.1 : Int)), .d (il (sLo (linkV cs cl a0 a1) cs)), .d (il (sHi (linkV cs cl a0 a1) cs)), .d (il b0), .d (il b1), .d (il a0), .d (il a1), .d (dChains cs), .d (dCells cl)]))
    (fun p => 2 ^ cs.length + 1 - p.1)
    (fun p => p.1 ≤ 2 ^ cs.length + 1 ∧ (lg = 1 → p.2.2 = false) ∧ (lg = 0 → p.2.1 = false) ∧ (lg = 2 → (s1 < p.1 → p.2.2 = true) ∧ (s2 < p.1 → p.2.1 = true)))
    (fun o => ∃ is nt, o = some (0, [.d (il lg), .d (bl is), .d (bl nt)]) ∧ (decide (lg = 2) = (is && nt))) ?_ M0 (0, false, false) ⟨by omega, fun _ => rfl, fun _ => rfl, fun _ => ⟨fun h => by omega, fun h => by omega⟩⟩ (by have : M0 = 18446744073709551616 := rfl; simp only; omega)
  · exact key
  · rintro ⟨s, is, nt⟩ k ⟨hs, i1, i0, i2⟩ ih
    simp only at hs i1 i0 i2
    refine ⟨_, rfl, ?_⟩
    by_cases hsl : s ≤ 2 ^ cs.length
    · obtain ⟨e, e1, hE, he⟩ := l6in (n + 4) cs hl (okG_chains hg) picks hp s hsl (il lg) (bl is) (bl nt) (il (sLo (linkV cs cl a0 a1) cs)) (il (sHi (linkV cs cl a0 a1) cs)) (il b0) (il b1) (il a0) (il a1) (dCells cl) (Fn := Fn) (FnD := FnD) (m := M0) (fun xs => hF 26 xs (by decide))
      obtain ⟨r1, r2, r3, r4, r5, r6, r7⟩ := hr s e hE he
      have hk : Es cs s1 e → e.length = cs.length → _ := hs1 e
      have hk2 : Es cs s2 e → e.length = cs.length → _ := hs2 e
      have ta := s32 n cs cl e a0 a1
      have tb' := s32 n cs cl e b0 b1
      have ea : trErr cs cl e a0 a1 = 0 := by simp [trErr, hg, he, r1, ha]
      have eb : trErr cs cl e b0 b1 = 0 := by simp [trErr, hg, he, r1, hb]
      rw [trRes, ea, if_pos rfl, trV_dot, ← hF 32 _ (by decide)] at ta
      rw [trRes, eb, if_pos rfl, trV_dot, ← hF 32 _ (by decide)] at tb'
      generalize dot (linkV cs cl a0 a1) e = X at *
      generalize dot (linkV cs cl b0 b1) e = Y at *
      generalize sLo (linkV cs cl a0 a1) cs = Lo at *
      generalize sHi (linkV cs cl a0 a1) cs = Hi at *
      have w1 : IntKind.i64.wrap ((s : Int) + 1) = (s : Int) + 1 := wrap_id (by omega) (by omega)
      have w2 : IntKind.i64.wrap (((2 ^ cs.length : Nat) : Int) - 1) = ((2 ^ cs.length - 1 : Nat) : Int) := by rw [wrap_id (by omega) (by omega)]; omega
      have hsle : (s : Int) ≤ ((2 ^ cs.length : Nat) : Int) := by omega
      have ih' := ih (s + 1, is || decide (Y < X), nt || decide (X ≤ Y)) ⟨by simp only; omega, fun h => ?_, fun h => ?_, fun h => ⟨fun h1 => ?_, fun h2 => ?_⟩⟩ (by simp only; omega)
      · have c1 : ¬ X < Lo := by omega
        have c2 : ¬ Hi < X := by omega
        have c3 : (s : Int) = 0 → X = Lo := fun h => r4 (by omega)
        have c4 : (s : Int) = ((2 ^ cs.length - 1 : Nat) : Int) → X = Hi := fun h => r5 (by omega)
        have c5 : lg = 1 → Y < X := fun h => by
          rw [hlg] at h
          split at h
          · omega
          · split at h <;> omega
        have c6 : lg = 0 → X ≤ Y := fun h => by
          rw [hlg] at h
          split at h
          · omega
          · split at h
            · omega
            · omega
        simp only [dChains, Int.natCast_add, Int.cast_ofNat_Int] at ih' e1 ta tb'
        simp only [L6_2, r_ld0, r_lds, dChains, r_lenD, List.length_map, r_liti, hshl, r_leq, hsle, decide_true, r_cond, if_true, r_loop, e1, r_bnd1, r_ln0, r_lns, r_lr0, r_lrs, r_eqN, r_len, rI_len, r_slD, r_seg0, rI_take', r_call]
        simp only [dI] at ta tb' ih'
        simp only [ta, tb', r_bnd0, r_ld0, r_lds, r_litsg, List.all_cons, List.all_nil, yl_i, Bool.and_self, if_true, r_neq, ne_eq, not_true_eq_false, decide_false, r_cond, Bool.false_eq_true, if_false, r_lss, c1, r_gtr, c2, r_eql, dI]
        have k5 : ¬ lg = 1 ∨ Y < X := by by_cases h : lg = 1; exact .inr (c5 h); exact .inl h
        have k6 : ¬ lg = 0 ∨ X ≤ Y := by by_cases h : lg = 0; exact .inr (c6 h); exact .inl h
        obtain ⟨N, hN⟩ : ∃ N, 2 ^ cs.length = N := ⟨_, rfl⟩
        simp only [hN] at hshl w2 c4
        have qa : decide ((s : Int) = 0) = true → decide (X ≠ Lo) = false := fun h => by have := c3 (of_decide_eq_true h); simp [this]
        have qb : decide ((s : Int) = ((N - 1 : Nat) : Int)) = true → decide (X ≠ Hi) = false := fun h => by have := c4 (of_decide_eq_true h); simp [this]
        have qy : decide (Y < X) = !decide (X ≤ Y) := by rw [Bool.eq_iff_iff]; simp
        rw [qy] at ih'
        clear e1 ta tb' hr hs1 hs2 i1 i0 i2 ih hF hk hk2 c5 c6 c3 c4
        simp only [ne_eq] at qa qb
        cases hp0 : decide ((s : Int) = 0) <;> cases hpz : decide ((s : Int) = ((N - 1 : Nat) : Int)) <;> cases hp1 : decide (lg = 1) <;> cases hpl : decide (lg = 0) <;> cases hpx : decide (X ≤ Y) <;>
          first
          | (exfalso; simp only [decide_eq_true_eq, decide_eq_false_iff_not] at hp1 hpl hpx; omega)
          | (cases is <;> cases nt <;> (
              simp only [hpx, Bool.false_or, Bool.true_or, Bool.not_true, Bool.not_false] at ih'
              simp only [hp0, qa, r_out, r_bnd0, r_ld0, r_lds, r_litb, r_liti, if_true, Bool.false_eq_true, if_false, r_cond, r_lenD, List.length_map, hshl, r_sub, w2, r_eql, hpz, qb, r_neq, ne_eq, hp1, r_leq, hpx, hpl, r_gtr, qy, Bool.not_true, Bool.not_false, r_add, w1]
              exact ih'))
      · simp only
        rw [i1 h, Bool.false_or]
        rw [h] at hlg
        simp only [decide_eq_false_iff_not]
        split at hlg
        · omega
        · split at hlg <;> omega
      · simp only
        rw [i0 h, Bool.false_or]
        rw [h] at hlg
        simp only [decide_eq_false_iff_not]
        split at hlg
        · omega
        · split at hlg <;> omega
      · simp only
        rcases Nat.lt_or_ge s1 s with h' | h'
        · rw [(i2 h).1 h', Bool.true_or]
        · have : s = s1 := by simp only at h1; omega
          subst this
          have hx := hk hE he
          rw [h] at hlg
          have : X ≤ Y := by
            split at hlg
            · omega
            · split at hlg <;> omega
          simp [this]
      · simp only
        rcases Nat.lt_or_ge s2 s with h' | h'
        · rw [(i2 h).2 h', Bool.true_or]
        · have : s = s2 := by simp only at h2; omega
          subst this
          have hx := hk2 hE he
          rw [h] at hlg
          have : Y < X := by
            split at hlg
            · omega
            · split at hlg <;> omega
          simp [this]
    · have hsle : ¬ (s : Int) ≤ ((2 ^ cs.length : Nat) : Int) := by omega
      refine ⟨is, nt, ?_, ?_⟩
      · simp only [L6_2, r_ld0, r_lds, dChains, r_lenD, List.length_map, r_liti, hshl, r_leq, hsle, decide_false, r_cond, Bool.false_eq_true, if_false, r_out]
      · have hse : 2 ^ cs.length < s := by omega
        by_cases g2 : lg = 2
        · rw [(i2 g2).1 (by omega), (i2 g2).2 (by omega)]; simp [g2]
        · have : lg = 1 ∨ lg = 0 := by
            rw [hlg] at g2 ⊢
            split
            · exact .inl rfl
            · rename_i hh
              rw [if_neg hh] at g2
              split
              · exact .inr rfl
              · rename_i hh2; rw [if_neg hh2] at g2; exact absurd rfl g2
          rcases this with h | h
          · rw [i1 h]; simp [g2]
          · rw [i0 h]; simp [g2]

theorem s6 (n : Nat) {Fn : Nat → List D → Out} {FnD : D → List Sh → List D → Out} (h11 : Fn 11 [] = some (0, [.d (bl true)])) (hF : ∀ f xs, f ≠ 11 → Fn f xs = FN (n + 5) f xs)
    (r1 : List (Int × Int)) (r2 r3 : List (Int × Int × Int)) (h1 : r1.length ≤ 140737488355328) (h2 : r2.length ≤ 140737488355328) (h3 : r3.length ≤ 140737488355328) (x0 x1 x2 x3 : Int) (picks : List Int) (hp : picks.length ≤ 140737488355328) :
    G6 (real Fn FnD M0) (dR2 r1) (dR3 r2) (dR3 r3) (il x0) (il x1) (il x2) (il x3) (dI picks) = some (0, [.d (bl true)]) := by
  obtain ⟨cs, cl, l, e25, hm⟩ := s25 (n + 3) r1 r2 r3 h1 h2 h3
  have hg := made_ground hm
  obtain ⟨a0, a1, ea, ha⟩ := s29 (n + 3) (dChains cs) cl x0 x1 (by have := hm.lk; omega)
  obtain ⟨b0, b1, eb, hb⟩ := s29 (n + 3) (dChains cs) cl x2 x3 (by have := hm.lk; omega)
  have e30 := s30 n cs cl a0 a1
  have e31 := s31 n cs cl a0 a1 b0 b1
  have z30 : lenErr cs cl a0 a1 = 0 := by simp [lenErr, hg, ha]
  have z31 : lgErr cs cl a0 a1 b0 b1 = 0 := by simp [lgErr, hg, ha, hb]
  rw [lenRes, if_pos z30, z30, spanV_s] at e30
  rw [z31] at e31
  obtain ⟨is, nt, e6, hin⟩ := l6 n (FnD := FnD) hF cs cl hg hm.lc a0 a1 b0 b1 ha hb picks hp
  simp only [Int.cast_ofNat_Int] at e6
  simp [G6, h11, hF 25 _ (by decide), hF 29 _ (by decide), hF 30 _ (by decide), hF 31 _ (by decide), e25, ea, eb, e30, e31, e6]
  cases is <;> cases nt <;> simp_all
end Go.VE
/- The types of the arguments: what data of them are. -/
namespace Go.VE
open Go.RowKit Go.Proofs Go.Proofs.Ytdeodfmhbgejoaa
set_option maxRecDepth 100000

theorem o3 {n : Nat} {ds : List D} (h : HasT Try.prog (n + 1) 3 ds) : ∃ z, ds = [il z] ∧ -9223372036854775808 ≤ z ∧ z ≤ 9223372036854775807 := h.int Try.underlying3
theorem o28 {n : Nat} {ds : List D} (h : HasT Try.prog (n + 2) 28 ds) : ∃ a b, ds = [il a, il b] := by
  obtain ⟨a, b, rfl, h1, c, d, rfl, h2, rfl⟩ := h.struct Try.underlying28 rfl
  obtain ⟨x, rfl, _⟩ := o3 h1
  obtain ⟨y, rfl, _⟩ := o3 h2
  exact ⟨x, y, rfl⟩
theorem o30 {n : Nat} {ds : List D} (h : HasT Try.prog (n + 3) 30 ds) : ∃ c : Chain, ds = rChain c := by
  obtain ⟨a, b, rfl, h1, c, d, rfl, h2, rfl⟩ := h.struct Try.underlying30 rfl
  obtain ⟨x, rfl, _⟩ := o3 h1
  obtain ⟨y, z, rfl⟩ := o28 h2
  exact ⟨⟨x, y, z⟩, rfl⟩
theorem o32 {n : Nat} {ds : List D} (h : HasT Try.prog (n + 2) 32 ds) : ∃ c : Cell, ds = rCell c := by
  obtain ⟨a, b, rfl, h1, c, d, rfl, h2, e, f, rfl, h3, rfl⟩ := h.struct Try.underlying32 rfl
  obtain ⟨x, rfl, _⟩ := o3 h1
  obtain ⟨y, rfl, _⟩ := o3 h2
  obtain ⟨z, rfl, _⟩ := o3 h3
  exact ⟨⟨x, y, z⟩, rfl⟩
theorem o34 {n : Nat} {ds : List D} (h : HasT Try.prog (n + 2) 34 ds) : ∃ c : Claim, ds = rClaim c := by
  obtain ⟨a, b, rfl, h1, c, d, rfl, h2, e, f, rfl, h3, g, i, rfl, h4, rfl⟩ := h.struct Try.underlying34 rfl
  obtain ⟨x, rfl, _⟩ := o3 h1
  obtain ⟨y, rfl, _⟩ := o3 h2
  obtain ⟨z, rfl, _⟩ := o3 h3
  obtain ⟨u, rfl, _⟩ := o3 h4
  exact ⟨⟨x, y, z, u⟩, rfl⟩
theorem o22 {n : Nat} {ds : List D} (h : HasT Try.prog (n + 4) 22 ds) : ∃ l : List Chain, ds = [dChains l] ∧ l.length ≤ 140737488355328 := by
  obtain ⟨rows, rfl, h1, h2⟩ := h.sl (c := 3) (b := 24) Try.underlying22 (by kernel_rfl) (by kernel_rfl)
  obtain ⟨l, rfl⟩ := rows_map (f := rChain) fun r hr => o30 (h2 r hr)
  simp only [List.length_map] at h1
  exact ⟨l, rfl, by omega⟩
theorem o23 {n : Nat} {ds : List D} (h : HasT Try.prog (n + 3) 23 ds) : ∃ l : List Cell, ds = [dCells l] ∧ l.length ≤ 140737488355328 := by
  obtain ⟨rows, rfl, h1, h2⟩ := h.sl (c := 3) (b := 24) Try.underlying23 (by kernel_rfl) (by kernel_rfl)
  obtain ⟨l, rfl⟩ := rows_map (f := rCell) fun r hr => o32 (h2 r hr)
  simp only [List.length_map] at h1
  exact ⟨l, rfl, by omega⟩
theorem o26 {n : Nat} {ds : List D} (h : HasT Try.prog (n + 3) 26 ds) : ∃ l : List Claim, ds = [dClaims l] ∧ l.length ≤ 140737488355328 := by
  obtain ⟨rows, rfl, h1, h2⟩ := h.sl (c := 4) (b := 32) Try.underlying26 (by kernel_rfl) (by kernel_rfl)
  obtain ⟨l, rfl⟩ := rows_map (f := rClaim) fun r hr => o34 (h2 r hr)
  simp only [List.length_map] at h1
  exact ⟨l, rfl, by omega⟩
theorem o25 {n : Nat} {ds : List D} (h : HasT Try.prog (n + 5) 25 ds) : ∃ (cs : List Chain) (cl : List Cell), ds = [dChains cs, dCells cl] ∧ cs.length ≤ 140737488355328 ∧ cl.length ≤ 140737488355328 := by
  obtain ⟨a, b, rfl, h1, c, d, rfl, h2, rfl⟩ := h.struct Try.underlying25 rfl
  obtain ⟨cs, rfl, hc⟩ := o22 h1
  obtain ⟨cl, rfl, hl⟩ := o23 h2
  exact ⟨cs, cl, rfl, hc, hl⟩

/-- All contracts, the examples' by its own. -/
noncomputable def FnS (n : Nat) (f : Nat) (xs : List D) : Out := if f = 11 ∧ xs = [] then some (0, [.d (bl true)]) else FN n f xs
theorem FnS_ok (n : Nat) : FnOK Try.prog (cf3 tb Try.prog) (FnS n) := by
  intro f sh xs vs j ys rs h1 h2 h3 h4
  unfold FnS at h3
  split at h3
  · rename_i hc
    obtain ⟨rfl, rfl⟩ := hc
    simp only [Option.some.injEq, Prod.mk.injEq] at h3
    obtain ⟨rfl, rfl⟩ := h3
    have e1 : (cf3 tb Try.prog).ash 11 = some [] := rfl
    rw [e1] at h1
    cases h1
    cases h2
    have e2 : ((cf3 tb Try.prog).rsk 11)[0]? = some [(false, [.d])] := rfl
    rw [e2] at h4
    cases h4
    exact sane_sc
  · exact FnT_ok mixP n f sh xs vs j ys rs h1 h2 h3 h4
theorem FnS_11 (n : Nat) : FnS n 11 [] = some (0, [.d (bl true)]) := by simp [FnS]
theorem FnS_ne (n : Nat) (f : Nat) (xs : List D) (h : f ≠ 11) : FnS n f xs = FN n f xs := by simp [FnS, h]
theorem own : ownKnob Try.prog.godebug = none := by kernel_rfl
theorem laidOut : laidOutB Try.prog = true := by kernel_rfl
end Go.VE
/- The numbers of a ground and claims, as data. -/
namespace Go.VE
open Go.RowKit Go.Proofs Go.Proofs.Ytdeodfmhbgejoaa
set_option maxRecDepth 100000

theorem o56 {n : Nat} {ds : List D} (h : HasT Try.prog (n + 2) 56 ds) : ∃ p : Int × Int, ds = [il p.1, il p.2] := by
  obtain ⟨a, b, rfl, h1, c, d, rfl, h2, rfl⟩ := h.arr Try.underlying56
  obtain ⟨x, rfl, _⟩ := o3 h1
  obtain ⟨y, rfl, _⟩ := o3 h2
  exact ⟨(x, y), rfl⟩
theorem o120 {n : Nat} {ds : List D} (h : HasT Try.prog (n + 2) 120 ds) : ∃ p : Int × Int × Int, ds = [il p.1, il p.2.1, il p.2.2] := by
  obtain ⟨a, b, rfl, h1, c, d, rfl, h2, e, f, rfl, h3, rfl⟩ := h.arr Try.underlying120
  obtain ⟨x, rfl, _⟩ := o3 h1
  obtain ⟨y, rfl, _⟩ := o3 h2
  obtain ⟨z, rfl, _⟩ := o3 h3
  exact ⟨(x, y, z), rfl⟩
theorem o48 {n : Nat} {ds : List D} (h : HasT Try.prog (n + 3) 48 ds) : ∃ l, ds = [dR2 l] ∧ l.length ≤ 140737488355328 := by
  obtain ⟨rows, rfl, h1, h2⟩ := h.sl (c := 2) (b := 16) Try.underlying48 (by kernel_rfl) (by kernel_rfl)
  obtain ⟨l, rfl⟩ := rows_map (f := fun p : Int × Int => [il p.1, il p.2]) fun r hr => o56 (h2 r hr)
  simp only [List.length_map] at h1
  exact ⟨l, rfl, by omega⟩
theorem o49 {n : Nat} {ds : List D} (h : HasT Try.prog (n + 3) 49 ds) : ∃ l, ds = [dR3 l] ∧ l.length ≤ 140737488355328 := by
  obtain ⟨rows, rfl, h1, h2⟩ := h.sl (c := 3) (b := 24) Try.underlying49 (by kernel_rfl) (by kernel_rfl)
  obtain ⟨l, rfl⟩ := rows_map (f := fun p : Int × Int × Int => [il p.1, il p.2.1, il p.2.2]) fun r hr => o120 (h2 r hr)
  simp only [List.length_map] at h1
  exact ⟨l, rfl, by omega⟩
theorem o51 {n : Nat} {ds : List D} (h : HasT Try.prog (n + 4) 51 ds) : ∃ r1 r2 r3, ds = [dR2 r1, dR3 r2, dR3 r3] ∧ r1.length ≤ 140737488355328 ∧ r2.length ≤ 140737488355328 ∧ r3.length ≤ 140737488355328 := by
  obtain ⟨a, b, rfl, h1, c, d, rfl, h2, e, f, rfl, h3, rfl⟩ := h.struct Try.underlying51 rfl
  obtain ⟨x, rfl, hx⟩ := o48 h1
  obtain ⟨y, rfl, hy⟩ := o49 h2
  obtain ⟨z, rfl, hz⟩ := o49 h3
  exact ⟨x, y, z, rfl, hx, hy, hz⟩
end Go.VE
/- The statement DriftTrue: whatever the true links are, a drift is truly as long as Length says, both ends are attained, and Longer says Yes, No or Maybe as it is. -/
namespace Go.VE
open Go.RowKit Go.Proofs Go.Proofs.Ytdeodfmhbgejoaa
set_option maxRecDepth 100000
theorem o64 {n : Nat} {ds : List D} (h : HasT Try.prog (n + 2) 64 ds) : ∃ a b c d, ds = [il a, il b, il c, il d] := by
  obtain ⟨_, _, rfl, h1, _, _, rfl, h2, _, _, rfl, h3, _, _, rfl, h4, rfl⟩ := h.arr Try.underlying64
  obtain ⟨x, rfl, _⟩ := o3 h1
  obtain ⟨y, rfl, _⟩ := o3 h2
  obtain ⟨z, rfl, _⟩ := o3 h3
  obtain ⟨u, rfl, _⟩ := o3 h4
  exact ⟨x, y, z, u, rfl⟩
theorem o65' {n : Nat} {ds : List D} (h : HasT Try.prog (n + 2) 65 ds) : ∃ v, ds = [dI v] ∧ v.length ≤ 140737488355328 := by
  obtain ⟨rows, rfl, h1, h2⟩ := h.sl (c := 1) (b := 8) Try.underlying65 (by kernel_rfl) (by kernel_rfl)
  obtain ⟨l, rfl⟩ := rows_map (f := fun z => [il z]) fun r hr => by
    obtain ⟨z, h, _⟩ := o3 (h2 r hr)
    exact ⟨z, h⟩
  simp only [List.length_map] at h1
  exact ⟨l, rfl, by omega⟩
theorem driftTrue_sc (vds : List VD) (h : VTs Try.prog 8 [51, 64, 65] vds) : SC Try.prog 6 vds (.one (.d (bl true))) := by
  obtain ⟨_, _, rfl, h1, h⟩ := VTs_cons h
  obtain ⟨_, _, rfl, h2, h⟩ := VTs_cons h
  obtain ⟨_, _, rfl, h3, h⟩ := VTs_cons h
  cases VTs_nil h
  obtain ⟨_, rfl, k1⟩ := h1.agg_ Try.underlying51
  obtain ⟨_, rfl, k2⟩ := h2.arr_ Try.underlying64
  obtain ⟨_, rfl, k3⟩ := h3.sl_ Try.underlying65
  obtain ⟨r1, r2, r3, rfl, b1, b2, b3⟩ := o51 k1
  obtain ⟨a, b, c, d, rfl⟩ := o64 k2
  obtain ⟨v, hl, bv⟩ := o65' k3
  cases hl
  refine lawSC (T := tb) (fuel := 400) (m0 := M0) (xs := [dR2 r1, dR3 r2, dR3 r3, il a, il b, il c, il d, dI v]) mixP (FnS_ok 10) (sh := [.agg 3, .agg 4, .one]) rfl rfl rfl ?_
  rw [G6_eq]
  exact s6 5 (FnS_11 10) (FnS_ne 10) r1 r2 r3 b1 b2 b3 a b c d v bv

end Go.VE
namespace Go.Proofs.Ytdeodfmhbgejoaa
open Go.VE Go.RowKit
set_option maxRecDepth 100000

theorem driftTrue_lifted (os : Os) (started : os.Started) (H : Type) (enc : TypeId × Value → H) :
    ReturnsInHanded {} Try.checked os 6 .any (Rows.driftTrueSpec.pre6 enc Try.prog Try.f6 Rows.driftTrueRow.domain false) (Rows.driftTrueSpec.post enc Try.prog Try.f6 false true false false) :=
  lawIn (C := Try.checked) (n := 8) (tb := 4) own started (by kernel_rfl) Try.func6
    (ChangeSpec.witness6 (enc := enc) (C := Try.checked) false ⟨#[], #[.agg #[.slice none 0 0, .slice none 0 0, .slice none 0 0], .agg #[.int .i64 0, .int .i64 0, .int .i64 0, .int .i64 0], .slice none 0 0], []⟩ 8 (by kernel_rfl) (by kernel_rfl) (by kernel_rfl) (by kernel_rfl))
    laidOut (by kernel_rfl) (by kernel_rfl) Try.underlying4 rfl
    (fun ds hd => by
      rw [show Try.f6.params.toList = [51, 64, 65] by kernel_rfl] at hd
      match ds, hd with
      | [a, b, c], _ => rfl)
    (fun vds h => driftTrue_sc vds h)

theorem driftTrue_over : Rows.driftTrueRow.holds Try.pinned (OpenSpec.ofChange Rows.driftTrueSpec) :=
  OpenClaim.holds_of_wide 6 Try.f6 rfl rfl rfl rfl rfl rfl rfl ⟨rfl, rfl, rfl, rfl, rfl⟩ rfl rfl rfl rfl rfl (by kernel_rfl) Try.func6 (by kernel_rfl)
    (of_decide_eq_true (by kernel_rfl)) (by unfold Func.isWrapper; first | (rw [if_pos (by decide +kernel)]; kernel_rfl) | (rw [if_neg (by decide +kernel)]; exact ⟨rfl, rfl⟩))
    (fun os started H enc _ => driftTrue_lifted os started H enc)

theorem driftTrue_holds : Rows.DriftTrueSaid := driftTrue_over
#print axioms driftTrue_holds
end Go.Proofs.Ytdeodfmhbgejoaa
