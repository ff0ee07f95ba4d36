/- The law DriftShares, whatever the ground, the claims and the ones are: both programs are computed by a verified evaluator, their answers compared with plain laws; no condition. -/
import Derived.Test.YtdeodfmhbgejoaaMg3
import Derived.Test.YtdeodfmhbgejoaaMe
import Derived.Test.YtdeodfmhbgejoaaMg0
import Derived.Test.YtdeodfmhbgejoaaRows
import Derived.Test.YtdeodfmhbgejoaaMt
/- Whom it moves: the lists. -/
namespace Go.VE
open Go.RowKit Go.Proofs
set_option maxRecDepth 100000

theorem s89z (n : Nat) : FN (n + 1) 89 [.lit (.slice none 0 0), il 0] = some (1, [.d (.lit (.slice none 0 0))]) := by
  rw [F89]
  have hw : IntKind.i64.wrap (0 - IntKind.i64.wrap (0 - 0)) = 0 := rfl
  simp only [G89, r_liti, r_litS, r_lss, r_cond, Int.lt_irrefl, decide_false, r_bnd0, r_ld0, r_lds, r_nilDD, r_lenN, r_sub, hw, r_gtr, Bool.false_eq_true, if_false, if_true, r_out]
theorem s60z (n : Nat) : FN (n + 2) 60 [.sl 1 [[.sl 4 []], [.sl 4 []]]] = some (1, [.d (.lit (.slice none 0 0))]) := by
  rw [F60]
  have w0 : IntKind.i64.wrap 0 = 0 := rfl
  have w1 : IntKind.i64.wrap 1 = 1 := rfl
  have w2 : IntKind.i64.wrap 2 = 2 := rfl
  have e0 : ∀ k, loopR [L60_0 (RP (n + 1))] (k + 1 + 1 + 1) 0 [.d (.sl 1 [[.sl 4 []], [.sl 4 []]]), .d (il 0), .d (.sl 1 [[.sl 4 []], [.sl 4 []]]), .d (il 2), .d (il 0)] = some (0, [.d (.sl 1 [[.sl 4 []], [.sl 4 []]]), .d (il 0)]) := by
    intro k
    rw [loopR_succ _ _ _ _ _ rfl]
    simp [L60_0, w0, w1]
    rw [loopR_succ _ _ _ _ _ rfl]
    simp [L60_0, w0, w1, w2]
    rw [loopR_succ _ _ _ _ _ rfl]
    simp [L60_0]
  have e2 : ∀ k, loopR [L60_2 (RP (n + 1)), L60_3 (RP (n + 1))] (k + 1 + 1 + 1) 0 [.d (.lit (.slice none 0 0)), .d (.sl 1 [[.sl 4 []], [.sl 4 []]]), .d (il 2), .d (il 0)] = some (0, [.d (.lit (.slice none 0 0))]) := by
    intro k
    rw [loopR_succ _ _ _ _ _ rfl]
    simp [L60_2, w0, w1, r_isNil0]
    rw [loopR_succ _ _ _ _ _ rfl]
    simp [L60_2, w0, w1, w2, r_isNil0]
    rw [loopR_succ _ _ _ _ _ rfl]
    simp [L60_2]
  have e0 := e0 18446744073709551613
  have e2 := e2 18446744073709551613
  rw [show 18446744073709551613 + 1 + 1 + 1 = M0 from rfl] at e0 e2
  have h89 := s89z n
  simp [G60, e0, h89, e2]
open Classical in
noncomputable def movedB (cl : List Cell) (l : List Claim) (i : Nat) : Bool := decide (l.length = 1) || !decide (leastV cl (l.eraseIdx i) = leastV cl l)
noncomputable def movedL (cl : List Cell) (l : List Claim) : Nat → List Claim → List Int
  | _, [] => []
  | i, c :: r => if movedB cl l i = true then c.family :: movedL cl l (i + 1) r else movedL cl l (i + 1) r
def resM (v : List Int) : Out := match v with
  | [] => some (0, [])
  | a :: r => some (1, [.n (a :: r).length, .n (a :: r).length, .r (rI (a :: r))])
theorem lErr_ne (v : Int × Int) : ¬ lErr v = 44 := by unfold lErr; split <;> decide
theorem movedL_len {cl : List Cell} {l : List Claim} : ∀ (r : List Claim) (i : Nat), (movedL cl l i r).length ≤ r.length
  | [], _ => by simp [movedL]
  | c :: r, i => by
    have := movedL_len (cl := cl) (l := l) r (i + 1)
    simp only [movedL]; split <;> simp <;> omega
theorem round49 (n : Nat) {cs : List Chain} {cl : List Cell} {l : List Claim} (hok : cOK cs cl l = 0) (h2 : 2 ≤ l.length) {i : Nat} (hi : i < l.length) :
    FN (n + 3) 87 [dChains cs, dCells cl, .sl 4 ((l.map rClaim).take i ++ (l.map rClaim).drop (i + 1))] = some (0, [.d (il (leastV cl (l.eraseIdx i)).1), .d (il (leastV cl (l.eraseIdx i)).2)]) := by
  have hR : (l.map rClaim).take i ++ (l.map rClaim).drop (i + 1) = (l.eraseIdx i).map rClaim := by
    rw [List.eraseIdx_eq_take_drop_succ, List.map_append, List.map_take, List.map_drop]
  rw [hR]
  exact (s87v n (erase_ok hok h2 hi)).1
set_option maxHeartbeats 1000000 in
theorem l49 (n : Nat) {cs : List Chain} {cl : List Cell} {l : List Claim} (hok : cOK cs cl l = 0) :
    loopR [L49_0 (RP (n + 3)), L49_1 (RP (n + 3))] M0 0 [.d (dClaims l), .d (il 0), .d (il (leastV cl l).1), .d (il (leastV cl l).2), .d (dChains cs), .d (dCells cl)] = resM (movedL cl l 0 l) := by
  obtain ⟨hgr, hl, hcl⟩ := cOK_in hok
  have := loop_ms (σ := Nat × List Int) [L49_0 (RP (n + 3)), L49_1 (RP (n + 3))]
    (fun s => match s.2 with
      | [] => (0, [.d (dClaims l), .d (il (s.1 : Int)), .d (il (leastV cl l).1), .d (il (leastV cl l).2), .d (dChains cs), .d (dCells cl)])
      | a :: r => (1, [.d (dClaims l), .n (a :: r).length, .n (a :: r).length, .d (il (s.1 : Int)), .r (rI (a :: r)), .d (il (leastV cl l).1), .d (il (leastV cl l).2), .d (dChains cs), .d (dCells cl)]))
    (fun s => l.length - s.1) (fun s => s.1 ≤ l.length ∧ s.2.length ≤ s.1) (fun s => resM (s.2 ++ movedL cl l s.1 (l.drop s.1))) ?_ M0 (0, []) (by simp) (M0_big (by simp only; omega))
  · simpa using this
  · rintro ⟨i, acc⟩ k ⟨h1, h2⟩ ih
    simp only at h1 h2
    by_cases hi : i < l.length
    · have hci : l[i]? = some l[i] := by simp [hi]
      have hdl := List.drop_eq_getElem_cons hi
      generalize l[i] = c at hci hdl
      have hhi : ∀ K, (RP (n + 3)).cutD 4 (.sl 4 (l.map rClaim)) none (some (il (i : Int))) K = K (.sl 4 ((l.map rClaim).take i)) := fun K => r_cutD_hi 4 _ _ K (by simp; omega)
      have hlo : ∀ K, (RP (n + 3)).cutD 4 (.sl 4 (l.map rClaim)) (some (il ((i : Int) + 1))) none K = K (.sl 4 ((l.map rClaim).drop (i + 1))) := fun K => r_cutD_lo 4 _ _ K (by simp; omega)
      have wi : IntKind.i64.wrap ((i : Int) + 1) = (i : Int) + 1 := wrap_id (by omega) (by omega)
      have lA : ((l.map rClaim).take i).length = i := by simp; omega
      have lB : ((l.map rClaim).drop (i + 1)).length = l.length - (i + 1) := by simp
      have hf1 : i * 32 ≤ 140737488355328 ∧ i ≤ 9223372036854775807 := by omega
      have hf2 : (i + (l.length - (i + 1))) * 32 ≤ 140737488355328 ∧ i + (l.length - (i + 1)) ≤ 9223372036854775807 := by omega
      have ihN := ih (i + 1, acc) ⟨by simp only; omega, by simp only; omega⟩ (by simp only; omega)
      have ihY := ih (i + 1, acc ++ [c.family]) ⟨by simp only; omega, by simp only [List.length_append, List.length_singleton]; omega⟩ (by simp only; omega)
      simp only [List.append_assoc, List.singleton_append] at ihY
      simp only
      rw [hdl]
      simp only [movedL]
      by_cases h1l : l.length = 1
      · have hz : i + (l.length - (i + 1)) = 0 := by omega
        have hz' : (i : Int) + ((l.length - (i + 1) : Nat) : Int) = 0 := by omega
        have hb : movedB cl l i = true := by simp [movedB, h1l]
        rw [if_pos hb]
        generalize hA : (l.map rClaim).take i = A at *
        generalize hB : (l.map rClaim).drop (i + 1) = B at *
        cases acc with
        | nil =>
          refine ⟨_, rfl, ?_⟩
          simp only [List.nil_append] at ihY ⊢
          simp [L49_0, dClaims, hi, hhi, hlo, wi, lA, lB, hf1, hf2, hz, hz', hci, rClaim, -getElem?_pos, List.getElem?_cons_zero, List.getElem?_cons_succ]
          simpa [dClaims, rI] using ihY
        | cons a r =>
          have hf3 : (r.length + 1 + 1) * 8 ≤ 140737488355328 ∧ r.length ≤ 9223372036854775805 := by simp at h2; omega
          refine ⟨_, rfl, ?_⟩
          simp [L49_1, dClaims, hi, hhi, hlo, wi, lA, lB, hf1, hf2, hz, hz', hci, rClaim, rI, hf3, -getElem?_pos, List.getElem?_cons_zero, List.getElem?_cons_succ]
          simpa [dClaims, rI] using ihY
      · have hz : ¬ i + (l.length - (i + 1)) = 0 := by omega
        have hz' : ¬ ((i : Int) + ((l.length - (i + 1) : Nat) : Int) = 0) := by omega
        have e87 := round49 n hok (by omega) hi
        have hbe : movedB cl l i = !decide (leastV cl (l.eraseIdx i) = leastV cl l) := by simp [movedB, h1l]
        have hpe : (leastV cl (l.eraseIdx i) = leastV cl l) ↔ ((leastV cl (l.eraseIdx i)).1 = (leastV cl l).1 ∧ (leastV cl (l.eraseIdx i)).2 = (leastV cl l).2) := Prod.ext_iff
        rw [hbe]
        generalize leastV cl (l.eraseIdx i) = v' at *
        generalize hA : (l.map rClaim).take i = A at *
        generalize hB : (l.map rClaim).drop (i + 1) = B at *
        have etAB : List.take (i + (l.length - (i + 1))) (A ++ B) = A ++ B := List.take_of_length_le (by simp; omega)
        by_cases hv : v' = leastV cl l
        · have hv2 := hpe.1 hv
          cases acc with
          | nil =>
            refine ⟨_, rfl, ?_⟩
            simp [L49_0, dClaims, hi, hhi, hlo, wi, lA, lB, hf1, hf2, hz, hz', hci, rClaim, etAB, e87, ynLit, isLit_il, hv2, hv, -getElem?_pos, List.getElem?_cons_zero, List.getElem?_cons_succ]
            simpa [dClaims, rI] using ihN
          | cons a r =>
            refine ⟨_, rfl, ?_⟩
            simp [L49_1, dClaims, hi, hhi, hlo, wi, lA, lB, hf1, hf2, hz, hz', hci, rClaim, etAB, e87, ynLit, isLit_il, hv2, hv, -getElem?_pos, List.getElem?_cons_zero, List.getElem?_cons_succ]
            simpa [dClaims, rI] using ihN
        · have hv2 : ¬ (v'.1 = (leastV cl l).1 ∧ v'.2 = (leastV cl l).2) := fun h => hv (hpe.2 h)
          cases acc with
          | nil =>
            refine ⟨_, rfl, ?_⟩
            simp only [List.nil_append] at ihY ⊢
            simp [L49_0, dClaims, hi, hhi, hlo, wi, lA, lB, hf1, hf2, hz, hz', hci, rClaim, etAB, e87, ynLit, isLit_il, hv2, hv, -getElem?_pos, List.getElem?_cons_zero, List.getElem?_cons_succ, -not_and]
            simpa [dClaims, rI] using ihY
          | cons a r =>
            have hf3 : (r.length + 1 + 1) * 8 ≤ 140737488355328 ∧ r.length ≤ 9223372036854775805 := by simp at h2; omega
            refine ⟨_, rfl, ?_⟩
            simp [L49_1, dClaims, hi, hhi, hlo, wi, lA, lB, hf1, hf2, hz, hz', hci, rClaim, etAB, e87, ynLit, isLit_il, hv2, hv, rI, hf3, -getElem?_pos, List.getElem?_cons_zero, List.getElem?_cons_succ, -not_and]
            simpa [dClaims, rI] using ihY
    · have he : i = l.length := by omega
      subst he
      simp only [List.drop_length, movedL, List.append_nil]
      cases acc with
      | nil => refine ⟨_, rfl, ?_⟩; simp [L49_0, dClaims, resM]
      | cons a r => refine ⟨_, rfl, ?_⟩; simp [L49_1, dClaims, resM]
end Go.VE
/- Whom it moves: the program's list. -/
namespace Go.VE
open Go.RowKit Go.Proofs
set_option maxRecDepth 100000

set_option maxHeartbeats 1000000 in
theorem l48 (n : Nat) {cs : List Chain} {cl : List Cell} {l : List Claim} (hok : cOK cs cl l = 0) :
    loopR [L48_0 (RP (n + 9)), L48_1 (RP (n + 9))] M0 0 [.d (dClaims l), .d (il (lErr (leastV cl l))), .d (dClaims l), .d (il (l.length : Int)), .d (il 0), .d (il (leastV cl l).1), .d (il (leastV cl l).2), .d (dChains cs), .d (dCells cl)] = resM (movedL cl l 0 l) := by
  obtain ⟨hgr, hl, hcl⟩ := cOK_in hok
  have := loop_ms (σ := Nat × List Int) [L48_0 (RP (n + 9)), L48_1 (RP (n + 9))]
    (fun s => match s.2 with
      | [] => (0, [.d (dClaims l), .d (il (lErr (leastV cl l))), .d (dClaims l), .d (il (l.length : Int)), .d (il (s.1 : Int)), .d (il (leastV cl l).1), .d (il (leastV cl l).2), .d (dChains cs), .d (dCells cl)])
      | a :: r => (1, [.d (dClaims l), .d (il (lErr (leastV cl l))), .n (a :: r).length, .n (a :: r).length, .d (dClaims l), .d (il (l.length : Int)), .d (il (s.1 : Int)), .r (rI (a :: r)), .d (il (leastV cl l).1), .d (il (leastV cl l).2), .d (dChains cs), .d (dCells cl)]))
    (fun s => l.length - s.1) (fun s => s.1 ≤ l.length ∧ s.2.length ≤ s.1) (fun s => resM (s.2 ++ movedL cl l s.1 (l.drop s.1))) ?_ M0 (0, []) (by simp) (M0_big (by simp only; omega))
  · simpa using this
  · rintro ⟨i, acc⟩ k ⟨h1, h2⟩ ih
    simp only at h1 h2
    by_cases hi : i < l.length
    · have hci : l[i]? = some l[i] := by simp [hi]
      have hdl := List.drop_eq_getElem_cons hi
      generalize l[i] = c at hci hdl
      have hhi : ∀ K, (RP (n + 9)).cutD 4 (.sl 4 (l.map rClaim)) none (some (il (i : Int))) K = K (.sl 4 ((l.map rClaim).take i)) := fun K => r_cutD_hi 4 _ _ K (by simp; omega)
      have hlo : ∀ K, (RP (n + 9)).cutD 4 (.sl 4 (l.map rClaim)) (some (il ((i : Int) + 1))) none K = K (.sl 4 ((l.map rClaim).drop (i + 1))) := fun K => r_cutD_lo 4 _ _ K (by simp; omega)
      have wi : IntKind.i64.wrap ((i : Int) + 1) = (i : Int) + 1 := wrap_id (by omega) (by omega)
      have lA : ((l.map rClaim).take i).length = i := by simp; omega
      have lB : ((l.map rClaim).drop (i + 1)).length = l.length - (i + 1) := by simp
      have hf1 : i * 32 ≤ 140737488355328 ∧ i ≤ 9223372036854775807 := by omega
      have hf2 : (i + (l.length - (i + 1))) * 32 ≤ 140737488355328 ∧ i + (l.length - (i + 1)) ≤ 9223372036854775807 := by omega
      have ihN := ih (i + 1, acc) ⟨by simp only; omega, by simp only; omega⟩ (by simp only; omega)
      have ihY := ih (i + 1, acc ++ [c.family]) ⟨by simp only; omega, by simp only [List.length_append, List.length_singleton]; omega⟩ (by simp only; omega)
      simp only [List.append_assoc, List.singleton_append] at ihY
      simp only
      rw [hdl]
      simp only [movedL]
      by_cases h1l : l.length = 1
      · have hz : i + (l.length - (i + 1)) = 0 := by omega
        have hz' : (i : Int) + ((l.length - (i + 1) : Nat) : Int) = 0 := by omega
        have hb : movedB cl l i = true := by simp [movedB, h1l]
        have hA0 : (l.map rClaim).take i = [] := List.eq_nil_of_length_eq_zero (by omega)
        have hB0 : (l.map rClaim).drop (i + 1) = [] := List.eq_nil_of_length_eq_zero (by omega)
        have e60 := s60z (n + 7)
        have e27 := s27n (n + 3) cs cl hgr
        have hne := lErr_ne (leastV cl l)
        rw [if_pos hb]
        rw [hA0] at hhi
        rw [hB0] at hlo
        cases acc with
        | nil =>
          refine ⟨_, rfl, ?_⟩
          simp only [List.nil_append] at ihY ⊢
          simp [L48_0, dClaims, hi, hhi, hlo, wi, e60, e27, hne, ynLit, show (D.lit (Value.slice none 0 0)).isLit = true from rfl, hci, rClaim, -getElem?_pos, List.getElem?_cons_zero, List.getElem?_cons_succ]
          simpa [dClaims, rI] using ihY
        | cons a r =>
          have hf3 : (r.length + 1 + 1) * 8 ≤ 140737488355328 ∧ r.length ≤ 9223372036854775805 := by simp at h2; omega
          refine ⟨_, rfl, ?_⟩
          simp [L48_1, dClaims, hi, hhi, hlo, wi, e60, e27, hne, ynLit, show (D.lit (Value.slice none 0 0)).isLit = true from rfl, hci, rClaim, rI, hf3, -getElem?_pos, List.getElem?_cons_zero, List.getElem?_cons_succ]
          simpa [dClaims, rI] using ihY
      · have hz : ¬ i + (l.length - (i + 1)) = 0 := by omega
        have hz' : ¬ ((i : Int) + ((l.length - (i + 1) : Nat) : Int) = 0) := by omega
        have e60 := s60 (n + 7) ((l.map rClaim).take i) ((l.map rClaim).drop (i + 1)) (by rw [lA, lB]; omega) (by rw [lA, lB]; omega)
        have hR : (l.map rClaim).take i ++ (l.map rClaim).drop (i + 1) = (l.eraseIdx i).map rClaim := by
          rw [List.eraseIdx_eq_take_drop_succ, List.map_append, List.map_take, List.map_drop]
        have e27 := s27v n (erase_ok hok (show 2 ≤ l.length by omega) hi)
        have hlits : ((((l.map rClaim).take i ++ (l.map rClaim).drop (i + 1)).all fun r => r.all D.isLit) = true) := by
          rw [hR]; simp [rClaim, isLit_il]
        have hlA : (∀ x ∈ (l.map rClaim).take i, ∀ y ∈ x, y.isLit = true) = True := eq_true fun x hx y hy => by
          obtain ⟨q, _, rfl⟩ := List.mem_map.1 (List.mem_of_mem_take hx)
          simp [rClaim] at hy; rcases hy with rfl | rfl | rfl | rfl <;> rfl
        have hlB : (∀ x ∈ (l.map rClaim).drop (i + 1), ∀ y ∈ x, y.isLit = true) = True := eq_true fun x hx y hy => by
          obtain ⟨q, _, rfl⟩ := List.mem_map.1 (List.mem_of_mem_drop hx)
          simp [rClaim] at hy; rcases hy with rfl | rfl | rfl | rfl <;> rfl
        have hlAB : (∀ x, x ∈ (l.map rClaim).take i ∨ x ∈ (l.map rClaim).drop (i + 1) → ∀ y ∈ x, y.isLit = true) = True := eq_true fun x hx y hy => by
          rcases hx with hx | hx
          · exact (of_eq_true hlA) x hx y hy
          · exact (of_eq_true hlB) x hx y hy
        simp only [dClaims, ← hR] at e27
        have hbe : movedB cl l i = !decide (leastV cl (l.eraseIdx i) = leastV cl l) := by simp [movedB, h1l]
        have hpe0 : (leastV cl (l.eraseIdx i) = leastV cl l) ↔ ((leastV cl (l.eraseIdx i)).1 = (leastV cl l).1 ∧ (leastV cl (l.eraseIdx i)).2 = (leastV cl l).2) := Prod.ext_iff
        have hpe : (leastV cl (l.eraseIdx i) = leastV cl l) ↔ ((leastV cl l).1 = (leastV cl (l.eraseIdx i)).1 ∧ (leastV cl l).2 = (leastV cl (l.eraseIdx i)).2) := ⟨fun h => by rw [h]; exact ⟨rfl, rfl⟩, fun h => Prod.ext h.1.symm h.2.symm⟩
        rw [hbe]
        generalize leastV cl (l.eraseIdx i) = v' at *
        generalize hA : (l.map rClaim).take i = A at *
        generalize hB : (l.map rClaim).drop (i + 1) = B at *
        have etAB : List.take (i + (l.length - (i + 1))) (A ++ B) = A ++ B := List.take_of_length_le (by simp; omega)
        by_cases hv : v' = leastV cl l
        · rw [hv] at e27
          rw [hv]
          cases acc with
          | nil =>
            refine ⟨_, rfl, ?_⟩
            simp [L48_0, dClaims, hi, hhi, hlo, wi, lA, lB, hf1, hf2, hz, hz', hci, rClaim, etAB, e60, e27, ynLit, isLit_il, hlA, hlB, hlAB, hlits, -getElem?_pos, List.getElem?_cons_zero, List.getElem?_cons_succ]
            simpa [dClaims, rI] using ihN
          | cons a r =>
            refine ⟨_, rfl, ?_⟩
            simp [L48_1, dClaims, hi, hhi, hlo, wi, lA, lB, hf1, hf2, hz, hz', hci, rClaim, etAB, e60, e27, ynLit, isLit_il, hlA, hlB, hlAB, hlits, -getElem?_pos, List.getElem?_cons_zero, List.getElem?_cons_succ]
            simpa [dClaims, rI] using ihN
        · have hv2 : ¬ ((leastV cl l).1 = v'.1 ∧ (leastV cl l).2 = v'.2) := fun h => hv (hpe.2 h)
          cases acc with
          | nil =>
            refine ⟨_, rfl, ?_⟩
            simp only [List.nil_append] at ihY ⊢
            simp [L48_0, dClaims, hi, hhi, hlo, wi, lA, lB, hf1, hf2, hz, hz', hci, rClaim, etAB, e60, e27, ynLit, isLit_il, hlA, hlB, hlAB, hlits, hv2, hv, -getElem?_pos, List.getElem?_cons_zero, List.getElem?_cons_succ, -not_and]
            simpa [dClaims, rI] using ihY
          | cons a r =>
            have hf3 : (r.length + 1 + 1) * 8 ≤ 140737488355328 ∧ r.length ≤ 9223372036854775805 := by simp at h2; omega
            refine ⟨_, rfl, ?_⟩
            simp [L48_1, dClaims, hi, hhi, hlo, wi, lA, lB, hf1, hf2, hz, hz', hci, rClaim, etAB, e60, e27, ynLit, isLit_il, hlA, hlB, hlAB, hlits, hv2, hv, rI, hf3, -getElem?_pos, List.getElem?_cons_zero, List.getElem?_cons_succ, -not_and]
            simpa [dClaims, rI] using ihY
    · have he : i = l.length := by omega
      subst he
      simp only [List.drop_length, movedL, List.append_nil]
      cases acc with
      | nil => refine ⟨_, rfl, ?_⟩; simp [L48_0, dClaims, resM]
      | cons a r => refine ⟨_, rfl, ?_⟩; simp [L48_1, dClaims, resM]
end Go.VE
/- The law DriftShares. -/
namespace Go.VE
open Go.RowKit Go.Proofs
set_option maxRecDepth 100000

def dIN (v : List Int) : D := match v with
  | [] => .lit (.slice none 0 0)
  | a :: r => dI (a :: r)
theorem s49v (n : Nat) {cs : List Chain} {cl : List Cell} {l : List Claim} (hok : cOK cs cl l = 0) : FN (n + 5) 49 [dChains cs, dCells cl, dClaims l] = some (0, [.d (dIN (movedL cl l 0 l)), .d (il 0)]) := by
  obtain ⟨hgr, hl, hcl⟩ := cOK_in hok
  have h18 := s18 n cs cl l (by omega)
  rw [hok] at h18
  have e := (s87v (n + 1) hok).1
  have el := l49 (n + 1) hok
  rw [F49]
  generalize movedL cl l 0 l = v at *
  simp only [G49, r_call, h18, r_bnd0, r_ld0, r_lds, r_liti, r_neq, ne_eq, not_true_eq_false, decide_false, r_cond, Bool.false_eq_true, if_false, e, r_loop, el]
  cases v with
  | nil => simp [resM, dIN]
  | cons a r =>
    simp [resM, dIN, dI, rI]
    exact List.take_of_length_le (by simp)
theorem s48v (n : Nat) {cs : List Chain} {cl : List Cell} {l : List Claim} (hok : cOK cs cl l = 0) : FN (n + 10) 48 [dChains cs, dCells cl, dClaims l] = some (0, [.d (dIN (movedL cl l 0 l)), .d (il 0)]) := by
  obtain ⟨hgr, hl, hcl⟩ := cOK_in hok
  have h67 := s67 (n + 4) cs cl l
  rw [hok] at h67
  have e := s27v n hok
  have el := l48 n hok
  rw [F48]
  generalize movedL cl l 0 l = v at *
  have hll : ∀ K, (RP (n + 9)).lenD (dClaims l) K = K (il (l.length : Int)) := fun K => by rw [dClaims, r_lenD, List.length_map]
  simp only [G48, r_call, h67, r_bnd0, r_ld0, r_lds, r_liti, r_neq, ne_eq, not_true_eq_false, decide_false, r_cond, Bool.false_eq_true, if_false, e, r_loop, hll, el]
  cases v with
  | nil => simp [resM, dIN]
  | cons a r =>
    simp [resM, dIN, dI, rI]
    exact List.take_of_length_le (by simp)
theorem s51' (n : Nat) (v : List Int) (h : v.length ≤ 140737488355328) : FN (n + 1) 51 [dIN v, dIN v] = some (0, [.d (bl true)]) := by
  cases v with
  | nil =>
    rw [F51]
    simp only [dIN, G51, r_lenN, r_eql, decide_true, r_loop, r_liti]
    rw [show M0 = 18446744073709551615 + 1 from rfl, loopR_succ _ _ _ _ _ rfl]
    simp [L51_0]
  | cons a r => exact s51 n _ _ h rfl
theorem s50n (n : Nat) : FN (n + 1) 50 [.lit (.slice none 0 0), .lit (.slice none 0 0)] = some (0, [.d (bl true)]) := by
  rw [F50]
  simp only [G50, r_lenN, r_eql, decide_true, r_loop, r_liti]
  rw [show M0 = 18446744073709551615 + 1 from rfl, loopR_succ _ _ _ _ _ rfl]
  simp [L50_0]
theorem l10_10 {Δ N R W M E Ω : Type} (pr : Pr Δ N R W M E Ω) : L10_1 pr = L10_0 pr := rfl
theorem l10 (n : Nat) (G : List (Int × Int)) (g : Int × Int) (hG : G.length ≤ 100) (hgo : ∀ p ∈ G, 0 ≤ p.1 ∧ p.1 ≤ 1000000 ∧ 0 ≤ p.2 ∧ p.2 ≤ 1000000) (hg : 0 ≤ g.1 ∧ g.1 ≤ 1000000 ∧ 0 ≤ g.2 ∧ g.2 ≤ 1000000) (hm : g ∈ G) (hle : ∀ p ∈ G, gLt p g = false)
    {Fn : Nat → List D → Out} {FnD : D → List Sh → List D → Out} {m : Nat} (h56 : ∀ xs, Fn 56 xs = FN (n + 1) 56 xs) :
    loopR [L10_0 (real Fn FnD m)] M0 0 [.d (dGains G), .d (bl false), .d (il 0), .d (il g.1), .d (il g.2)] = some (1, [.d (bl true)]) := by
  have key := range_loop (β := Bool) G (by omega) (L10_0 (real Fn FnD m)) (fun i b => [.d (dGains G), .d (bl b), .d (il (i : Int)), .d (il g.1), .d (il g.2)]) (fun _ _ => True)
    (fun _ r b => some (1, [.d (bl (b || decide (g ∈ r)))])) ?_ ?_ M0 false trivial (M0_big (by omega))
  · simp only [Int.cast_ofNat_Int] at key
    rw [key]; simp [hm]
  · intro b k _; simp [L10_0, dGains]
  · intro i p r b k hp hr hi hw _ ih
    have hpm := List.mem_of_getElem? hp
    have hpo := hgo p hpm
    have e := s56 n p.1 p.2 g.1 g.2 (by omega) (by omega) (by omega) (by omega)
    rw [show decide (p.1 * g.2 < g.1 * p.2) = gLt p g from rfl, hle p hpm] at e
    cases b with
    | true =>
      have ih' := ih true trivial
      simp only [Int.natCast_add, Int.cast_ofNat_Int, dGains] at ih'
      simp [L10_0, dGains, hi, hp, rG, h56, e, hw, -getElem?_pos, List.getElem?_cons_zero, List.getElem?_cons_succ]
      simpa [rG] using ih'
    | false =>
      have ih' := ih (decide (p = g)) trivial
      have hpe : (p = g) ↔ (p.1 = g.1 ∧ p.2 = g.2) := Prod.ext_iff
      have hde : decide (p.1 = g.1 ∧ p.2 = g.2) = decide (p = g) := by rw [Bool.eq_iff_iff]; simp only [decide_eq_true_eq]; exact hpe.symm
      simp only [Int.natCast_add, Int.cast_ofNat_Int, dGains] at ih'
      simp only [L10_0, r_ld0, r_lds, dGains, r_lenD, List.length_map, r_lss, Int.ofNat_lt, hi, decide_true, r_cond, if_true, r_rowDg, Int.natCast_nonneg, Int.toNat_natCast, List.getElem?_map, hp, Option.map_some, rG, List.length_cons, List.length_nil, and_self, r_cell0, r_cells, r_call, h56, e, r_bnd0, Bool.false_eq_true, if_false, r_eqs2, hde, r_add, r_liti, hw]
      refine Eq.trans ih' ?_
      have : decide (g ∈ p :: r) = (decide (p = g) || decide (g ∈ r)) := by
        rw [Bool.eq_iff_iff]; simp only [List.mem_cons, Bool.or_eq_true, decide_eq_true_eq]; exact ⟨fun h => h.imp Eq.symm id, fun h => h.imp Eq.symm id⟩
      rw [this]; simp
theorem cOK_47 (cs : List Chain) (cl : List Cell) (l : List Claim) : cOK cs cl l ≠ 47 := by
  unfold cOK; split
  · split <;> decide
  · decide
set_option maxHeartbeats 4000000 in
theorem s10 (n : Nat) {Fn : Nat → List D → Out} {FnD : D → List Sh → List D → Out} (h11 : Fn 11 [] = some (0, [.d (bl true)])) (hF : ∀ f xs, f ≠ 11 → Fn f xs = FN (n + 10) f xs)
    (cs : List Chain) (cl : List Cell) (l : List Claim) (hll : l.length ≤ 140737488355328) (ds : List Drift) (hd : ds.length ≤ 140737488355328) (a b f : Int) (ss : List Int) (hss : ss.length ≤ 140737488355328) (x : Int × Int) :
    G10 (real Fn FnD M0) (dChains cs) (dCells cl) (dClaims l) (dDrifts ds) (il a) (il b) (il f) (dI ss) (il x.1) (il x.2) = some (0, [.d (bl true)]) := by
  have hl' : l.length ≤ 9223372036854775806 := by omega
  have e45 := s45 (n + 3) cs cl l ds hd
  have e46 := s46 (n + 4) cs cl l ds hd hl'
  have e36 := s36 (n + 4) cs cl l ds hd
  have e52 := s52 (n + 5) cs cl l ds hd hl'
  have e35 := s35 (n + 4) cs cl l a b
  have e53 := s53 (n + 4) cs cl l a b hl'
  have e44 := s44 (n + 4) cs cl l f ss x hss
  have e54 := s54 (n + 4) cs cl l f ss x hss hl'
  by_cases hok : cOK cs cl l = 0
  case neg =>
    have h47 := cOK_47 cs cl l
    have e27 := s27e (n + 4) cs cl l hok
    have e47 := s47e (n + 4) cs cl l hl' hok
    have e48 := s48e (n + 4) cs cl l hok
    have e49 := s49e (n + 4) cs cl l hl' hok
    have e33 := s33e (n + 4) cs cl l hok
    have e34 := s34e (n + 4) cs cl l hok
    have e43 := s43e (n + 4) cs cl l hok
    have e55 := s55e (n + 3) cs cl l hl' hok h47
    have e50 := s50n (n + 9)
    have e51 := s51' (n + 9) [] (by simp)
    simp only [dIN] at e51
    simp only [hok, if_false] at e45 e46
    simp [G10, h11, hF 45 _ (by decide), hF 46 _ (by decide), hF 27 _ (by decide), hF 47 _ (by decide), hF 48 _ (by decide), hF 49 _ (by decide), hF 50 _ (by decide), hF 51 _ (by decide), hF 36 _ (by decide), hF 52 _ (by decide), hF 35 _ (by decide), hF 53 _ (by decide), hF 44 _ (by decide), hF 54 _ (by decide), hF 33 _ (by decide), hF 43 _ (by decide), hF 34 _ (by decide), hF 55 _ (by decide), e45, e46, e27, e47, e48, e49, e50, e51, e36, e52, e35, e53, e44, e54, e33, e43, e34, e55, hok]
  case pos =>
    obtain ⟨hgr, hl, hcl⟩ := cOK_in hok
    have hv := okClaims_mem hcl
    have hvv : ∀ c ∈ l, vClaim c.family c.heads c.from_ c.to = true := fun c h => (hv c h).1
    have hc := okG_worth hgr
    have e27 := s27v (n + 1) hok
    have e47 := s47v (n + 5) hok
    have e48 := s48v n hok
    have e49 := s49v (n + 5) hok
    have e51 := s51' (n + 9) (movedL cl l 0 l) (by have := movedL_len (cl := cl) (l := l) l 0; omega)
    have e55 := s55v (n + 4) hok
    rw [if_pos hok] at e45 e46
    obtain ⟨gD, ge, e45', e46', e50⟩ : ∃ gD ge, FN (n + 10) 45 [dChains cs, dCells cl, dClaims l, dDrifts ds] = some (0, [.d gD, .d (il ge)]) ∧ FN (n + 10) 46 [dChains cs, dCells cl, dClaims l, dDrifts ds] = some (0, [.d gD, .d (il ge)]) ∧ FN (n + 10) 50 [gD, gD] = some (0, [.d (bl true)]) := by
      cases hs : shr (-1) ds l with
      | true =>
        rw [hs] at e45 e46
        have hlen : (gainsL cl l ds).length = l.length := by simp [gainsL, shr_len hs]
        exact ⟨_, _, e45, e46, s50 (n + 9) _ _ (by omega) rfl⟩
      | false =>
        rw [hs] at e45 e46
        exact ⟨_, _, e45, e46, s50n (n + 9)⟩
    clear e45 e46
    generalize movedL cl l 0 l = mv at *
    obtain ⟨gds, gss, gb, hg⟩ : ∃ x y z, grd anyP cl l 0 [] [] = (x, y, z) := ⟨_, _, _, rfl⟩
    cases gb with
    | true =>
      obtain ⟨best, g, mds, mss, e68, hf⟩ := s68t (n + 1) cs cl l hok hg
      have hne : l ≠ [] := fun h => by rw [h] at hl; simp at hl
      have ho := fair_opt hf hc hv hne
      have hlenb : (gainsL cl l best).length = l.length := by simp [gainsL, shr_len hf.shr_]
      have hneb : gainsL cl l best ≠ [] := fun h => by rw [h] at hlenb; simp at hlenb; omega
      have hgb := gains_ok (ds := best) hc hvv
      have hgm := minL_mem hneb
      rw [← hf.low] at hgm
      have hgg := hgb _ hgm
      rw [leastV_eq ho] at e27 e47 e55
      have hg2 : ¬ g.2 = 0 := by omega
      rw [lErr, if_neg hg2] at e27 e47
      rw [if_neg hg2] at e55
      obtain ⟨wo, w1, w2, w3⟩ := wallV_ok hc ⟨hgg.1, by omega⟩ hv hf.more
      have e33 := s33t (n + 4) cs cl l hok e68
      have e43 := s43t (n + 4) cs cl l hok w1 w2 w3 e68
      have e34 := s34t (n + 4) cs cl l hok hg
      have hwl : (wallV l mss).length ≤ 140737488355328 := by
        have : (wallV l mss).length ≤ mss.length + 1 := by
          unfold wallV; simp
        omega
      have e46b := s46 (n + 4) cs cl l best (by have := shr_len hf.shr_; omega) hl'
      rw [if_pos hok, if_pos hf.shr_] at e46b
      have e54b := s54 (n + 4) cs cl l 0 (wallV l mss) g hwl hl'
      have hig : isG g.1 g.2 = true := by simp only [isG, decide_eq_true_eq]; omega
      rw [cwErr, if_pos hok, if_pos hig, if_pos wo] at e54b
      have em := l10 (n + 9) (gainsL cl l best) g (by omega) (fun p hp => by have := hgb p hp; omega) (by omega) hgm (fun p hp => by
        have := minL_le (fun q h => (hgb q h).2.2.1) p hp
        rw [← hf.low] at this
        cases h : gLt p g with
        | false => rfl
        | true => exact (gLt_iff.1 h this).elim) (Fn := Fn) (FnD := FnD) (m := M0) (fun xs => hF 56 xs (by decide))
      simp [G10, h11, hF 45 _ (by decide), hF 46 _ (by decide), hF 27 _ (by decide), hF 47 _ (by decide), hF 48 _ (by decide), hF 49 _ (by decide), hF 50 _ (by decide), hF 51 _ (by decide), hF 36 _ (by decide), hF 52 _ (by decide), hF 35 _ (by decide), hF 53 _ (by decide), hF 44 _ (by decide), hF 54 _ (by decide), hF 33 _ (by decide), hF 43 _ (by decide), hF 34 _ (by decide), hF 55 _ (by decide), e45', e46', e27, e47, e48, e49, e50, e51, e36, e52, e35, e53, e44, e54, e33, e43, e34, e55, e46b, e54b, l10_10, em, hok]
    | false =>
      have ho : RowOK cl l 0 (0, 0) := .inl ⟨rfl, fun e he => by
        have := grd_complete (ds := []) (ss := []) mono_any hc (by simpa using he) (show (0 : Int) ≤ -1 + 1 by omega) hv (fun _ _ => rfl)
        rw [hg] at this; cases this⟩
      rw [leastV_eq ho] at e27 e47 e55
      have e68 := s68f (n + 1) cs cl l hok hg
      have e33 := s33f (n + 4) cs cl l hok e68
      have e43 := s43f (n + 4) cs cl l hok e68
      obtain ⟨a', b', e34, hab⟩ := s34f (n + 4) cs cl l hok hg
      have e53b := s53 (n + 4) cs cl l a' b' hl'
      rw [if_pos hok, if_pos hab] at e53b
      simp only [lErr, if_true] at e27 e47 e55
      simp [G10, h11, hF 45 _ (by decide), hF 46 _ (by decide), hF 27 _ (by decide), hF 47 _ (by decide), hF 48 _ (by decide), hF 49 _ (by decide), hF 50 _ (by decide), hF 51 _ (by decide), hF 36 _ (by decide), hF 52 _ (by decide), hF 35 _ (by decide), hF 53 _ (by decide), hF 44 _ (by decide), hF 54 _ (by decide), hF 33 _ (by decide), hF 43 _ (by decide), hF 34 _ (by decide), hF 55 _ (by decide), e45', e46', e27, e47, e48, e49, e50, e51, e36, e52, e35, e53, e44, e54, e33, e43, e34, e55, e53b, hok]
end Go.VE
/- The types of the arguments: what data of them are. -/
namespace Go.VE
open Go.RowKit Go.Proofs Go.Proofs.Ytdeodfmhbgejoaa
set_option maxRecDepth 100000

theorem o3 {n : Nat} {ds : List D} (h : HasT Try.prog (n + 1) 3 ds) : ∃ z, ds = [il z] ∧ -9223372036854775808 ≤ z ∧ z ≤ 9223372036854775807 := h.int Try.underlying3
theorem o28 {n : Nat} {ds : List D} (h : HasT Try.prog (n + 2) 28 ds) : ∃ a b, ds = [il a, il b] := by
  obtain ⟨a, b, rfl, h1, c, d, rfl, h2, rfl⟩ := h.struct Try.underlying28 rfl
  obtain ⟨x, rfl, _⟩ := o3 h1
  obtain ⟨y, rfl, _⟩ := o3 h2
  exact ⟨x, y, rfl⟩
theorem o30 {n : Nat} {ds : List D} (h : HasT Try.prog (n + 3) 30 ds) : ∃ c : Chain, ds = rChain c := by
  obtain ⟨a, b, rfl, h1, c, d, rfl, h2, rfl⟩ := h.struct Try.underlying30 rfl
  obtain ⟨x, rfl, _⟩ := o3 h1
  obtain ⟨y, z, rfl⟩ := o28 h2
  exact ⟨⟨x, y, z⟩, rfl⟩
theorem o32 {n : Nat} {ds : List D} (h : HasT Try.prog (n + 2) 32 ds) : ∃ c : Cell, ds = rCell c := by
  obtain ⟨a, b, rfl, h1, c, d, rfl, h2, e, f, rfl, h3, rfl⟩ := h.struct Try.underlying32 rfl
  obtain ⟨x, rfl, _⟩ := o3 h1
  obtain ⟨y, rfl, _⟩ := o3 h2
  obtain ⟨z, rfl, _⟩ := o3 h3
  exact ⟨⟨x, y, z⟩, rfl⟩
theorem o34 {n : Nat} {ds : List D} (h : HasT Try.prog (n + 2) 34 ds) : ∃ c : Claim, ds = rClaim c := by
  obtain ⟨a, b, rfl, h1, c, d, rfl, h2, e, f, rfl, h3, g, i, rfl, h4, rfl⟩ := h.struct Try.underlying34 rfl
  obtain ⟨x, rfl, _⟩ := o3 h1
  obtain ⟨y, rfl, _⟩ := o3 h2
  obtain ⟨z, rfl, _⟩ := o3 h3
  obtain ⟨u, rfl, _⟩ := o3 h4
  exact ⟨⟨x, y, z, u⟩, rfl⟩
theorem o22 {n : Nat} {ds : List D} (h : HasT Try.prog (n + 4) 22 ds) : ∃ l : List Chain, ds = [dChains l] ∧ l.length ≤ 140737488355328 := by
  obtain ⟨rows, rfl, h1, h2⟩ := h.sl (c := 3) (b := 24) Try.underlying22 (by kernel_rfl) (by kernel_rfl)
  obtain ⟨l, rfl⟩ := rows_map (f := rChain) fun r hr => o30 (h2 r hr)
  simp only [List.length_map] at h1
  exact ⟨l, rfl, by omega⟩
theorem o23 {n : Nat} {ds : List D} (h : HasT Try.prog (n + 3) 23 ds) : ∃ l : List Cell, ds = [dCells l] ∧ l.length ≤ 140737488355328 := by
  obtain ⟨rows, rfl, h1, h2⟩ := h.sl (c := 3) (b := 24) Try.underlying23 (by kernel_rfl) (by kernel_rfl)
  obtain ⟨l, rfl⟩ := rows_map (f := rCell) fun r hr => o32 (h2 r hr)
  simp only [List.length_map] at h1
  exact ⟨l, rfl, by omega⟩
theorem o26 {n : Nat} {ds : List D} (h : HasT Try.prog (n + 3) 26 ds) : ∃ l : List Claim, ds = [dClaims l] ∧ l.length ≤ 140737488355328 := by
  obtain ⟨rows, rfl, h1, h2⟩ := h.sl (c := 4) (b := 32) Try.underlying26 (by kernel_rfl) (by kernel_rfl)
  obtain ⟨l, rfl⟩ := rows_map (f := rClaim) fun r hr => o34 (h2 r hr)
  simp only [List.length_map] at h1
  exact ⟨l, rfl, by omega⟩
theorem o25 {n : Nat} {ds : List D} (h : HasT Try.prog (n + 5) 25 ds) : ∃ (cs : List Chain) (cl : List Cell), ds = [dChains cs, dCells cl] ∧ cs.length ≤ 140737488355328 ∧ cl.length ≤ 140737488355328 := by
  obtain ⟨a, b, rfl, h1, c, d, rfl, h2, rfl⟩ := h.struct Try.underlying25 rfl
  obtain ⟨cs, rfl, hc⟩ := o22 h1
  obtain ⟨cl, rfl, hl⟩ := o23 h2
  exact ⟨cs, cl, rfl, hc, hl⟩

/-- All contracts, the examples' by its own. -/
noncomputable def FnS (n : Nat) (f : Nat) (xs : List D) : Out := if f = 11 ∧ xs = [] then some (0, [.d (bl true)]) else FN n f xs
theorem FnS_ok (n : Nat) : FnOK Try.prog (cf3 tb Try.prog) (FnS n) := by
  intro f sh xs vs j ys rs h1 h2 h3 h4
  unfold FnS at h3
  split at h3
  · rename_i hc
    obtain ⟨rfl, rfl⟩ := hc
    simp only [Option.some.injEq, Prod.mk.injEq] at h3
    obtain ⟨rfl, rfl⟩ := h3
    have e1 : (cf3 tb Try.prog).ash 11 = some [] := rfl
    rw [e1] at h1
    cases h1
    cases h2
    have e2 : ((cf3 tb Try.prog).rsk 11)[0]? = some [(false, [.d])] := rfl
    rw [e2] at h4
    cases h4
    exact sane_sc
  · exact FnT_ok mixP n f sh xs vs j ys rs h1 h2 h3 h4
theorem FnS_11 (n : Nat) : FnS n 11 [] = some (0, [.d (bl true)]) := by simp [FnS]
theorem FnS_ne (n : Nat) (f : Nat) (xs : List D) (h : f ≠ 11) : FnS n f xs = FN n f xs := by simp [FnS, h]
theorem own : ownKnob Try.prog.godebug = none := by kernel_rfl
theorem laidOut : laidOutB Try.prog = true := by kernel_rfl
end Go.VE
/- The statement DriftShares: whatever the ground, the claims and the ones are, whether drifts, a crowd and a wall are ones, what families gain, the least gain, and whom it moves, is the same in both programs; what Share, Wall and Crowded return is accepted. -/
namespace Go.VE
open Go.RowKit Go.Proofs Go.Proofs.Ytdeodfmhbgejoaa
set_option maxRecDepth 100000
theorem o58' {n : Nat} {ds : List D} (h : HasT Try.prog (n + 2) 58 ds) : ∃ a b, ds = [il a, il b] := by
  obtain ⟨a, b, rfl, h1, c, d, rfl, h2, rfl⟩ := h.struct Try.underlying58 rfl
  obtain ⟨x, rfl, _⟩ := o3 h1
  obtain ⟨y, rfl, _⟩ := o3 h2
  exact ⟨x, y, rfl⟩
theorem o65' {n : Nat} {ds : List D} (h : HasT Try.prog (n + 2) 65 ds) : ∃ v, ds = [dI v] ∧ v.length ≤ 140737488355328 := by
  obtain ⟨rows, rfl, h1, h2⟩ := h.sl (c := 1) (b := 8) Try.underlying65 (by kernel_rfl) (by kernel_rfl)
  obtain ⟨l, rfl⟩ := rows_map (f := fun z => [il z]) fun r hr => by
    obtain ⟨z, h, _⟩ := o3 (h2 r hr)
    exact ⟨z, h⟩
  simp only [List.length_map] at h1
  exact ⟨l, rfl, by omega⟩
theorem o89 {n : Nat} {ds : List D} (h : HasT Try.prog (n + 3) 89 ds) : ∃ f v, ds = [il f, dI v] ∧ v.length ≤ 140737488355328 := by
  obtain ⟨a, b, rfl, h1, c, d, rfl, h2, rfl⟩ := h.struct Try.underlying89 rfl
  obtain ⟨x, rfl, _⟩ := o3 h1
  obtain ⟨v, rfl, hv⟩ := o65' h2
  exact ⟨x, v, rfl, hv⟩
theorem o91 {n : Nat} {ds : List D} (h : HasT Try.prog (n + 4) 91 ds) : ∃ f v x y, ds = [il f, dI v, il x, il y] ∧ v.length ≤ 140737488355328 := by
  obtain ⟨a, b, rfl, h1, c, d, rfl, h2, rfl⟩ := h.struct Try.underlying91 rfl
  obtain ⟨f, v, rfl, hv⟩ := o89 h1
  obtain ⟨x, y, rfl⟩ := o58' h2
  exact ⟨f, v, x, y, rfl, hv⟩
theorem o67' {n : Nat} {ds : List D} (h : HasT Try.prog (n + 2) 67 ds) : ∃ d : Drift, ds = rDrift d := by
  obtain ⟨a, b, rfl, h1, c, d, rfl, h2, rfl⟩ := h.struct Try.underlying67 rfl
  obtain ⟨x, rfl, _⟩ := o3 h1
  obtain ⟨y, rfl, _⟩ := o3 h2
  exact ⟨⟨x, y⟩, rfl⟩
theorem o75 {n : Nat} {ds : List D} (h : HasT Try.prog (n + 2) 75 ds) : ∃ a b, ds = [il a, il b] := by
  obtain ⟨a, b, rfl, h1, c, d, rfl, h2, rfl⟩ := h.struct Try.underlying75 rfl
  obtain ⟨x, rfl, _⟩ := o3 h1
  obtain ⟨y, rfl, _⟩ := o3 h2
  exact ⟨x, y, rfl⟩
theorem o76 {n : Nat} {ds : List D} (h : HasT Try.prog (n + 3) 76 ds) : ∃ l, ds = [dDrifts l] ∧ l.length ≤ 140737488355328 := by
  obtain ⟨rows, rfl, h1, h2⟩ := h.sl (c := 2) (b := 16) Try.underlying76 (by kernel_rfl) (by kernel_rfl)
  obtain ⟨l, rfl⟩ := rows_map (f := rDrift) fun r hr => o67' (h2 r hr)
  simp only [List.length_map] at h1
  exact ⟨l, rfl, by omega⟩
theorem o101 {n : Nat} {ds : List D} (h : HasT Try.prog (n + 5) 101 ds) : ∃ l a b f v x y, ds = [dDrifts l, il a, il b, il f, dI v, il x, il y] ∧ l.length ≤ 140737488355328 ∧ v.length ≤ 140737488355328 := by
  obtain ⟨_, _, rfl, h1, _, _, rfl, h2, _, _, rfl, h3, rfl⟩ := h.struct Try.underlying101 rfl
  obtain ⟨l, rfl, hl⟩ := o76 h1
  obtain ⟨a, b, rfl⟩ := o75 h2
  obtain ⟨f, v, x, y, rfl, hv⟩ := o91 h3
  exact ⟨l, a, b, f, v, x, y, rfl, hl, hv⟩
theorem driftShares_sc (vds : List VD) (h : VTs Try.prog 8 [25, 26, 101] vds) : SC Try.prog 10 vds (.one (.d (bl true))) := by
  obtain ⟨_, _, rfl, h1, h⟩ := VTs_cons h
  obtain ⟨_, _, rfl, h2, h⟩ := VTs_cons h
  obtain ⟨_, _, rfl, h3, h⟩ := VTs_cons h
  cases VTs_nil h
  obtain ⟨_, rfl, k1⟩ := h1.agg_ Try.underlying25
  obtain ⟨_, rfl, k2⟩ := h2.sl_ Try.underlying26
  obtain ⟨_, rfl, k3⟩ := h3.agg_ Try.underlying101
  obtain ⟨cs, cl, rfl, _, _⟩ := o25 k1
  obtain ⟨l', hl, hl2⟩ := o26 k2
  cases hl
  obtain ⟨ds, a, b, f, v, x, y, rfl, bd, bv⟩ := o101 k3
  refine lawSC (T := tb) (fuel := 400) (m0 := M0) (xs := [dChains cs, dCells cl, dClaims l', dDrifts ds, il a, il b, il f, dI v, il x, il y]) mixP (FnS_ok 15) (sh := [.agg 2, .one, .agg 7]) rfl rfl rfl ?_
  rw [G10_eq]
  exact s10 5 (FnS_11 15) (FnS_ne 15) cs cl l' hl2 ds bd a b f v bv (x, y)

end Go.VE
namespace Go.Proofs.Ytdeodfmhbgejoaa
open Go.VE Go.RowKit
set_option maxRecDepth 100000

theorem driftShares_lifted (os : Os) (started : os.Started) (H : Type) (enc : TypeId × Value → H) :
    ReturnsInHanded {} Try.checked os 10 .any (Rows.driftSharesSpec.pre6 enc Try.prog Try.f10 Rows.driftSharesRow.domain false) (Rows.driftSharesSpec.post enc Try.prog Try.f10 false true false false) :=
  lawIn (C := Try.checked) (n := 8) (tb := 4) own started (by kernel_rfl) Try.func10
    (ChangeSpec.witness6 (enc := enc) (C := Try.checked) false ⟨#[], #[.agg #[.slice none 0 0, .slice none 0 0], .slice none 0 0, .agg #[.slice none 0 0, .int .i64 0, .int .i64 0, .int .i64 0, .slice none 0 0, .int .i64 0, .int .i64 0]], []⟩ 8 (by kernel_rfl) (by kernel_rfl) (by kernel_rfl) (by kernel_rfl))
    laidOut (by kernel_rfl) (by kernel_rfl) Try.underlying4 rfl
    (fun ds hd => by
      rw [show Try.f10.params.toList = [25, 26, 101] by kernel_rfl] at hd
      match ds, hd with
      | [a, b, c], _ => rfl)
    (fun vds h => driftShares_sc vds h)

theorem driftShares_over : Rows.driftSharesRow.holds Try.pinned (OpenSpec.ofChange Rows.driftSharesSpec) :=
  OpenClaim.holds_of_wide 10 Try.f10 rfl rfl rfl rfl rfl rfl rfl ⟨rfl, rfl, rfl, rfl, rfl⟩ rfl rfl rfl rfl rfl (by kernel_rfl) Try.func10 (by kernel_rfl)
    (of_decide_eq_true (by kernel_rfl)) (by unfold Func.isWrapper; first | (rw [if_pos (by decide +kernel)]; kernel_rfl) | (rw [if_neg (by decide +kernel)]; exact ⟨rfl, rfl⟩))
    (fun os started H enc _ => driftShares_lifted os started H enc)

theorem driftShares_holds : Rows.DriftSharesSaid := driftShares_over
#print axioms driftShares_holds
end Go.Proofs.Ytdeodfmhbgejoaa
