/- The law DriftMore, whatever the numbers of a ground and of claims are: the program is computed by a verified evaluator, its answers compared with plain laws; no condition. -/
import Derived.Test.YtdeodfmhbgejoaaMg0
import Derived.Test.YtdeodfmhbgejoaaMe
import Derived.Test.YtdeodfmhbgejoaaRows
import Derived.Test.YtdeodfmhbgejoaaMt
/- The law DriftMore. -/
namespace Go.VE
open Go.RowKit Go.Proofs
set_option maxRecDepth 100000

theorem isGm {p : Int × Int} (h : okGn p) : isG p.1 p.2 = true := by
  obtain ⟨h1, h2, h3, h4⟩ := h
  simp only [isG, decide_eq_true_eq]; omega
theorem fair_gn {cl : List Cell} {l : List Claim} {best mds : List Drift} {mss : List Int} {g : Int × Int} (hf : Fair cl l best g mds mss) (hc : okWorth cl) (hv : ∀ c ∈ l, vClaim c.family c.heads c.from_ c.to = true) (hl : 1 ≤ l.length) : okGn g := by
  have hlen : (gainsL cl l best).length = l.length := by simp [gainsL, shr_len hf.shr_]
  have hne : gainsL cl l best ≠ [] := fun h => by rw [h] at hlen; simp at hlen; omega
  have := gains_ok hc hv _ (minL_mem hne)
  rw [← hf.low] at this
  unfold okGn; omega
/-- Least after a change. -/
theorem after5 (n : Nat) {cs : List Chain} {cl cl' : List Cell} {l l' : List Claim} (hok : cOK cs cl l = 0) (hok' : cOK cs cl' l' = 0) {best mds : List Drift} {mss : List Int} {g : Int × Int} (hf : Fair cl l best g mds mss)
    {e : List Drift} (he : shr (-1) e l' = true) (hr : ∀ q ∈ gainsL cl' l' e, ∃ p ∈ gainsL cl l best, gLe p q) :
    ∃ g' : Int × Int, FN (n + 9) 27 [dChains cs, dCells cl', dClaims l'] = some (0, [.d (il g'.1), .d (il g'.2), .d (il 0)]) ∧ cErr g.1 g.2 g'.1 g'.2 = 0 ∧ cRes g.1 g.2 g'.1 g'.2 ≤ 0 := by
  obtain ⟨hgr, hl, hcl⟩ := cOK_in hok
  obtain ⟨hgr', hl', hcl'⟩ := cOK_in hok'
  have hv := okClaims_mem hcl
  have hv' := okClaims_mem hcl'
  have hg := grd_complete (ds := []) (ss := []) mono_any (okG_worth hgr') he (show (0 : Int) ≤ -1 + 1 by omega) hv' (fun _ _ => rfl)
  obtain ⟨x, y, z, hxy⟩ : ∃ x y z, grd anyP cl' l' 0 [] [] = (x, y, z) := ⟨_, _, _, rfl⟩
  rw [hxy] at hg
  simp only at hg
  subst hg
  obtain ⟨best', g', mds', mss', e68, hf'⟩ := s68t n cs cl' l' hok' hxy
  have hle := more_le hf hf' (okG_worth hgr) (okG_worth hgr') (fun c h => (hv c h).1) hv' hl'.1 he hr
  have i1 := isGm (fair_gn hf (okG_worth hgr) (fun c h => (hv c h).1) hl.1)
  have i2 := isGm (fair_gn hf' (okG_worth hgr') (fun c h => (hv' c h).1) hl'.1)
  have c0 : cErr g.1 g.2 g'.1 g'.2 = 0 := by simp [cErr, i1, i2]
  refine ⟨g', s27t (n + 3) cs cl' l' hok' e68, c0, ?_⟩
  rw [cRes, if_pos c0]
  unfold gLe at hle
  unfold cmpI
  split
  · omega
  · rw [if_neg (by omega)]; omega
/-- Valid by parts. -/
theorem ok_parts {cs : List Chain} {cl : List Cell} {l : List Claim} (hg : okGround cs cl = true) (hl : 1 ≤ l.length ∧ l.length ≤ 12) (hv : ∀ c ∈ l, vClaim c.family c.heads c.from_ c.to = true ∧ c.to < cl.length) (hn : (l.map (·.family)).Nodup) : cOK cs cl l = 0 := by
  have e : okClaims cl.length [] l = true := okL_of _ l [] hv (by simpa using hn)
  simp [cOK, hg, e]
  omega
theorem ground_of {cs : List Chain} {cl : List Cell} (mc : MC cs) (hc : 1 ≤ cs.length ∧ cs.length ≤ 3) (mk : ∀ c ∈ cl, 1 ≤ c.chain ∧ c.chain ≤ (cs.length : Int) ∧ 1 ≤ c.links ∧ c.links ≤ 9 ∧ 0 ≤ c.worth ∧ c.worth ≤ 100) (hk : 1 ≤ cl.length ∧ cl.length ≤ 10) : okGround cs cl = true := by
  simp only [okGround, Bool.and_eq_true, decide_eq_true_eq]
  refine ⟨⟨by omega, okC_of cs 0 none (fun j c hj => ?_) (by omega) (fun q hq => by cases hq)⟩, okK_of fun c hc => ?_⟩
  · have := mc j c hj; omega
  · have hb := mk c hc
    refine ⟨by simp only [vCell, decide_eq_true_eq]; omega, findC_some ?_⟩
    have hlt : (c.chain - 1).toNat < cs.length := by omega
    refine ⟨cs[(c.chain - 1).toNat], List.getElem_mem hlt, ?_⟩
    have := mc _ _ (List.getElem?_eq_getElem hlt)
    omega
theorem map_fam_set {l : List Claim} {i : Nat} {c c' : Claim} (hc : l[i]? = some c) (h : c'.family = c.family) : (l.set i c').map (·.family) = l.map (·.family) := by
  apply List.ext_getElem?
  intro k
  rw [List.getElem?_map, List.getElem?_map, List.getElem?_set]
  split
  · rename_i hk
    subst hk
    split
    · rw [hc]; simp [h]
    · rename_i h2
      have := (List.getElem?_eq_some_iff.1 hc).1; omega
  · rfl
set_option maxHeartbeats 1000000 in
theorem s5 (n : Nat) {Fn : Nat → List D → Out} {FnD : D → List Sh → List D → Out} (h11 : Fn 11 [] = some (0, [.d (bl true)])) (hF : ∀ f xs, f ≠ 11 → Fn f xs = FN (n + 9) f xs)
    (r1 : List (Int × Int)) (r2 r3 : List (Int × Int × Int)) (h1 : r1.length ≤ 140737488355328) (h2 : r2.length ≤ 140737488355328) (h3 : r3.length ≤ 140737488355328) (a b : Int) :
    G5 (real Fn FnD M0) (dR2 r1) (dR3 r2) (dR3 r3) (il a) (il b) = some (0, [.d (bl true)]) := by
  obtain ⟨cs, cl, l, e25, hm⟩ := s25 (n + 7) r1 r2 r3 h1 h2 h3
  have hok := made_ok hm
  have hmg := made_ground hm
  obtain ⟨hgr, hl, hcl⟩ := cOK_in hok
  have hv := okClaims_mem hcl
  have hvv : ∀ c ∈ l, vClaim c.family c.heads c.from_ c.to = true := fun c h => (hv c h).1
  have hh1 : ∀ c ∈ l, 1 ≤ c.heads := fun c h => by have := hvv c h; simp only [vClaim, decide_eq_true_eq] at this; omega
  have hc := okG_worth hgr
  have hnd := ML_nodup hm.ml
  have hlk := hm.lk
  have hll := hm.ll
  have et : (cl.map rCell).take cl.length = cl.map rCell := take_map_len _ _
  obtain ⟨gds, gss, gb, hg⟩ : ∃ x y z, grd anyP cl l 0 [] [] = (x, y, z) := ⟨_, _, _, rfl⟩
  cases gb with
  | true =>
    obtain ⟨best, g, mds, mss, e68, hf⟩ := s68t n cs cl l hok hg
    have e27 := s27t (n + 3) cs cl l hok e68
    have e27' := e27
    simp only [dCells, dClaims] at e27'
    have bi := modI_bnd b (b := l.length) (by omega)
    have bj := modI_bnd b (b := cl.length) (by omega)
    have bk := modI_bnd a (b := 4) (by omega)
    have b7 := modI_bnd b (b := 7) (by omega)
    have ei := s26 (n + 8) b l.length (by omega) (by omega)
    have ej := s26 (n + 8) b cl.length (by omega) (by omega)
    have ek := s26 (n + 8) a 4 (by omega) (by omega)
    have e7 := s26 (n + 8) b 7 (by omega) (by omega)
    have e28 := fun a b c d => s28 (n + 5) a b c d
    generalize modI b l.length = zi at bi ei
    generalize modI b cl.length = zj at bj ej
    generalize modI a 4 = k at bk ek
    generalize modI b 7 = z7 at b7 e7
    obtain ⟨i, rfl⟩ : ∃ i : Nat, zi = (i : Int) := ⟨zi.toNat, by omega⟩
    obtain ⟨j, rfl⟩ : ∃ j : Nat, zj = (j : Int) := ⟨zj.toNat, by omega⟩
    have hi : i < l.length := by omega
    have hj : j < cl.length := by omega
    have hli : l[i]? = some l[i] := by simp [hi]
    have hcj : cl[j]? = some cl[j] := by simp [hj]
    have hvi := hv l[i] (List.getElem_mem hi)
    have hmj := hm.mkk cl[j] (List.getElem_mem hj)
    generalize l[i] = c at hli hvi
    generalize cl[j] = d at hcj hmj
    have hvi' := hvi
    simp only [vClaim, decide_eq_true_eq] at hvi'
    have wl : IntKind.i64.wrap ((cl.length : Int) - 1) = (cl.length : Int) - 1 := wrap_id (by omega) (by omega)
    have wd1 : IntKind.i64.wrap (d.worth + 1) = d.worth + 1 := wrap_id (by omega) (by omega)
    have wd2 : IntKind.i64.wrap (d.worth + 1 + z7) = d.worth + 1 + z7 := wrap_id (by omega) (by omega)
    have wi : IntKind.i64.wrap ((i : Int) + 1) = ((i + 1 : Nat) : Int) := wrap_id (by omega) (by omega)
    have hfit : l.length * 32 ≤ 140737488355328 ∧ l.length ≤ 9223372036854775807 := by omega
    have ett : ∀ x, List.take l.length ((l.map rClaim).set i x) = (l.map rClaim).set i x := fun x => List.take_of_length_le (by simp)
    have etk : ∀ x, List.take cl.length ((cl.map rCell).set j x) = (cl.map rCell).set j x := fun x => List.take_of_length_le (by simp)
    have etl : List.take l.length (l.map rClaim) = l.map rClaim := take_map_len _ _
    have hset : ∀ c' : Claim, c'.family = c.family → vClaim c'.family c'.heads c'.from_ c'.to = true ∧ c'.to < cl.length → cOK cs cl (l.set i c') = 0 := fun c' hfam hvc => by
      refine ok_parts hmg (by simpa using hl) (fun x hx => ?_) (by rw [map_fam_set hli hfam]; exact hnd)
      rcases List.mem_or_eq_of_mem_set hx with hx | rfl
      · exact hv x hx
      · exact hvc
    have hk : k = 0 ∨ k = 1 ∨ k = 2 ∨ k = 3 := by omega
    rcases hk with rfl | rfl | rfl | rfl
    · have hw : LW l (l.set i ⟨c.family, c.heads, 0, (cl.length : Int) - 1⟩) := LW_set i hh1 hli ⟨by simp only; omega, by simp only; omega, by simp only; omega, by simp only; omega⟩
      obtain ⟨g', f1, f2, f3⟩ := after5 n hok (hset ⟨c.family, c.heads, 0, (cl.length : Int) - 1⟩ rfl ⟨by simp only [vClaim, decide_eq_true_eq]; omega, by simp only; omega⟩) hf (shr_LW hw hf.shr_) (gains_LW hc (fun _ _ => Int.le_refl _) hw)
      simp only [dClaims, dCells, List.map_set] at f1
      simp only [rClaim] at f1
      simp [G5, h11, hF 25 _ (by decide), hF 26 _ (by decide), hF 27 _ (by decide), hF 28 _ (by decide), e25, e27', et, ei, ek, dClaims, hfit, hi, hli, rClaim, wl, ett, f1, f2, f3, e28, -getElem?_pos, List.getElem?_cons_zero, List.getElem?_cons_succ, ynLit, isLit_il]
    · have hw : LW l (l.set i ⟨c.family, 1, c.from_, c.to⟩) := LW_set i hh1 hli ⟨by simp only; omega, by simp only; omega, by simp only; omega, by simp only; omega⟩
      obtain ⟨g', f1, f2, f3⟩ := after5 n hok (hset ⟨c.family, 1, c.from_, c.to⟩ rfl ⟨by simp only [vClaim, decide_eq_true_eq]; omega, by simp only; omega⟩) hf (shr_LW hw hf.shr_) (gains_LW hc (fun _ _ => Int.le_refl _) hw)
      simp only [dClaims, dCells, List.map_set] at f1
      simp only [rClaim] at f1
      simp [G5, h11, hF 25 _ (by decide), hF 26 _ (by decide), hF 27 _ (by decide), hF 28 _ (by decide), e25, e27', et, ei, ek, dClaims, hfit, hi, hli, rClaim, ett, f1, f2, f3, e28, -getElem?_pos, List.getElem?_cons_zero, List.getElem?_cons_succ, ynLit, isLit_il]
    · have hhi : ∀ K, (real Fn FnD M0).cutD 4 (.sl 4 (l.map rClaim)) none (some (il (i : Int))) K = K (.sl 4 ((l.map rClaim).take i)) := fun K => r_cutD_hi 4 _ _ K (by simp; omega)
      have hlo : ∀ K, (real Fn FnD M0).cutD 4 (.sl 4 (l.map rClaim)) (some (il ((i : Int) + 1))) none K = K (.sl 4 ((l.map rClaim).drop (i + 1))) := fun K => r_cutD_lo 4 _ _ K (by simp; omega)
      have wi' : IntKind.i64.wrap ((i : Int) + 1) = (i : Int) + 1 := by rw [wi]; rfl
      have lA : ((l.map rClaim).take i).length = i := by simp; omega
      have lB : ((l.map rClaim).drop (i + 1)).length = l.length - (i + 1) := by simp
      have hf1 : i * 32 ≤ 140737488355328 ∧ i ≤ 9223372036854775807 := by omega
      have hf2 : (i + (l.length - (i + 1))) * 32 ≤ 140737488355328 ∧ i + (l.length - (i + 1)) ≤ 9223372036854775807 := by omega
      have hR : (l.eraseIdx i).map rClaim = (l.map rClaim).take i ++ (l.map rClaim).drop (i + 1) := by
        rw [List.eraseIdx_eq_take_drop_succ, List.map_append, List.map_take, List.map_drop]
      by_cases h1l : l.length = 1
      · have hz : i + (l.length - (i + 1)) = 0 := by omega
        have hz' : (i : Int) + ((l.length - (i + 1) : Nat) : Int) = 0 := by omega
        generalize (l.map rClaim).take i = A at *
        generalize (l.map rClaim).drop (i + 1) = B at *
        simp [G5, h11, hF 25 _ (by decide), hF 26 _ (by decide), hF 27 _ (by decide), hF 28 _ (by decide), e25, e27', et, ei, ek, dClaims, rClaim, hhi, hlo, wi', lA, lB, hf1, hf2, hz, hz', hfit, ynLit, isLit_il]
      · have hz : ¬ i + (l.length - (i + 1)) = 0 := by omega
        have hoke : cOK cs cl (l.eraseIdx i) = 0 := by
          refine ok_parts hmg (by rw [List.length_eraseIdx_of_lt hi]; omega) (fun x hx => hv x (List.mem_of_mem_eraseIdx hx)) ?_
          exact hnd.sublist ((List.eraseIdx_sublist l i).map _)
        obtain ⟨g', f1, f2, f3⟩ := after5 n hok hoke hf (shr_erase i hf.shr_) (fun q hq => ⟨q, gains_erase i (shr_len hf.shr_) q hq, gLe_refl q⟩)
        simp only [dClaims, dCells, hR] at f1
        generalize (l.map rClaim).take i = A at *
        generalize (l.map rClaim).drop (i + 1) = B at *
        have etAB : List.take (i + (l.length - (i + 1))) (A ++ B) = A ++ B := List.take_of_length_le (by simp; omega)
        have hz' : ¬ ((i : Int) + ((l.length - (i + 1) : Nat) : Int) = 0) := by omega
        simp [G5, h11, hF 25 _ (by decide), hF 26 _ (by decide), hF 27 _ (by decide), hF 28 _ (by decide), e25, e27', et, ei, ek, dClaims, rClaim, f1, f2, f3, e28, ynLit, isLit_il, hhi, hlo, wi', lA, lB, hf1, hf2, hz, hz', etAB, hfit]
    · have hokc : cOK cs (cl.set j ⟨d.chain, d.links, d.worth + 1 + z7⟩) l = 0 := by
        refine ok_parts (ground_of hm.mc hm.lc (fun x hx => ?_) (by simpa using hm.lk)) hl (by simpa using hv) hnd
        rcases List.mem_or_eq_of_mem_set hx with hx | rfl
        · have := hm.mkk x hx; omega
        · simp only; omega
      obtain ⟨g', f1, f2, f3⟩ := after5 n hok hokc hf hf.shr_ (gains_LW hc (worth_set hcj (by simp only; omega)) (LW_refl hh1))
      simp only [dClaims, dCells, List.map_set] at f1
      simp only [rCell] at f1
      simp [G5, h11, hF 25 _ (by decide), hF 26 _ (by decide), hF 27 _ (by decide), hF 28 _ (by decide), e25, e27', et, ei, ek, dClaims, hfit, hi, hli, rClaim, f1, f2, f3, e28, -getElem?_pos, List.getElem?_cons_zero, List.getElem?_cons_succ, ynLit, isLit_il, ej, e7, rCell, hj, hcj, wd1, wd2, etk]
  | false =>
    have e68 := s68f n cs cl l hok hg
    have e27 := s27f (n + 3) cs cl l hok e68
    simp only [dCells] at e27
    simp [G5, h11, hF 25 _ (by decide), hF 27 _ (by decide), e25, e27, et]
end Go.VE
/- The types of the arguments: what data of them are. -/
namespace Go.VE
open Go.RowKit Go.Proofs Go.Proofs.Ytdeodfmhbgejoaa
set_option maxRecDepth 100000

theorem o3 {n : Nat} {ds : List D} (h : HasT Try.prog (n + 1) 3 ds) : ∃ z, ds = [il z] ∧ -9223372036854775808 ≤ z ∧ z ≤ 9223372036854775807 := h.int Try.underlying3
/-- All contracts, the examples' by its own. -/
noncomputable def FnS (n : Nat) (f : Nat) (xs : List D) : Out := if f = 11 ∧ xs = [] then some (0, [.d (bl true)]) else FN n f xs
theorem FnS_ok (n : Nat) : FnOK Try.prog (cf3 tb Try.prog) (FnS n) := by
  intro f sh xs vs j ys rs h1 h2 h3 h4
  unfold FnS at h3
  split at h3
  · rename_i hc
    obtain ⟨rfl, rfl⟩ := hc
    simp only [Option.some.injEq, Prod.mk.injEq] at h3
    obtain ⟨rfl, rfl⟩ := h3
    have e1 : (cf3 tb Try.prog).ash 11 = some [] := rfl
    rw [e1] at h1
    cases h1
    cases h2
    have e2 : ((cf3 tb Try.prog).rsk 11)[0]? = some [(false, [.d])] := rfl
    rw [e2] at h4
    cases h4
    exact sane_sc
  · exact FnT_ok mixP n f sh xs vs j ys rs h1 h2 h3 h4
theorem FnS_11 (n : Nat) : FnS n 11 [] = some (0, [.d (bl true)]) := by simp [FnS]
theorem FnS_ne (n : Nat) (f : Nat) (xs : List D) (h : f ≠ 11) : FnS n f xs = FN n f xs := by simp [FnS, h]
theorem own : ownKnob Try.prog.godebug = none := by kernel_rfl
theorem laidOut : laidOutB Try.prog = true := by kernel_rfl
end Go.VE
/- The numbers of a ground and claims, as data. -/
namespace Go.VE
open Go.RowKit Go.Proofs Go.Proofs.Ytdeodfmhbgejoaa
set_option maxRecDepth 100000

theorem o56 {n : Nat} {ds : List D} (h : HasT Try.prog (n + 2) 56 ds) : ∃ p : Int × Int, ds = [il p.1, il p.2] := by
  obtain ⟨a, b, rfl, h1, c, d, rfl, h2, rfl⟩ := h.arr Try.underlying56
  obtain ⟨x, rfl, _⟩ := o3 h1
  obtain ⟨y, rfl, _⟩ := o3 h2
  exact ⟨(x, y), rfl⟩
theorem o120 {n : Nat} {ds : List D} (h : HasT Try.prog (n + 2) 120 ds) : ∃ p : Int × Int × Int, ds = [il p.1, il p.2.1, il p.2.2] := by
  obtain ⟨a, b, rfl, h1, c, d, rfl, h2, e, f, rfl, h3, rfl⟩ := h.arr Try.underlying120
  obtain ⟨x, rfl, _⟩ := o3 h1
  obtain ⟨y, rfl, _⟩ := o3 h2
  obtain ⟨z, rfl, _⟩ := o3 h3
  exact ⟨(x, y, z), rfl⟩
theorem o48 {n : Nat} {ds : List D} (h : HasT Try.prog (n + 3) 48 ds) : ∃ l, ds = [dR2 l] ∧ l.length ≤ 140737488355328 := by
  obtain ⟨rows, rfl, h1, h2⟩ := h.sl (c := 2) (b := 16) Try.underlying48 (by kernel_rfl) (by kernel_rfl)
  obtain ⟨l, rfl⟩ := rows_map (f := fun p : Int × Int => [il p.1, il p.2]) fun r hr => o56 (h2 r hr)
  simp only [List.length_map] at h1
  exact ⟨l, rfl, by omega⟩
theorem o49 {n : Nat} {ds : List D} (h : HasT Try.prog (n + 3) 49 ds) : ∃ l, ds = [dR3 l] ∧ l.length ≤ 140737488355328 := by
  obtain ⟨rows, rfl, h1, h2⟩ := h.sl (c := 3) (b := 24) Try.underlying49 (by kernel_rfl) (by kernel_rfl)
  obtain ⟨l, rfl⟩ := rows_map (f := fun p : Int × Int × Int => [il p.1, il p.2.1, il p.2.2]) fun r hr => o120 (h2 r hr)
  simp only [List.length_map] at h1
  exact ⟨l, rfl, by omega⟩
theorem o51 {n : Nat} {ds : List D} (h : HasT Try.prog (n + 4) 51 ds) : ∃ r1 r2 r3, ds = [dR2 r1, dR3 r2, dR3 r3] ∧ r1.length ≤ 140737488355328 ∧ r2.length ≤ 140737488355328 ∧ r3.length ≤ 140737488355328 := by
  obtain ⟨a, b, rfl, h1, c, d, rfl, h2, e, f, rfl, h3, rfl⟩ := h.struct Try.underlying51 rfl
  obtain ⟨x, rfl, hx⟩ := o48 h1
  obtain ⟨y, rfl, hy⟩ := o49 h2
  obtain ⟨z, rfl, hz⟩ := o49 h3
  exact ⟨x, y, z, rfl, hx, hy, hz⟩
end Go.VE
/- The statement DriftMore: if a family reaches more cells, has fewer heads or is not there, or a cell is worth more, the least gain is no less. -/
namespace Go.VE
open Go.RowKit Go.Proofs Go.Proofs.Ytdeodfmhbgejoaa
set_option maxRecDepth 100000
theorem driftMore_sc (vds : List VD) (h : VTs Try.prog 8 [51, 56] vds) : SC Try.prog 5 vds (.one (.d (bl true))) := by
  obtain ⟨_, _, rfl, h1, h⟩ := VTs_cons h
  obtain ⟨_, _, rfl, h2, h⟩ := VTs_cons h
  cases VTs_nil h
  obtain ⟨_, rfl, k1⟩ := h1.agg_ Try.underlying51
  obtain ⟨_, rfl, k2⟩ := h2.arr_ Try.underlying56
  obtain ⟨r1, r2, r3, rfl, b1, b2, b3⟩ := o51 k1
  obtain ⟨p, rfl⟩ := o56 k2
  refine lawSC (T := tb) (fuel := 400) (m0 := M0) (xs := [dR2 r1, dR3 r2, dR3 r3, il p.1, il p.2]) mixP (FnS_ok 14) (sh := [.agg 3, .agg 2]) rfl rfl rfl ?_
  rw [G5_eq]
  exact s5 5 (FnS_11 14) (FnS_ne 14) r1 r2 r3 b1 b2 b3 p.1 p.2

end Go.VE
namespace Go.Proofs.Ytdeodfmhbgejoaa
open Go.VE Go.RowKit
set_option maxRecDepth 100000

theorem driftMore_lifted (os : Os) (started : os.Started) (H : Type) (enc : TypeId × Value → H) :
    ReturnsInHanded {} Try.checked os 5 .any (Rows.driftMoreSpec.pre6 enc Try.prog Try.f5 Rows.driftMoreRow.domain false) (Rows.driftMoreSpec.post enc Try.prog Try.f5 false true false false) :=
  lawIn (C := Try.checked) (n := 8) (tb := 4) own started (by kernel_rfl) Try.func5
    (ChangeSpec.witness6 (enc := enc) (C := Try.checked) false ⟨#[], #[.agg #[.slice none 0 0, .slice none 0 0, .slice none 0 0], .agg #[.int .i64 0, .int .i64 0]], []⟩ 8 (by kernel_rfl) (by kernel_rfl) (by kernel_rfl) (by kernel_rfl))
    laidOut (by kernel_rfl) (by kernel_rfl) Try.underlying4 rfl
    (fun ds hd => by
      rw [show Try.f5.params.toList = [51, 56] by kernel_rfl] at hd
      match ds, hd with
      | [a, b], _ => rfl)
    (fun vds h => driftMore_sc vds h)

theorem driftMore_over : Rows.driftMoreRow.holds Try.pinned (OpenSpec.ofChange Rows.driftMoreSpec) :=
  OpenClaim.holds_of_wide 5 Try.f5 rfl rfl rfl rfl rfl rfl rfl ⟨rfl, rfl, rfl, rfl, rfl⟩ rfl rfl rfl rfl rfl (by kernel_rfl) Try.func5 (by kernel_rfl)
    (of_decide_eq_true (by kernel_rfl)) (by unfold Func.isWrapper; first | (rw [if_pos (by decide +kernel)]; kernel_rfl) | (rw [if_neg (by decide +kernel)]; exact ⟨rfl, rfl⟩))
    (fun os started H enc _ => driftMore_lifted os started H enc)

theorem driftMore_holds : Rows.DriftMoreSaid := driftMore_over
#print axioms driftMore_holds
end Go.Proofs.Ytdeodfmhbgejoaa
