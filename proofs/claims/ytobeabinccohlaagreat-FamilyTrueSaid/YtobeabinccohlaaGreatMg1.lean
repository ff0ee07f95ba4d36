/- Family: slices.DeleteFunc over a row that is handed over. -/
import Derived.Test.YtobeabinccohlaaGreatMg0
namespace Go.VE
open Go.RowKit Go.Proofs
section
variable {Fn:Nat→List D→Out} {FnD:D→List Sh→List D→Out} {m:Nat}
theorem q5v (i n:Nat) (k:Nat→Nat→Out) (e:Out) (h:i < n):(q08 Fn FnD m).cut (some (il i)) none n k e=k i (n - i):=by
 show (if 0≤(i:Int)∧(i:Int)≤(n:Int)∧(n:Int)≤(n:Int) then (if (i:Int)=0∨(i:Int) < (n:Int) then k (i:Int).toNat ((n:Int) - (i:Int)).toNat else e) else none)=_
 rw [if_pos (by omega),if_pos (by omega),Int.toNat_natCast,show ((n:Int) - (i:Int)).toNat=n - i by omega]
theorem q5w (i n:Nat) (k:Nat→Nat→Out) (e:Out) (h:i≤n):(q08 Fn FnD m).cut none (some (il i)) n k e=k 0 i:=by
 show (if 0≤(0:Int)∧(0:Int)≤(i:Int)∧(i:Int)≤(n:Int) then (if (0:Int)=0∨(0:Int) < (i:Int) then k (0:Int).toNat ((i:Int) - 0).toNat else e) else none)=_
 rw [if_pos (by omega),if_pos (.inl rfl),show ((i:Int) - 0).toNat=i by omega]
 rfl
end
theorem qgF {α:Type} {l:List α} {i:Nat} {c:α} (h:i < l.length):(l.set i c).take (i+1)=l.take i++[c]:=by
 rw [List.take_add_one,List.take_set_of_le (Nat.le_refl _),List.getElem?_set_self h];rfl
theorem q3U {α:Type} {p:α→Bool}:∀ {l:List α} {i:Nat},fnd p l=some i→i < l.length∧(l.take (i+1)).filter (fun e=>!p e)=l.take i
 | [],i,h=>by cases h
 | x::xs,i,h=>by
  simp only [fnd] at h
  split at h
  ·rename_i hp
   cases h
   simp [hp]
  ·rename_i hp
   obtain ⟨j,hj,rfl⟩:=Option.map_eq_some_iff.1 h
   obtain ⟨h1,h2⟩:=q3U hj
   simp only [Bool.not_eq_true] at hp
   refine ⟨by simp;omega,?_⟩
   rw [List.take_succ_cons,List.filter_cons_of_pos (by simp [hp]),h2,List.take_succ_cons]
theorem q3V {α:Type} {p:α→Bool}:∀ {l:List α},fnd p l=none→l.filter (fun e=>!p e)=l
 | [],_=>rfl
 | x::xs,h=>by
  simp only [fnd] at h
  split at h
  ·cases h
  ·rename_i hp
   simp only [Bool.not_eq_true] at hp
   rw [List.filter_cons_of_pos (by simp [hp]),q3V (by simpa using h)]
theorem q6i {α:Type} (l:List α) (hl:l.length≤4611686018427387904) (p:α→Bool) (body:(Nat→List Yr→Out)→List Yr→Out) (st:Nat→Nat→List α→List Yr) (ex:Nat→List α→Out)
  (e0:∀ i ks k,ks.length=l.length→body k (st i l.length ks)=ex i ks)
  (e1:∀ (i j:Nat) ks c c2 (k:Nat→List Yr→Out),c∈l→ks[j]?=some c→ks[i]?=some c2→i < j→(j:Int) < (l.length:Int)→(i:Int) < (l.length:Int)→ks.length=l.length→IntKind.i64.wrap ((j:Int)+1)=((j+1:Nat):Int)→IntKind.i64.wrap ((i:Int)+1)=((i+1:Nat):Int) →
   body k (st i j ks)=if p c=true then k 0 (st i (j+1) ks) else k 0 (st (i+1) (j+1) (ks.set i c)))
  (i0:Nat) (h0:i0 < l.length) (h1:(l.take (i0+1)).filter (fun e=>!p e)=l.take i0) :
  ∃ i ks,q0l [body] M0 0 (st i0 (i0+1) l)=ex i ks∧i < l.length∧ks.length=l.length∧ks.take i=l.filter (fun e=>!p e):=by
 refine q4P (σ:=Nat×Nat×List α) [body] (fun s=>(0,st s.1 s.2.1 s.2.2)) (fun s=>l.length - s.2.1)
  (fun s=>s.1 < s.2.1∧s.2.1≤l.length∧s.2.2.length=l.length∧s.2.2.drop s.2.1=l.drop s.2.1∧s.2.2.take s.1=(l.take s.2.1).filter (fun e=>!p e))
  (fun r=>∃ i ks,r=ex i ks∧i < l.length∧ks.length=l.length∧ks.take i=l.filter (fun e=>!p e)) ?_ M0 (i0,i0+1,l)
  ⟨Nat.lt_succ_self _,h0,rfl,rfl,h1.symm⟩ (by have:=q1X hl;unfold M0;simp only;omega)
 rintro ⟨i,j,ks⟩ k ⟨g1,g2,g3,g4,g5⟩ ih
 simp only at g1 g2 g3 g4 g5 ih ⊢
 refine ⟨body,rfl,?_⟩
 by_cases hj:j < l.length
 ·obtain ⟨c,hc⟩:∃ c,l[j]?=some c:=⟨l[j],List.getElem?_eq_getElem hj⟩
  have hkc:ks[j]?=some c:=by
   have e1:(ks.drop j)[0]?=(l.drop j)[0]?:=by rw [g4]
   simpa [List.getElem?_drop,hc] using e1
  obtain ⟨c2,hc2⟩:∃ c2,ks[i]?=some c2:=⟨ks[i]'(by omega),List.getElem?_eq_getElem (by omega)⟩
  have ht:l.take (j+1)=l.take j++[c]:=by rw [List.take_add_one,hc];rfl
  have hd:ks.drop (j+1)=l.drop (j+1):=by
   have e2:(ks.drop j).drop 1=(l.drop j).drop 1:=by rw [g4]
   rwa [List.drop_drop,List.drop_drop] at e2
  rw [e1 i j ks c c2 k (List.mem_of_getElem? hc) hkc hc2 g1 (by omega) (by omega) g3 (by rw [q0f (by omega) (by omega)];simp) (by rw [q0f (by omega) (by omega)];simp)]
  by_cases hpv:p c=true
  ·rw [if_pos hpv]
   exact ih (i,j+1,ks) ⟨by simp only;omega,hj,g3,hd,by simp only;rw [ht,List.filter_append,← g5];simp [hpv]⟩ (by simp only;omega)
  ·rw [if_neg hpv]
   refine ih (i+1,j+1,ks.set i c) ⟨by simp only;omega,hj,by simp only [List.length_set];exact g3,?_,?_⟩ (by simp only;omega)
   ·simp only
    rw [List.drop_set_of_lt (by omega)]
    exact hd
   ·simp only
    rw [qgF (by omega),g5,ht,List.filter_append]
    simp [hpv]
 ·have hjl:j=l.length:=by omega
  subst hjl
  rw [e0 i ks k g3]
  exact ⟨i,ks,rfl,by omega,g3,by rw [g5,List.take_length]⟩
set_option maxRecDepth 20000 in
theorem q9M (n:Nat) (x:D) (p:E9→Bool) (l:List E9) (hl:l.length≤4611686018427387904) (hp:∀ e∈l,FD n x [.agg 9] (r9 e)=some (0,[.d (bl (p e))])) (i0:Nat) (h0:i0 < l.length) (h1:(l.take (i0+1)).filter (fun e=>!p e)=l.take i0) :
  ∃ (i:Nat) (ks:List E9),q0l [L1000097_0 (RP n)] M0 0 [.n l.length,.n l.length,.d x,.d (il i0),.d (il ((i0+1:Nat):Int)),.r (l.map r9)]=some (0,[.n l.length,.n l.length,.d (il ((i:Nat):Int)),.r (ks.map r9)])∧i < l.length∧ks.length=l.length∧ks.take i=l.filter (fun e=>!p e):=by
 refine q6i l hl p (L1000097_0 (RP n)) (fun i j ks=>[.n l.length,.n l.length,.d x,.d (il (i:Nat)),.d (il (j:Nat)),.r (ks.map r9)]) (fun i ks=>some (0,[.n l.length,.n l.length,.d (il ((i:Nat):Int)),.r (ks.map r9)])) ?_ ?_ i0 h0 h1
 ·intro i ks k hk
  simp [L1000097_0]
 ·intro i j ks c c2 k hc hj hi hij hjl hil hks hwj hwi
  have hkr:(ks.map r9)[j]?=some (r9 c):=by rw [List.getElem?_map,hj];rfl
  have hkr2:(ks.map r9)[i]?=some (r9 c2):=by rw [List.getElem?_map,hi];rfl
  have hpc:q1z Tryz.prog (cf3 tb Tryz.prog) (FN n) x [.agg 9] (r9 c)=some (0,[.d (bl (p c))]):=hp c hc
  simp only [L1000097_0,q02,q04,q0E,q0D,q0x,q0F,q5h,q0n,q01,hjl,decide_true,if_true,q0A,List.length_map,q0B,hks]
  rw [q8A _ _ _ ⟨by omega,hjl⟩,Int.toNat_natCast,q3p 9 _ _ _ _ hkr rfl]
  rw [show [(RP n).cell (r9 c) 0,(RP n).cell (r9 c) 1,(RP n).cell (r9 c) 2,(RP n).cell (r9 c) 3,(RP n).cell (r9 c) 4,(RP n).cell (r9 c) 5,(RP n).cell (r9 c) 6,(RP n).cell (r9 c) 7,(RP n).cell (r9 c) 8]=r9 c from rfl]
  rw [q2Y,hpc]
  simp only [q00,q02,q0J,q01,q03,q0i,hwj,hwi]
  cases hpv:p c with
  | true=>simp only [Bool.not_true,Bool.false_eq_true,if_false,if_true]
  | false =>
   simp only [Bool.not_false,if_true,Bool.false_eq_true,if_false]
   rw [q8A _ _ _ ⟨by omega,hil⟩,Int.toNat_natCast,q3p 9 _ _ _ _ hkr2 rfl]
   simp only [q32,List.map_set]
set_option maxRecDepth 20000 in
theorem qhi (n:Nat) (x:D) (p:E5→Bool) (l:List E5) (hl:l.length≤4611686018427387904) (hp:∀ e∈l,FD n x [.agg 5] (r5 e)=some (0,[.d (bl (p e))])) (i0:Nat) (h0:i0 < l.length) (h1:(l.take (i0+1)).filter (fun e=>!p e)=l.take i0) :
  ∃ (i:Nat) (ks:List E5),q0l [L1000103_0 (RP n)] M0 0 [.n l.length,.n l.length,.d x,.d (il i0),.d (il ((i0+1:Nat):Int)),.r (l.map r5)]=some (0,[.n l.length,.n l.length,.d (il ((i:Nat):Int)),.r (ks.map r5)])∧i < l.length∧ks.length=l.length∧ks.take i=l.filter (fun e=>!p e):=by
 refine q6i l hl p (L1000103_0 (RP n)) (fun i j ks=>[.n l.length,.n l.length,.d x,.d (il (i:Nat)),.d (il (j:Nat)),.r (ks.map r5)]) (fun i ks=>some (0,[.n l.length,.n l.length,.d (il ((i:Nat):Int)),.r (ks.map r5)])) ?_ ?_ i0 h0 h1
 ·intro i ks k hk
  simp [L1000103_0]
 ·intro i j ks c c2 k hc hj hi hij hjl hil hks hwj hwi
  have hkr:(ks.map r5)[j]?=some (r5 c):=by rw [List.getElem?_map,hj];rfl
  have hkr2:(ks.map r5)[i]?=some (r5 c2):=by rw [List.getElem?_map,hi];rfl
  have hpc:q1z Tryz.prog (cf3 tb Tryz.prog) (FN n) x [.agg 5] (r5 c)=some (0,[.d (bl (p c))]):=hp c hc
  simp only [L1000103_0,q02,q04,q0E,q0D,q0x,q0F,q5h,q0n,q01,hjl,decide_true,if_true,q0A,List.length_map,q0B,hks]
  rw [q8A _ _ _ ⟨by omega,hjl⟩,Int.toNat_natCast,q3p 5 _ _ _ _ hkr rfl]
  rw [show [(RP n).cell (r5 c) 0,(RP n).cell (r5 c) 1,(RP n).cell (r5 c) 2,(RP n).cell (r5 c) 3,(RP n).cell (r5 c) 4]=r5 c from rfl]
  rw [q2Y,hpc]
  simp only [q00,q02,q0J,q01,q03,q0i,hwj,hwi]
  cases hpv:p c with
  | true=>simp only [Bool.not_true,Bool.false_eq_true,if_false,if_true]
  | false =>
   simp only [Bool.not_false,if_true,Bool.false_eq_true,if_false]
   rw [q8A _ _ _ ⟨by omega,hil⟩,Int.toNat_natCast,q3p 5 _ _ _ _ hkr2 rfl]
   simp only [q32,List.map_set]
theorem qhE (n:Nat):L1000099_0 (RP n)=L1000097_0 (RP n):=rfl
theorem qhD (n:Nat):L1000101_0 (RP n)=L1000097_0 (RP n):=rfl
set_option maxRecDepth 20000 in
theorem qcf (n:Nat) (x:D) (p:E9→Bool) (l:List E9) (hl:l.length≤4611686018427387904) (hp:∀ e∈l,FD n x [.agg 9] (r9 e)=some (0,[.d (bl (p e))])) (hp1:∀ e∈l,FD (n+1) x [.agg 9] (r9 e)=some (0,[.d (bl (p e))])) :
  ∃ rest:Rr,FN (n+2) 1000097 [.sl 9 (l.map r9),x]=some (0,[.d (.sl 9 ((l.filter fun e=>!p e).map r9)),.d (.sl 9 rest)]):=by
 have hi:=s181 n (some l) hl x p hp
 simp only [d9,Option.map_some,dSl,Option.getD_some] at hi
 rw [F1000097]
 have hlen:(l.map r9).take (l.map r9).length=l.map r9:=List.take_length
 simp only [G1000097,q12,q0A,q0B,q0q,q1e,hlen,q06,hi,q00,q02,q29,List.all_cons,List.all_nil,qgh,Bool.and_true,if_true,q03,q0M,q01,decide_eq_true_eq,q0d]
 unfold q77
 cases hf:fnd p l with
 | none =>
  refine ⟨l.map r9,?_⟩
  simp only [if_true]
  rw [q3V hf]
 | some i0 =>
  obtain ⟨h0,h1⟩:=q3U hf
  simp only
  rw [if_neg (by omega),q0i,q0f (by omega) (by omega),q0r,List.length_map]
  obtain ⟨i,ks,e1,e2,e3,e4⟩:=q9M (n+1) x p l hl hp1 i0 h0 h1
  rw [show ((i0:Nat):Int)+1=((i0+1:Nat):Int) by simp,e1]
  have ek:(ks.map r9).length=l.length:=by simp [e3]
  simp only [q00,q02,q04,q0E,q0D,q0x,q0F,ek,if_true]
  rw [q5v _ _ _ _ e2]
  have ea:i+(l.length - i)=l.length:=by omega
  have et:((ks.map r9).take i++List.replicate (l.length - i) [il 0,il 0,il 0,il 0,il 0,il 0,il 0,il 0,il 0]).length=l.length:=by
   simp [e3];omega
  simp only [q16,ea,q1R,q73,et,if_true]
  rw [q5w _ _ _ _ (by omega)]
  have er:((ks.map r9).take i++List.replicate (l.length - i) [il 0,il 0,il 0,il 0,il 0,il 0,il 0,il 0,il 0]).take i=(l.filter fun e=>!p e).map r9:=by
   rw [List.take_append_of_le_length (by simp [e3];omega),List.take_take,Nat.min_self,← List.map_take,e4]
  rw [er]
  exact ⟨_,rfl⟩
set_option maxRecDepth 20000 in
theorem qce (n:Nat) (x:D) (p:E9→Bool) (l:List E9) (hl:l.length≤4611686018427387904) (hp:∀ e∈l,FD n x [.agg 9] (r9 e)=some (0,[.d (bl (p e))])) (hp1:∀ e∈l,FD (n+1) x [.agg 9] (r9 e)=some (0,[.d (bl (p e))])) :
  ∃ rest:Rr,FN (n+2) 1000099 [.sl 9 (l.map r9),x]=some (0,[.d (.sl 9 ((l.filter fun e=>!p e).map r9)),.d (.sl 9 rest)]):=by
 have hi:=s182 n (some l) hl x p hp
 simp only [d9,Option.map_some,dSl,Option.getD_some] at hi
 rw [F1000099]
 have hlen:(l.map r9).take (l.map r9).length=l.map r9:=List.take_length
 simp only [G1000099,q12,q0A,q0B,q0q,q1e,hlen,q06,hi,q00,q02,q29,List.all_cons,List.all_nil,qgh,Bool.and_true,if_true,q03,q0M,q01,decide_eq_true_eq,q0d]
 unfold q77
 cases hf:fnd p l with
 | none =>
  refine ⟨l.map r9,?_⟩
  simp only [if_true]
  rw [q3V hf]
 | some i0 =>
  obtain ⟨h0,h1⟩:=q3U hf
  simp only
  rw [if_neg (by omega),q0i,q0f (by omega) (by omega),q0r,List.length_map]
  obtain ⟨i,ks,e1,e2,e3,e4⟩:=q9M (n+1) x p l hl hp1 i0 h0 h1
  rw [show ((i0:Nat):Int)+1=((i0+1:Nat):Int) by simp,qhE,e1]
  have ek:(ks.map r9).length=l.length:=by simp [e3]
  simp only [q00,q02,q04,q0E,q0D,q0x,q0F,ek,if_true]
  rw [q5v _ _ _ _ e2]
  have ea:i+(l.length - i)=l.length:=by omega
  have et:((ks.map r9).take i++List.replicate (l.length - i) [il 0,il 0,il 0,il 0,il 0,il 0,il 0,il 0,il 0]).length=l.length:=by
   simp [e3];omega
  simp only [q16,ea,q1R,q73,et,if_true]
  rw [q5w _ _ _ _ (by omega)]
  have er:((ks.map r9).take i++List.replicate (l.length - i) [il 0,il 0,il 0,il 0,il 0,il 0,il 0,il 0,il 0]).take i=(l.filter fun e=>!p e).map r9:=by
   rw [List.take_append_of_le_length (by simp [e3];omega),List.take_take,Nat.min_self,← List.map_take,e4]
  rw [er]
  exact ⟨_,rfl⟩
set_option maxRecDepth 20000 in
theorem qcd (n:Nat) (x:D) (p:E9→Bool) (l:List E9) (hl:l.length≤4611686018427387904) (hp:∀ e∈l,FD n x [.agg 9] (r9 e)=some (0,[.d (bl (p e))])) (hp1:∀ e∈l,FD (n+1) x [.agg 9] (r9 e)=some (0,[.d (bl (p e))])) :
  ∃ rest:Rr,FN (n+2) 1000101 [.sl 9 (l.map r9),x]=some (0,[.d (.sl 9 ((l.filter fun e=>!p e).map r9)),.d (.sl 9 rest)]):=by
 have hi:=s183 n (some l) hl x p hp
 simp only [d9,Option.map_some,dSl,Option.getD_some] at hi
 rw [F1000101]
 have hlen:(l.map r9).take (l.map r9).length=l.map r9:=List.take_length
 simp only [G1000101,q12,q0A,q0B,q0q,q1e,hlen,q06,hi,q00,q02,q29,List.all_cons,List.all_nil,qgh,Bool.and_true,if_true,q03,q0M,q01,decide_eq_true_eq,q0d]
 unfold q77
 cases hf:fnd p l with
 | none =>
  refine ⟨l.map r9,?_⟩
  simp only [if_true]
  rw [q3V hf]
 | some i0 =>
  obtain ⟨h0,h1⟩:=q3U hf
  simp only
  rw [if_neg (by omega),q0i,q0f (by omega) (by omega),q0r,List.length_map]
  obtain ⟨i,ks,e1,e2,e3,e4⟩:=q9M (n+1) x p l hl hp1 i0 h0 h1
  rw [show ((i0:Nat):Int)+1=((i0+1:Nat):Int) by simp,qhD,e1]
  have ek:(ks.map r9).length=l.length:=by simp [e3]
  simp only [q00,q02,q04,q0E,q0D,q0x,q0F,ek,if_true]
  rw [q5v _ _ _ _ e2]
  have ea:i+(l.length - i)=l.length:=by omega
  have et:((ks.map r9).take i++List.replicate (l.length - i) [il 0,il 0,il 0,il 0,il 0,il 0,il 0,il 0,il 0]).length=l.length:=by
   simp [e3];omega
  simp only [q16,ea,q1R,q73,et,if_true]
  rw [q5w _ _ _ _ (by omega)]
  have er:((ks.map r9).take i++List.replicate (l.length - i) [il 0,il 0,il 0,il 0,il 0,il 0,il 0,il 0,il 0]).take i=(l.filter fun e=>!p e).map r9:=by
   rw [List.take_append_of_le_length (by simp [e3];omega),List.take_take,Nat.min_self,← List.map_take,e4]
  rw [er]
  exact ⟨_,rfl⟩
set_option maxRecDepth 20000 in
theorem qcc (n:Nat) (x:D) (p:E5→Bool) (l:List E5) (hl:l.length≤4611686018427387904) (hp:∀ e∈l,FD n x [.agg 5] (r5 e)=some (0,[.d (bl (p e))])) (hp1:∀ e∈l,FD (n+1) x [.agg 5] (r5 e)=some (0,[.d (bl (p e))])) :
  ∃ rest:Rr,FN (n+2) 1000103 [.sl 5 (l.map r5),x]=some (0,[.d (.sl 5 ((l.filter fun e=>!p e).map r5)),.d (.sl 5 rest)]):=by
 have hi:=s184 n (some l) hl x p hp
 simp only [d5,Option.map_some,dSl,Option.getD_some] at hi
 rw [F1000103]
 have hlen:(l.map r5).take (l.map r5).length=l.map r5:=List.take_length
 simp only [G1000103,q12,q0A,q0B,q0q,q1e,hlen,q06,hi,q00,q02,q29,List.all_cons,List.all_nil,qgh,Bool.and_true,if_true,q03,q0M,q01,decide_eq_true_eq,q0d]
 unfold q77
 cases hf:fnd p l with
 | none =>
  refine ⟨l.map r5,?_⟩
  simp only [if_true]
  rw [q3V hf]
 | some i0 =>
  obtain ⟨h0,h1⟩:=q3U hf
  simp only
  rw [if_neg (by omega),q0i,q0f (by omega) (by omega),q0r,List.length_map]
  obtain ⟨i,ks,e1,e2,e3,e4⟩:=qhi (n+1) x p l hl hp1 i0 h0 h1
  rw [show ((i0:Nat):Int)+1=((i0+1:Nat):Int) by simp,e1]
  have ek:(ks.map r5).length=l.length:=by simp [e3]
  simp only [q00,q02,q04,q0E,q0D,q0x,q0F,ek,if_true]
  rw [q5v _ _ _ _ e2]
  have ea:i+(l.length - i)=l.length:=by omega
  have et:((ks.map r5).take i++List.replicate (l.length - i) [il 0,il 0,il 0,il 0,il 0]).length=l.length:=by
   simp [e3];omega
  simp only [q16,ea,q1R,q73,et,if_true]
  rw [q5w _ _ _ _ (by omega)]
  have er:((ks.map r5).take i++List.replicate (l.length - i) [il 0,il 0,il 0,il 0,il 0]).take i=(l.filter fun e=>!p e).map r5:=by
   rw [List.take_append_of_le_length (by simp [e3];omega),List.take_take,Nat.min_self,← List.map_take,e4]
  rw [er]
  exact ⟨_,rfl⟩
end Go.VE
namespace Go.VE
open Go.RowKit Go.Proofs
theorem s177n (n:Nat):FN (n+1) 177 [d9 none]=some (1,[.d (d9 none)]):=by
 rw [F177];simp [G177,d9,dSl]
theorem s177s (n:Nat) (l:List E9) (hl:l.length*72≤140737488351232):FN (n+1) 177 [d9 (some l)]=some (0,[.r (l.map r9)]):=by
 rw [F177]
 simp only [G177,d9,Option.map_some,dSl,q7A,q12,q0G,q0A,q0u,List.length_nil,q0B,if_true,q16,Nat.zero_add,List.length_map,q1R,List.nil_append,qdl,Nat.le_refl,q0q,q0d,q0v]
 rw [if_pos (by omega)]
 rw [show l.length=(l.map r9).length by simp,List.take_length]
theorem s178n (n:Nat):FN (n+1) 178 [d9 none]=some (1,[.d (d9 none)]):=by
 rw [F178];simp [G178,d9,dSl]
theorem s178s (n:Nat) (l:List E9) (hl:l.length*72≤140737488351232):FN (n+1) 178 [d9 (some l)]=some (0,[.r (l.map r9)]):=by
 rw [F178]
 simp only [G178,d9,Option.map_some,dSl,q7A,q12,q0G,q0A,q0u,List.length_nil,q0B,if_true,q16,Nat.zero_add,List.length_map,q1R,List.nil_append,qdl,Nat.le_refl,q0q,q0d,q0v]
 rw [if_pos (by omega)]
 rw [show l.length=(l.map r9).length by simp,List.take_length]
theorem s179n (n:Nat):FN (n+1) 179 [d9 none]=some (1,[.d (d9 none)]):=by
 rw [F179];simp [G179,d9,dSl]
theorem s179s (n:Nat) (l:List E9) (hl:l.length*72≤140737488351232):FN (n+1) 179 [d9 (some l)]=some (0,[.r (l.map r9)]):=by
 rw [F179]
 simp only [G179,d9,Option.map_some,dSl,q7A,q12,q0G,q0A,q0u,List.length_nil,q0B,if_true,q16,Nat.zero_add,List.length_map,q1R,List.nil_append,qdl,Nat.le_refl,q0q,q0d,q0v]
 rw [if_pos (by omega)]
 rw [show l.length=(l.map r9).length by simp,List.take_length]
theorem s180n (n:Nat):FN (n+1) 180 [d5 none]=some (1,[.d (d5 none)]):=by
 rw [F180];simp [G180,d5,dSl]
theorem s180s (n:Nat) (l:List E5) (hl:l.length*40≤140737488351232):FN (n+1) 180 [d5 (some l)]=some (0,[.r (l.map r5)]):=by
 rw [F180]
 simp only [G180,d5,Option.map_some,dSl,q7A,q12,q0G,q0A,q0u,List.length_nil,q0B,if_true,q16,Nat.zero_add,List.length_map,q1R,List.nil_append,qdl,Nat.le_refl,q0q,q0d,q0v]
 rw [if_pos (by omega)]
 rw [show l.length=(l.map r5).length by simp,List.take_length]
theorem s97n (n:Nat) (x:D):FN (n+2) 97 [d9 none,x]=some (0,[.d (d9 none)]):=by
 rw [F97]
 simp only [G97,q06,s181 n none (by simp) x (fun _=>true) (by simp),q00,q02,q03,q0M,q01]
 rw [if_pos (by simp [q77,fnd])]
 rfl
theorem s99n (n:Nat) (x:D):FN (n+2) 99 [d9 none,x]=some (0,[.d (d9 none)]):=by
 rw [F99]
 simp only [G99,q06,s182 n none (by simp) x (fun _=>true) (by simp),q00,q02,q03,q0M,q01]
 rw [if_pos (by simp [q77,fnd])]
 rfl
theorem s101n (n:Nat) (x:D):FN (n+2) 101 [d9 none,x]=some (0,[.d (d9 none)]):=by
 rw [F101]
 simp only [G101,q06,s183 n none (by simp) x (fun _=>true) (by simp),q00,q02,q03,q0M,q01]
 rw [if_pos (by simp [q77,fnd])]
 rfl
theorem s103n (n:Nat) (x:D):FN (n+2) 103 [d5 none,x]=some (0,[.d (d5 none)]):=by
 rw [F103]
 simp only [G103,q06,s184 n none (by simp) x (fun _=>true) (by simp),q00,q02,q03,q0M,q01]
 rw [if_pos (by simp [q77,fnd])]
 rfl
theorem s172 (n:Nat) (e:E9) (k:Int):FN (n+2) 172 (r9 e++[il k])=some (0,[.d (bl (!q3E e.kn e.un k))]):=by
 rw [r9]
 simp only [List.cons_append,List.nil_append]
 rw [F172]
 simp only [G172,q06,s173,q00,q02,q0J,q0d]
theorem d172 (n:Nat) (e:E9) (k:Int):FD (n+2) (.fn 172 [.dp [il k] 0]) [.agg 9] (r9 e)=some (0,[.d (bl (!q3E e.kn e.un k))]) :=
 q4A [.agg 9,.ptr 1] [.agg (r9 e)] (by decide) rfl (by kernel_rfl) rfl (by kernel_rfl) (s172 n e k)
theorem s174 (n:Nat) (e:E9) (k:Int):FN (n+2) 174 (r9 e++[il k])=some (0,[.d (bl (!q3E e.kn e.un k))]):=by
 rw [r9]
 simp only [List.cons_append,List.nil_append]
 rw [F174]
 simp only [G174,q06,s173,q00,q02,q0J,q0d]
theorem d174 (n:Nat) (e:E9) (k:Int):FD (n+2) (.fn 174 [.dp [il k] 0]) [.agg 9] (r9 e)=some (0,[.d (bl (!q3E e.kn e.un k))]) :=
 q4A [.agg 9,.ptr 1] [.agg (r9 e)] (by decide) rfl (by kernel_rfl) rfl (by kernel_rfl) (s174 n e k)
theorem s175 (n:Nat) (e:E9) (k:Int):FN (n+2) 175 (r9 e++[il k])=some (0,[.d (bl (!q3E e.kn e.un k))]):=by
 rw [r9]
 simp only [List.cons_append,List.nil_append]
 rw [F175]
 simp only [G175,q06,s173,q00,q02,q0J,q0d]
theorem d175 (n:Nat) (e:E9) (k:Int):FD (n+2) (.fn 175 [.dp [il k] 0]) [.agg 9] (r9 e)=some (0,[.d (bl (!q3E e.kn e.un k))]) :=
 q4A [.agg 9,.ptr 1] [.agg (r9 e)] (by decide) rfl (by kernel_rfl) rfl (by kernel_rfl) (s175 n e k)
theorem s176 (n:Nat) (e:E5) (k:Int):FN (n+2) 176 (r5 e++[il k])=some (0,[.d (bl (!q3E e.kn e.un k))]):=by
 rw [r5]
 simp only [List.cons_append,List.nil_append]
 rw [F176]
 simp only [G176,q06,s173,q00,q02,q0J,q0d]
theorem d176 (n:Nat) (e:E5) (k:Int):FD (n+2) (.fn 176 [.dp [il k] 0]) [.agg 5] (r5 e)=some (0,[.d (bl (!q3E e.kn e.un k))]) :=
 q4A [.agg 5,.ptr 1] [.agg (r5 e)] (by decide) rfl (by kernel_rfl) rfl (by kernel_rfl) (s176 n e k)
def kn9 (k:Int) (o:Option (List E9)):Option (List E9):=o.map (q0p k)
def kn5 (k:Int) (o:Option (List E5)):Option (List E5):=o.map (q2Q k)
def q0U (a b c:Option (List E9)) (o:Option (List E5)):D:=.dp [d9 a,d9 b,d9 c,d5 o] 0
theorem q1E {Fn:Nat→List D→Out} {FnD:D→List Sh→List D→Out} {m:Nat} (j:Nat) (ys:List Yr) (k0:List Yr→Out) (ks:List (List Yr→Out)):(q08 Fn FnD m).bnd (some (j+1,ys)) (k0::ks)=(q08 Fn FnD m).bnd (some (j,ys)) ks:=by simp [r_bnd]
theorem qhm (n:Nat) (k:Int) (l:List E9) (hl:l.length*72≤140737488351232):∃ rest:Rr,FN (n+4) 1000097 [.sl 9 (l.map r9),.fn 172 [.dp [il k] 0]]=some (0,[.d (d9 (kn9 k (some l))),.d (.sl 9 rest)]):=by
 obtain ⟨rest,h⟩:=qcf (n+2) (.fn 172 [.dp [il k] 0]) (fun e=>!q3E e.kn e.un k) l (by omega) (fun e _=>d172 n e k) (fun e _=>d172 (n+1) e k)
 refine ⟨rest,h.trans ?_⟩
 simp only [Bool.not_not,d9,kn9,q0p,Option.map_some,dSl]
theorem qhl (n:Nat) (k:Int) (l:List E9) (hl:l.length*72≤140737488351232):∃ rest:Rr,FN (n+4) 1000099 [.sl 9 (l.map r9),.fn 174 [.dp [il k] 0]]=some (0,[.d (d9 (kn9 k (some l))),.d (.sl 9 rest)]):=by
 obtain ⟨rest,h⟩:=qce (n+2) (.fn 174 [.dp [il k] 0]) (fun e=>!q3E e.kn e.un k) l (by omega) (fun e _=>d174 n e k) (fun e _=>d174 (n+1) e k)
 refine ⟨rest,h.trans ?_⟩
 simp only [Bool.not_not,d9,kn9,q0p,Option.map_some,dSl]
theorem qhk (n:Nat) (k:Int) (l:List E9) (hl:l.length*72≤140737488351232):∃ rest:Rr,FN (n+4) 1000101 [.sl 9 (l.map r9),.fn 175 [.dp [il k] 0]]=some (0,[.d (d9 (kn9 k (some l))),.d (.sl 9 rest)]):=by
 obtain ⟨rest,h⟩:=qcd (n+2) (.fn 175 [.dp [il k] 0]) (fun e=>!q3E e.kn e.un k) l (by omega) (fun e _=>d175 n e k) (fun e _=>d175 (n+1) e k)
 refine ⟨rest,h.trans ?_⟩
 simp only [Bool.not_not,d9,kn9,q0p,Option.map_some,dSl]
theorem qhj (n:Nat) (k:Int) (l:List E5) (hl:l.length*40≤140737488351232):∃ rest:Rr,FN (n+4) 1000103 [.sl 5 (l.map r5),.fn 176 [.dp [il k] 0]]=some (0,[.d (d5 (kn5 k (some l))),.d (.sl 5 rest)]):=by
 obtain ⟨rest,h⟩:=qcc (n+2) (.fn 176 [.dp [il k] 0]) (fun e=>!q3E e.kn e.un k) l (by omega) (fun e _=>d176 n e k) (fun e _=>d176 (n+1) e k)
 refine ⟨rest,h.trans ?_⟩
 simp only [Bool.not_not,d5,kn5,q2Q,Option.map_some,dSl]
theorem sk {α:Type} {p:List α→Prop} {q:List α→Rr→Prop} (h:∀ l,p l→∃ r,q l r):∃ f:List α→Rr,∀ l,p l→q l (f l):=by
 have h':∀ l,∃ r:Rr,p l→q l r:=fun l=>by
  by_cases hp:p l
  ·obtain ⟨r,hr⟩:=h l hp
   exact ⟨r,fun _=>hr⟩
  ·exact ⟨[],fun h=>absurd h hp⟩
 exact Classical.skolem.1 h'
def ix96:Bool→Bool→Bool→Bool→Nat
 | true,true,true,true=>0
 | true,true,true,false=>4
 | true,true,false,true=>1
 | true,true,false,false=>10
 | true,false,true,true=>3
 | true,false,true,false=>6
 | true,false,false,true=>7
 | true,false,false,false=>14
 | false,true,true,true=>2
 | false,true,true,false=>9
 | false,true,false,true=>8
 | false,true,false,false=>12
 | false,false,true,true=>5
 | false,false,true,false=>13
 | false,false,false,true=>11
 | false,false,false,false=>15
def lv9:Option (List E9)→Yr
 | none=>.d (d9 none)
 | some l=>.r (l.map r9)
def lv5:Option (List E5)→Yr
 | none=>.d (d5 none)
 | some l=>.r (l.map r5)
theorem s96 (n:Nat) (a b c:Option (List E9)) (o:Option (List E5)) (ha:(a.getD []).length*72≤140737488351232) (hb:(b.getD []).length*72≤140737488351232) (hc:(c.getD []).length*72≤140737488351232) (ho:(o.getD []).length*40≤140737488351232) :
  FN (n+2) 96 [d9 a,d9 b,d9 c,d5 o]=some (ix96 a.isSome b.isSome c.isSome o.isSome,[lv9 a,lv9 b,lv9 c,lv5 o]):=by
 rw [F96]
 cases a<;>cases b<;>cases c<;>cases o<;>try simp only [Option.getD_some] at ha hb hc ho
 all_goals
  simp (disch:=first | exact ha | exact hb | exact hc | exact ho) only [G96,q06,s177n,s178n,s179n,s180n,s177s,s178s,s179s,s180s,q00,q1E,q02,q0x,q0A,q0B,qdl,Nat.le_refl,if_true,q0q,List.take_length,q0d]
  rfl
set_option maxRecDepth 20000 in
set_option maxHeartbeats 1000000 in
theorem s94 (n:Nat) (k:Int) (a b c:Option (List E9)) (o:Option (List E5)) (ha:(a.getD []).length*72≤140737488351232) (hb:(b.getD []).length*72≤140737488351232) (hc:(c.getD []).length*72≤140737488351232) (ho:(o.getD []).length*40≤140737488351232) :
  FN (n+5) 94 [d9 a,d9 b,d9 c,d5 o,il k]=some (0,[.d (q0U (kn9 k a) (kn9 k b) (kn9 k c) (kn5 k o))]):=by
 rw [F94]
 obtain ⟨_,ka⟩:=sk (qhm n k)
 obtain ⟨_,kb⟩:=sk (qhl n k)
 obtain ⟨_,kc⟩:=sk (qhk n k)
 obtain ⟨_,ko⟩:=sk (qhj n k)
 unfold G94
 rw [q06,s96 (n+2) a b c o ha hb hc ho]
 cases a<;>cases b<;>cases c<;>cases o<;>try simp only [Option.getD_some] at ha hb hc ho
 all_goals
  simp only [Option.isSome_none,Option.isSome_some,ix96,↓q00,↓q1E,lv9,lv5]
  simp (disch:=first | exact ha | exact hb | exact hc | exact ho) only [q06,s97n,s99n,s101n,s103n,ka,kb,kc,ko,q00,q02,q04,q0x,q0F,q0A,q0B,if_true,q0d,q1e,q4L,q5u,q12]
  rfl
end Go.VE
namespace Go.VE
open Go.RowKit Go.Proofs
def q0R (ok ps fs:Bool) (p f:Int) (ds:List Int):Int:=if ok=false then 34 else if ps=true∧¬ (1≤p∧p≤999) then 35 else if fs=true∧¬ (1≤f∧f≤99) then 36 else if (ds.any fun d=>!decide (0≤d∧d≤4166))=true then 6 else 0
def q4C (e:Int) (d:D):Out:=if e=0 then some (0,[.d d,.d (il 0)]) else some (0,[.d (.lit (.pointer none)),.d (il e)])
set_option maxRecDepth 20000 in
theorem s73 (n:Nat) (p f:Int) (ps fs:Bool) (a b c:Option (List E9)) (o:Option (List E5)) (ds:List Int) (k:Int) (hds:ds.length≤100) (ha:(a.getD []).length*72≤140737488351232) (hb:(b.getD []).length*72≤140737488351232) (hc:(c.getD []).length*72≤140737488351232) (ho:(o.getD []).length*40≤140737488351232) :
  FN (n+10) 73 [il p,il f,bl ps,bl fs,d9 a,d9 b,d9 c,d5 o,dI (some (ds++[k]))]=q4C (q0R (q0k (a.getD []) (b.getD []) (c.getD []) (o.getD [])) ps fs p f (ds++[k])) (q0U (kn9 k a) (kn9 k b) (kn9 k c) (kn5 k o)):=by
 rw [F73]
 have hany:=s154 (n+6) (some (ds++[k])) (by simp;omega) (.fn 155 []) _ (fun e _=>d155 (n+3) e)
 have hlast:∀ q:List D→Out,(RP (n+9)).rowD 1 (dI (some (ds++[k]))) (il (IntKind.i64.wrap (((ds++[k]).length:Int) - 1))) q=q (rI k):=by
  intro q
  rw [show IntKind.i64.wrap (((ds++[k]).length:Int) - 1)=((ds.length:Nat):Int) by rw [q0f (by rw [List.length_append,List.length_singleton];omega) (by rw [List.length_append,List.length_singleton];omega)];simp]
  exact q2R (by simp) q
 have h56:=s56 n a b c o ha hb hc ho
 cases hq:q0k (a.getD []) (b.getD []) (c.getD []) (o.getD []) with
 | false =>
  rw [hq,if_neg (by decide)] at h56
  simp only [G73,q06,h56,q00,q02,q03,q0y,q01,q0d,s128,s129,q0J,q4L,hany,q2I,Option.getD_some,q1o,hlast,rI,q07,s94 (n+4) k a b c o ha hb hc ho,q0K,q04,q2S]
  simp [q4C,q0R];rfl
 | true =>
  rw [hq,if_pos rfl] at h56
  simp only [G73,q06,h56,q00,q02,q03,q0y,q01,q0d,s128,s129,q0J,q4L,hany,q2I,Option.getD_some,q1o,hlast,rI,q07,s94 (n+4) k a b c o ha hb hc ho,q0K,q04,q2S,ne_eq,not_true_eq_false,decide_false,Bool.false_eq_true,if_false]
  cases ps with
  | false =>
   simp only [Bool.false_eq_true,if_false]
   cases fs with
   | false =>
    simp only [Bool.false_eq_true,if_false]
    by_cases h:((ds++[k]).any fun d=>!decide (0≤d∧d≤4166))=true
    ·simp only [h,if_true,q4C,q0R,Bool.true_eq_false,if_false,false_and,Bool.false_eq_true];rfl
    ·simp only [h,if_false,q4C,q0R,Bool.true_eq_false,false_and,Bool.false_eq_true,if_true]
   | true =>
    simp only [if_true]
    by_cases hf:1≤f∧f≤99
    ·simp only [hf,and_self,decide_true,Bool.not_true,Bool.false_eq_true,if_false]
     by_cases h:((ds++[k]).any fun d=>!decide (0≤d∧d≤4166))=true
     ·simp only [h,if_true,q4C,q0R,Bool.true_eq_false,if_false,false_and,Bool.false_eq_true,hf,and_self,not_true,and_false];rfl
     ·simp only [h,if_false,q4C,q0R,Bool.true_eq_false,false_and,Bool.false_eq_true,if_true,hf,and_self,not_true,and_false]
    ·simp only [hf,decide_false,Bool.not_false,if_true,q4C,q0R,Bool.true_eq_false,if_false,false_and,Bool.false_eq_true,not_false_eq_true,and_self];rfl
  | true =>
   simp only [if_true]
   by_cases hp:1≤p∧p≤999
   ·simp only [hp,and_self,decide_true,Bool.not_true,Bool.false_eq_true,if_false]
    cases fs with
    | false =>
     simp only [Bool.false_eq_true,if_false]
     by_cases h:((ds++[k]).any fun d=>!decide (0≤d∧d≤4166))=true
     ·simp only [h,if_true,q4C,q0R,Bool.true_eq_false,if_false,false_and,Bool.false_eq_true,hp,and_self,not_true,and_false];rfl
     ·simp only [h,if_false,q4C,q0R,Bool.true_eq_false,false_and,Bool.false_eq_true,if_true,hp,and_self,not_true,and_false]
    | true =>
     simp only [if_true]
     by_cases hf:1≤f∧f≤99
     ·simp only [hf,and_self,decide_true,Bool.not_true,Bool.false_eq_true,if_false]
      by_cases h:((ds++[k]).any fun d=>!decide (0≤d∧d≤4166))=true
      ·simp only [h,if_true,q4C,q0R,Bool.true_eq_false,if_false,hp,hf,and_self,not_true,and_false];rfl
      ·simp only [h,if_false,q4C,q0R,Bool.true_eq_false,Bool.false_eq_true,if_true,hp,hf,and_self,not_true,and_false]
     ·simp only [hp,hf,decide_false,Bool.not_false,if_true,q4C,q0R,Bool.true_eq_false,if_false,not_false_eq_true,and_self,not_true,and_false];rfl
   ·simp only [hp,decide_false,Bool.not_false,if_true,q4C,q0R,Bool.true_eq_false,if_false,not_false_eq_true,and_self];rfl
theorem s72 (n:Nat) (p:Int):FN (n+1) 72 [il p]=some (0,[.d (il p),.d (il 0),.d (bl true),.d (bl false)]):=by
 rw [F72];simp [G72]
theorem s79 (n:Nat) (f:Int):FN (n+1) 79 [il f]=some (0,[.d (il 0),.d (il f),.d (bl false),.d (bl true)]):=by
 rw [F79];simp [G79]
end Go.VE
namespace Go.VE
open Go.RowKit Go.Proofs
def ins (x:Int):List Int→List Int
 | []=>[x]
 | y::r=>if x < y then x::y::r else if x=y then y::r else y::ins x r
abbrev Up (l:List Int):Prop:=l.Pairwise (· < ·)
def lb (x:Int):List Int→Nat
 | []=>0
 | y::r=>if y < x then lb x r+1 else 0
theorem qhg (x:Int):∀ l:List Int,lb x l≤l.length
 | []=>Nat.le_refl _
 | y::r=>by
  simp only [lb];split
  ·have:=qhg x r;simp;omega
  ·simp
theorem lb_lt (x:Int):∀ {l:List Int} {i:Nat} {y:Int},i < lb x l→l[i]?=some y→y < x
 | [],i,y,h,_=>by simp [lb] at h
 | z::r,i,y,h,hi=>by
  simp only [lb] at h
  split at h
  ·rename_i hz
   cases i with
   | zero=>simp at hi;subst hi;exact hz
   | succ i=>exact lb_lt x (l:=r) (i:=i) (by omega) (by simpa using hi)
  ·omega
theorem lb_ge (x:Int):∀ {l:List Int} {i:Nat} {y:Int},Up l→lb x l≤i→l[i]?=some y→x≤y
 | [],i,y,_,_,hi=>by simp at hi
 | z::r,i,y,hu,h,hi=>by
  rw [Up,List.pairwise_cons] at hu
  simp only [lb] at h
  split at h
  ·cases i with
   | zero=>omega
   | succ i=>exact lb_ge x (l:=r) (i:=i) hu.2 (by omega) (by simpa using hi)
  ·rename_i hz
   cases i with
   | zero=>simp at hi;omega
   | succ i =>
    have:=hu.1 y (List.mem_of_getElem? (by simpa using hi))
    omega
theorem qiz (x:Int):∀ {l:List Int},Up l→ins x l=if l[lb x l]?=some x then l else l.take (lb x l)++x::l.drop (lb x l)
 | [],_=>rfl
 | y::r,hu=>by
  rw [Up,List.pairwise_cons] at hu
  simp only [ins]
  by_cases h1:x < y
  ·have h0:lb x (y::r)=0:=by simp only [lb];rw [if_neg (by omega)]
   rw [if_pos h1]
   simp only [h0,List.getElem?_cons_zero,Option.some.injEq,List.take_zero,List.drop_zero,List.nil_append]
   rw [if_neg (by omega)]
  ·rw [if_neg h1]
   by_cases h2:x=y
   ·have h0:lb x (y::r)=0:=by simp only [lb];rw [if_neg (by omega)]
    rw [if_pos h2]
    simp only [h0,List.getElem?_cons_zero,Option.some.injEq]
    rw [if_pos h2.symm]
   ·have h0:lb x (y::r)=lb x r+1:=by simp only [lb];rw [if_pos (by omega)]
    rw [if_neg h2,qiz x hu.2]
    simp only [h0,List.getElem?_cons_succ,List.take_succ_cons,List.drop_succ_cons,List.cons_append]
    split<;>rfl
theorem q41 (x z:Int):∀ l:List Int,z∈ins x l↔z=x∨z∈l
 | []=>by simp [ins]
 | y::r=>by
  simp only [ins]
  split
  ·simp
  ·split
   ·rename_i h;subst h;simp
   ·simp only [List.mem_cons,q41 x z r]
    constructor
    ·rintro (h | h | h)
     ·exact .inr (.inl h)
     ·exact .inl h
     ·exact .inr (.inr h)
    ·rintro (h | h | h)
     ·exact .inr (.inl h)
     ·exact .inl h
     ·exact .inr (.inr h)
theorem q3J (x:Int):∀ {l:List Int},Up l→Up (ins x l)
 | [],_=>by simp [ins]
 | y::r,hu=>by
  have hu':=hu
  rw [Up,List.pairwise_cons] at hu
  simp only [ins]
  split
  ·rename_i h
   rw [Up,List.pairwise_cons]
   refine ⟨fun z hz=>?_,hu'⟩
   rcases List.mem_cons.1 hz with rfl | hz
   ·exact h
   ·have:=hu.1 z hz;omega
  ·split
   ·exact hu'
   ·rw [Up,List.pairwise_cons]
    refine ⟨fun z hz=>?_,q3J x hu.2⟩
    rcases (q41 x z r).1 hz with rfl | hz
    ·omega
    ·exact hu.1 z hz
theorem qc5:∀ {l m:List Int},Up l→Up m→(∀ z,z∈l↔z∈m)→l=m
 | [],[],_,_,_=>rfl
 | [],y::r,_,_,h=>by have:=(h y).2 (by simp);simp at this
 | y::r,[],_,_,h=>by have:=(h y).1 (by simp);simp at this
 | x::l,y::m,hl,hm,h=>by
  rw [Up,List.pairwise_cons] at hl hm
  have e:x=y:=by
   have h1:=(h x).1 (by simp)
   have h2:=(h y).2 (by simp)
   rcases List.mem_cons.1 h1 with e | h1
   ·exact e
   ·rcases List.mem_cons.1 h2 with e | h2
    ·exact e.symm
    ·have:=hl.1 y h2;have:=hm.1 x h1;omega
  subst e
  congr 1
  refine qc5 hl.2 hm.2 fun z=>?_
  constructor
  ·intro hz
   rcases List.mem_cons.1 ((h z).1 (by simp [hz])) with e | h1
   ·have:=hl.1 z hz;omega
   ·exact h1
  ·intro hz
   rcases List.mem_cons.1 ((h z).2 (by simp [hz])) with e | h1
   ·have:=hm.1 z hz;omega
   ·exact h1
end Go.VE
namespace Go.VE
open Go.RowKit Go.Proofs
theorem u64_id {x:Int} (h1:0≤x) (h2:x < 18446744073709551616):IntKind.u64.wrap x=x:=by
 have hb:(2:Int) ^ IntKind.u64.bits=18446744073709551616:=by decide
 have hs:IntKind.u64.signed=false:=rfl
 unfold IntKind.wrap
 simp only [hb,hs]
 have:x % 18446744073709551616=x:=Int.emod_eq_of_lt h1 h2
 simp [this]
section
variable {Fn:Nat→List D→Out} {FnD:D→List Sh→List D→Out} {m:Nat}
theorem r_mid (i j:Nat) (h:i+j≤9223372036854775807) (k:D→Out):((q08 Fn FnD m).cvI .u64 (il ((i:Int)+(j:Int))) fun x4=>(q08 Fn FnD m).bin .shr false x4 ((q08 Fn FnD m).lit (.int .u64 (1))) fun x5=>(q08 Fn FnD m).cvI .i64 x5 k)=k (il (((i+j) / 2:Nat):Int)):=by
 have e1:IntKind.u64.wrap ((i:Int)+(j:Int))=((i+j:Nat):Int):=by rw [u64_id (by omega) (by omega)];simp
 have e2:((i+j:Nat):Int).fdiv (2 ^ (min (1:Int).toNat IntKind.u64.bits))=(((i+j) / 2:Nat):Int):=by
  have:(min (1:Int).toNat IntKind.u64.bits)=1:=by decide
  rw [this]
  rw [Int.fdiv_eq_ediv_of_nonneg _ (by decide)]
  omega
 have e3:IntKind.i64.wrap (((i+j) / 2:Nat):Int)=(((i+j) / 2:Nat):Int):=q0f (by omega) (by omega)
 show (q08 Fn FnD m).bin .shr false (.lit (.int .u64 (IntKind.u64.wrap ((i:Int)+(j:Int))))) (.lit (.int .u64 1)) (fun x5=>(q08 Fn FnD m).cvI .i64 x5 k)=_
 rw [e1]
 show qeL (qgr .shr false (.lit (.int .u64 ((i+j:Nat):Int))) (.lit (.int .u64 1))) (fun x5=>(q08 Fn FnD m).cvI .i64 x5 k)=_
 have e4:qgr .shr false (.lit (.int .u64 ((i+j:Nat):Int))) (.lit (.int .u64 1))=some (.lit (.int .u64 (((i+j) / 2:Nat):Int))):=by
  simp only [qgr,qkb]
  rw [if_neg (by decide),e2]
  rfl
 rw [e4]
 show k (.lit (.int .i64 (IntKind.i64.wrap (((i+j) / 2:Nat):Int))))=_
 rw [e3]
 rfl
end
theorem s187 (n:Nat) (x:Int):FN (n+1) 187 [il x]=some (0,[.d (bl false)]):=by rw [F187];simp [G187]
theorem s211 (n:Nat) (x:Int):FN (n+1) 211 [il x]=some (0,[.d (bl false)]):=by rw [F211];simp [G211]
theorem s210 (n:Nat) (x y:Int):FN (n+2) 210 [il x,il y]=some (0,[.d (bl (decide (x < y)))]):=by
 rw [F210];simp [G210,s187]
set_option maxRecDepth 20000 in
theorem l158 (n:Nat) (o:Option (List Int)) (x:Int) (hl:(o.getD []).length≤4611686018427387904) (hu:Up (o.getD [])) :
  q0l [L158_0 (RP (n+2))] M0 0 [.d (dI o),.d (il x),.d (il (o.getD []).length),.d (il 0),.d (il (o.getD []).length)]=some (0,[.d (dI o),.d (il x),.d (il (o.getD []).length),.d (il (lb x (o.getD []):Nat))]):=by
 have:=q1Y (σ:=Nat×Nat) [L158_0 (RP (n+2))] (fun s=>(0,[.d (dI o),.d (il x),.d (il (o.getD []).length),.d (il s.1),.d (il s.2)])) (fun s=>s.2 - s.1) (fun s=>s.1≤lb x (o.getD [])∧lb x (o.getD [])≤s.2∧s.2≤(o.getD []).length)
  (fun _=>some (0,[.d (dI o),.d (il x),.d (il (o.getD []).length),.d (il (lb x (o.getD []):Nat))])) ?_ M0 (0,(o.getD []).length) ⟨Nat.zero_le _,qhg _ _,Nat.le_refl _⟩ (by have:=q1X hl;unfold M0;simp only;omega)
 ·exact this
 ·rintro ⟨i,j⟩ k ⟨h1,h2,h3⟩ ih
  simp only at h1 h2 h3 ih ⊢
  refine ⟨L158_0 (RP (n+2)),rfl,?_⟩
  simp only [L158_0,q02,q04,q0n,q01,q0i]
  by_cases hij:i < j
  ·rw [if_pos (by simp;omega),q0f (by omega) (by omega),r_mid i j (by omega)]
   have hh:(i+j) / 2 < (o.getD []).length:=by omega
   have hc:(o.getD [])[(i+j) / 2]?=some ((o.getD [])[(i+j) / 2]'hh):=List.getElem?_eq_getElem hh
   rw [q2R hc]
   simp only [rI,q07,q06,s210,q00,q02,q01,decide_eq_true_eq,q03,q0i]
   by_cases hx:(o.getD [])[(i+j) / 2]'hh < x
   ·rw [if_pos hx]
    have hlb:(i+j) / 2 < lb x (o.getD []):=by
     refine Nat.lt_of_not_le fun hle=>?_
     have:=lb_ge x hu hle hc
     omega
    rw [show IntKind.i64.wrap ((((i+j) / 2:Nat):Int)+1)=(((i+j) / 2+1:Nat):Int) by rw [q0f (by omega) (by omega)];simp]
    exact ih ((i+j) / 2+1,j) ⟨hlb,h2,h3⟩ (by simp only;omega)
   ·rw [if_neg hx]
    have hlb:lb x (o.getD [])≤(i+j) / 2:=by
     refine Nat.le_of_not_lt fun hlt=>?_
     have:=lb_lt x hlt hc
     omega
    exact ih (i,(i+j) / 2) ⟨h1,hlb,by omega⟩ (by simp only;omega)
  ·rw [if_neg (by simp;omega),q0d]
   rw [show i=lb x (o.getD []) by omega]
theorem s158 (n:Nat) (o:Option (List Int)) (x:Int) (hl:(o.getD []).length≤4611686018427387904) (hu:Up (o.getD [])):FN (n+3) 158 [dI o,il x]=some (0,[.d (il (lb x (o.getD []):Nat)),.d (bl (decide ((o.getD [])[lb x (o.getD [])]?=some x)))]):=by
 rw [F158]
 simp only [G158,q2I,q03,q0r,l158 n o x hl hu,q00,q02,q04,q0n,q01,decide_eq_true_eq]
 by_cases h:lb x (o.getD []) < (o.getD []).length
 ·have hc:(o.getD [])[lb x (o.getD [])]?=some ((o.getD [])[lb x (o.getD [])]'h):=List.getElem?_eq_getElem h
  rw [if_pos (by omega),q2R hc]
  simp only [rI,q07,q0M,q01,decide_eq_true_eq,q0K,q0d]
  rw [hc]
  by_cases he:(o.getD [])[lb x (o.getD [])]'h=x
  ·simp [he]
  ·rw [if_neg he,q2R hc]
   simp [rI,s211,he]
 ·have hn:(o.getD [])[lb x (o.getD [])]?=none:=List.getElem?_eq_none (by omega)
  rw [if_neg (by omega),hn]
  simp
end Go.VE
namespace Go.VE
open Go.RowKit Go.Proofs
section
variable {Fn:Nat→List D→Out} {FnD:D→List Sh→List D→Out} {m:Nat}
theorem qj9 (z:Nat) (rows new:Rr) (k:Rr→Out) (h:z≤rows.length):(q08 Fn FnD m).ins (il z) rows new k=k (rows.take z++new++rows.drop z):=by
 show (if 0≤(z:Int)∧(z:Int).toNat≤rows.length then k (rows.take (z:Int).toNat++new++rows.drop (z:Int).toNat) else none)=_
 rw [Int.toNat_natCast,if_pos ⟨by omega,h⟩]
end
theorem q2Z (x:Int):∀ l:List Int,(ins x l).length≤l.length+1
 | []=>by simp [ins]
 | y::r=>by
  simp only [ins]
  split
  ·simp
  ·split
   ·simp
   ·have:=q2Z x r;simp;omega
set_option maxRecDepth 20000 in
theorem q1n (n:Nat) (l:List Int) (x:Int) (hl:l.length≤1000000000000) (hu:Up l):FN (n+4) 1000075 [.sl 1 (l.map rI),il x]=some (0,[.d (.sl 1 ((ins x l).map rI))]):=by
 rw [F1000075]
 have hb:=s158 n (some l) x (by simp;omega) hu
 simp only [dI,Option.map_some,dSl,Option.getD_some] at hb
 have hlen:(l.map rI).take (l.map rI).length=l.map rI:=List.take_length
 simp only [G1000075,q12,q0A,q0B,if_true,q0q,q1e,hlen,q06,hb,q00,q02,q04,q29,List.all_cons,List.all_nil,qgh,qiP,Bool.and_self,q01,decide_eq_true_eq,q0d]
 rw [qiz x hu]
 by_cases h:l[lb x l]?=some x
 ·rw [if_pos h,if_pos h]
 ·rw [if_neg h,if_neg h]
  have hle:lb x l≤(l.map rI).length:=by rw [List.length_map];exact qhg x l
  have h1:(l.map rI).length=l.length:=List.length_map _
  simp only [q0G,q0u,List.length_cons,List.length_nil,List.take_succ_cons,List.take_zero,q0S,q0v,q16]
  simp only [if_true]
  rw [qj9 _ _ _ _ hle]
  have h2:((l.map rI).take (lb x l)++[[il x]]++(l.map rI).drop (lb x l))=(l.take (lb x l)++x::l.drop (lb x l)).map rI:=by
   simp [rI,List.map_take,List.map_drop]
  have h3:(l.map rI).length+(0+1)=((l.take (lb x l)++x::l.drop (lb x l)).map rI).length:=by
   have:=qhg x l
   simp;omega
  rw [h2]
  simp only [h3,if_true]
  rw [if_pos (by rw [←h3,h1];omega)]
theorem qh2 (x:Int) (n:Nat):FN (n+3) 158 [.lit (.slice none 0 0),il x]=some (0,[.d (il (0:Int)),.d (bl false)]):=by
 have:=s158 n none x (by simp) (by simp)
 simpa [dI,dSl,lb] using this
end Go.VE
namespace Go.VE
open Go.RowKit Go.Proofs
def pu (x:Int) (d:Bool):List Int→List Int
 | []=>if d then [] else [x]
 | y::r=>(if x≤y∧d=false then [x] else [])++((if y≠x then [y] else [])++pu x (d||decide (x≤y)) r)
theorem qbm (x:Int):∀ {r:List Int},(∀ y∈r,x < y)→pu x true r=r
 | [],_=>rfl
 | y::r,h=>by
  have:=h y (by simp)
  simp only [pu,Bool.true_or]
  rw [if_neg (by simp),if_pos (by omega),qbm x fun z hz=>h z (by simp [hz])]
  rfl
theorem qij (x:Int):∀ {l:List Int},Up l→pu x false l=ins x l
 | [],_=>rfl
 | y::r,hu=>by
  rw [Up,List.pairwise_cons] at hu
  simp only [pu,ins,Bool.false_or]
  by_cases h1:x < y
  ·rw [if_pos ⟨by omega,trivial⟩,if_pos (by omega:y≠x),if_pos h1,decide_eq_true (by omega:x≤y),qbm x fun z hz=>by have:=hu.1 z hz;omega]
   rfl
  ·by_cases h2:x=y
   ·subst h2
    rw [if_pos ⟨by omega,trivial⟩,if_neg (by simp),if_neg h1,if_pos rfl,decide_eq_true (by omega:x≤x),qbm x fun z hz=>hu.1 z hz]
    rfl
   ·rw [if_neg (by omega),if_pos (by omega:y≠x),if_neg h1,if_neg h2,decide_eq_false (by omega:¬ x≤y),qij x hu.2]
    rfl
def stI (o:Option (List Int)) (x:Int) (acc:List Int) (d:Bool) (i:Nat):List Yr:=[.d (dI o),.d (il x),.n acc.length,.n acc.length,.d (bl d),.d (il i),.r (acc.map rI)]
def st0 (o:Option (List Int)) (x:Int) (d:Bool) (i:Nat):List Yr:=[.d (dI o),.d (il x),.d (bl d),.d (il i)]
set_option maxRecDepth 20000 in
theorem b92_0 (n:Nat) (o:Option (List Int)) (x y:Int) (d:Bool) (i:Nat) (k:Nat→List Yr→Out) (hi:(o.getD [])[i]?=some y) (hlt:(i:Int) < ((o.getD []).length:Int)) (hw:IntKind.i64.wrap ((i:Int)+1)=((i+1:Nat):Int)) :
  L92_0 (RP n) k (st0 o x d i)=if x≤y∧d=false then (if y=x then k 2 (stI o x [x] true (i+1)) else k 2 (stI o x [x,y] true (i+1))) else (if y=x then k 0 (st0 o x d (i+1)) else k 1 (stI o x [y] d (i+1))):=by
 simp only [st0,stI,L92_0,q02,q04,q2I,q0n,q01,hlt,decide_true,if_true,q2R hi,rI,q07,q1S,q0J,decide_eq_true_eq]
 by_cases h1:x≤y<;>cases d<;>by_cases h2:y=x<;>simp [h1,h2,q2R hi,rI,hw]
 all_goals (subst h2;simp [q2R hi,rI,hw] at *)
set_option maxRecDepth 20000 in
theorem b92_1 (n:Nat) (o:Option (List Int)) (x y:Int) (acc:List Int) (d:Bool) (i:Nat) (k:Nat→List Yr→Out) (ha:acc.length≤1000000000000) (hi:(o.getD [])[i]?=some y) (hlt:(i:Int) < ((o.getD []).length:Int)) (hw:IntKind.i64.wrap ((i:Int)+1)=((i+1:Nat):Int)) :
  L92_1 (RP n) k (stI o x acc d i)=k 1 (stI o x (acc++((if x≤y∧d=false then [x] else [])++(if y≠x then [y] else []))) (d||decide (x≤y)) (i+1)):=by
 have f1:(acc.length+1)*8≤140737488355328∧acc.length+1≤9223372036854775807:=by omega
 have f2:(acc.length+1+1)*8≤140737488355328∧acc.length+1+1≤9223372036854775807:=by omega
 simp only [stI,L92_1,q02,q04,q0E,q0D,q0x,q0F,q2I,q0n,q01,hlt,decide_true,if_true,q2R hi,rI,q07,q1S,q0J,decide_eq_true_eq]
 by_cases h1:x≤y<;>cases d<;>by_cases h2:y=x<;>simp [h1,h2,q2R hi,rI,hw,f1,f2]
 all_goals (intros;omega)
set_option maxRecDepth 20000 in
theorem b92_2 (n:Nat) (o:Option (List Int)) (x y:Int) (acc:List Int) (d:Bool) (i:Nat) (k:Nat→List Yr→Out) (ha:acc.length≤1000000000000) (hi:(o.getD [])[i]?=some y) (hlt:(i:Int) < ((o.getD []).length:Int)) (hw:IntKind.i64.wrap ((i:Int)+1)=((i+1:Nat):Int)) :
  L92_2 (RP n) k (stI o x acc d i)=k 2 (stI o x (acc++((if x≤y∧d=false then [x] else [])++(if y≠x then [y] else []))) (d||decide (x≤y)) (i+1)):=by
 have f1:(acc.length+1)*8≤140737488355328∧acc.length+1≤9223372036854775807:=by omega
 have f2:(acc.length+1+1)*8≤140737488355328∧acc.length+1+1≤9223372036854775807:=by omega
 simp only [stI,L92_2,q02,q04,q0E,q0D,q0x,q0F,q2I,q0n,q01,hlt,decide_true,if_true,q2R hi,rI,q07,q1S,q0J,decide_eq_true_eq]
 by_cases h1:x≤y<;>cases d<;>by_cases h2:y=x<;>simp [h1,h2,q2R hi,rI,hw,f1,f2]
 all_goals (intros;omega)
theorem ex92 (n:Nat) (o:Option (List Int)) (x:Int) (acc:List Int) (d:Bool) (k:Nat→List Yr→Out) :
  L92_0 (RP n) k (st0 o x d (o.getD []).length)=some (0,[.d (il x),.d (bl d)])∧L92_1 (RP n) k (stI o x acc d (o.getD []).length)=some (1,[.d (il x),.n acc.length,.n acc.length,.d (bl d),.r (acc.map rI)])∧L92_2 (RP n) k (stI o x acc d (o.getD []).length)=some (2,[.d (il x),.n acc.length,.n acc.length,.d (bl d),.r (acc.map rI)]):=by
 refine ⟨?_,?_,?_⟩
 ·simp [L92_0,st0,q2I]
 ·simp [L92_1,stI,q2I]
 ·simp [L92_2,stI,q2I]
set_option maxRecDepth 20000 in
theorem l92 (n:Nat) (o:Option (List Int)) (x:Int) (hl:(o.getD []).length≤100000000000) (T:List Int) (hT:T=pu x false (o.getD [])) :
  ∃ d acc,acc++(if d=true then [] else [x])=T∧acc.length≤1000000000000∧((acc=[]∧q0l [L92_0 (RP n),L92_1 (RP n),L92_2 (RP n)] M0 0 (st0 o x false 0)=some (0,[.d (il x),.d (bl d)]))∨(∃ w,(w=1∨w=2)∧q0l [L92_0 (RP n),L92_1 (RP n),L92_2 (RP n)] M0 0 (st0 o x false 0)=some (w,[.d (il x),.n acc.length,.n acc.length,.d (bl d),.r (acc.map rI)]))):=by
 have:=q4P (σ:=Nat×Nat×Bool×List Int) [L92_0 (RP n),L92_1 (RP n),L92_2 (RP n)] (fun s=>(s.1,if s.1=0 then st0 o x s.2.2.1 s.2.1 else stI o x s.2.2.2 s.2.2.1 s.2.1)) (fun s=>(o.getD []).length - s.2.1)
  (fun s=>s.1≤2∧(s.1=0→s.2.2.2=[])∧s.2.1≤(o.getD []).length∧s.2.2.2.length≤2*s.2.1∧s.2.2.2++pu x s.2.2.1 ((o.getD []).drop s.2.1)=T)
  (fun r=>∃ d acc,acc++(if d=true then [] else [x])=T∧acc.length≤1000000000000∧((acc=[]∧r=some (0,[.d (il x),.d (bl d)]))∨(∃ w,(w=1∨w=2)∧r=some (w,[.d (il x),.n acc.length,.n acc.length,.d (bl d),.r (acc.map rI)])))) ?_ M0 (0,0,false,[]) ⟨by simp,fun _=>rfl,Nat.zero_le _,by simp,by simpa using hT.symm⟩ (by unfold M0;simp only;omega)
 ·exact this
 ·rintro ⟨w,i,d,acc⟩ k ⟨g1,g2,g3,g4,g5⟩ ih
  simp only at g1 g2 g3 g4 g5 ih ⊢
  by_cases hi:i < (o.getD []).length
  ·obtain ⟨y,hy⟩:∃ y,(o.getD [])[i]?=some y:=⟨_,List.getElem?_eq_getElem hi⟩
   have hd:(o.getD []).drop i=y::(o.getD []).drop (i+1):=by
    rw [List.drop_eq_getElem_cons hi]
    congr 1
    rw [List.getElem?_eq_getElem hi] at hy
    exact Option.some.inj hy
   rw [hd,pu] at g5
   have hlt:(i:Int) < ((o.getD []).length:Int):=by omega
   have hw:IntKind.i64.wrap ((i:Int)+1)=((i+1:Nat):Int):=by rw [q0f (by omega) (by omega)];simp
   match w,g1 with
   | 0,_ =>
    refine ⟨L92_0 (RP n),rfl,?_⟩
    have hacc:=g2 rfl
    subst hacc
    simp only [if_true]
    rw [b92_0 n o x y d i k hy hlt hw]
    by_cases h1:x≤y∧d=false
    ·obtain ⟨h1,rfl⟩:=h1
     by_cases h2:y=x
     ·rw [if_pos ⟨h1,rfl⟩,if_pos h2]
      exact ih (2,i+1,true,[x]) ⟨by simp,by simp,hi,by simp;omega,by simpa [h1,h2] using g5⟩ (by simp only;omega)
     ·rw [if_pos ⟨h1,rfl⟩,if_neg h2]
      exact ih (2,i+1,true,[x,y]) ⟨by simp,by simp,hi,by simp;omega,by simpa [h1,h2] using g5⟩ (by simp only;omega)
    ·have hdd:(d||decide (x≤y))=d:=by
      cases d with
      | true=>rfl
      | false=>simp at h1;simp;omega
     rw [hdd,if_neg h1] at g5
     by_cases h2:y=x
     ·rw [if_neg h1,if_pos h2]
      exact ih (0,i+1,d,[]) ⟨by simp,by simp,hi,by simp,by simpa [h2] using g5⟩ (by simp only;omega)
     ·rw [if_neg h1,if_neg h2]
      exact ih (1,i+1,d,[y]) ⟨by simp,by simp,hi,by simp;omega,by simpa [h2] using g5⟩ (by simp only;omega)
   | 1,_ =>
    refine ⟨L92_1 (RP n),rfl,?_⟩
    simp only [Nat.one_ne_zero,if_false]
    rw [b92_1 n o x y acc d i k (by omega) hy hlt hw]
    refine ih (1,i+1,(d||decide (x≤y)),acc++((if x≤y∧d=false then [x] else [])++(if y≠x then [y] else []))) ⟨by simp,by simp,hi,?_,by simp only;rw [List.append_assoc,List.append_assoc];exact g5⟩ (by simp only;omega)
    simp only [List.length_append]
    split<;>split<;>simp<;>omega
   | 2,_ =>
    refine ⟨L92_2 (RP n),rfl,?_⟩
    simp only [show ¬ ((2:Nat)=0) by decide,if_false]
    rw [b92_2 n o x y acc d i k (by omega) hy hlt hw]
    refine ih (2,i+1,(d||decide (x≤y)),acc++((if x≤y∧d=false then [x] else [])++(if y≠x then [y] else []))) ⟨by simp,by simp,hi,?_,by simp only;rw [List.append_assoc,List.append_assoc];exact g5⟩ (by simp only;omega)
    simp only [List.length_append]
    split<;>split<;>simp<;>omega
  ·have hil:i=(o.getD []).length:=by omega
   subst hil
   obtain ⟨e0,e1,e2⟩:=ex92 n o x acc d k
   rw [List.drop_length,pu] at g5
   match w,g1 with
   | 0,_=>exact ⟨L92_0 (RP n),rfl,d,[],by rw [←g5,g2 rfl],by simp,.inl ⟨rfl,e0⟩⟩
   | 1,_=>exact ⟨L92_1 (RP n),rfl,d,acc,g5,by omega,.inr ⟨1,.inl rfl,e1⟩⟩
   | 2,_=>exact ⟨L92_2 (RP n),rfl,d,acc,g5,by omega,.inr ⟨2,.inr rfl,e2⟩⟩
set_option maxRecDepth 20000 in
theorem s92 (n:Nat) (o:Option (List Int)) (x:Int) (hl:(o.getD []).length≤100000000000) (hu:Up (o.getD [])):FN (n+1) 92 [dI o,il x]=some (0,[.d (dI (some (ins x (o.getD []))))]):=by
 rw [F92]
 obtain ⟨d,acc,h1,h2,h3⟩:=l92 n o x hl _ rfl
 rw [qij x hu] at h1
 have f1:(acc.length+1)*8≤140737488355328∧acc.length+1≤9223372036854775807:=by omega
 simp only [st0,Int.natCast_zero] at h3
 simp only [G92,q0r,q03,q0K]
 rcases h3 with ⟨rfl,h3⟩ | ⟨w,hw,h3⟩
 ·rw [h3]
  cases d with
  | true =>
   exfalso
   have:x∈ins x (o.getD []):=(q41 x x _).2 (.inl rfl)
   rw [←h1] at this
   simp at this
  | false=>rw [←h1];simp [dI,dSl,rI]
 ·rw [h3]
  rcases hw with rfl | rfl
  ·cases d with
   | false=>rw [←h1];simp [dI,dSl,rI,f1];exact ⟨by omega,List.take_of_length_le (by simp)⟩
   | true=>rw [←h1];simp [dI,dSl];exact List.take_of_length_le (by simp)
  ·cases d with
   | false=>rw [←h1];simp [dI,dSl,rI,f1];exact ⟨by omega,List.take_of_length_le (by simp)⟩
   | true=>rw [←h1];simp [dI,dSl];exact List.take_of_length_le (by simp)
end Go.VE
namespace Go.VE
open Go.RowKit Go.Proofs
theorem s41 (n:Nat) (o:Option (List Int)) (x:Int) (hl:(o.getD []).length≤4611686018427387904):FN (n+1) 41 [dI o,il x]=some (0,[.d (bl (decide (x∈o.getD [])))]):=by
 rw [F41]
 simp only [G41,q03,q0r]
 have:=q0C (β:=Unit) (o.getD []) hl (L41_0 (RP n)) (fun i _=>[.d (dI o),.d (il x),.d (il i)]) (fun _ _=>True)
  (fun _ r _=>if x∈r then some (0,[.d (bl true)]) else some (1,[]))
  (fun _ k _=>by simp [L41_0,q2I]) ?_ M0 () trivial (q1X hl)
 ·simp only [Int.natCast_zero] at this
  rw [this]
  by_cases h:x∈o.getD []<;>simp [h]
 ·intro i e r _ k hi hd hlt hw _ ih
  have ih':=ih () trivial
  have hlt':(i:Int) < ((o.getD []).length:Int):=by omega
  simp only [L41_0,q02,q04,q2I,q0n,q01,hlt',decide_true,if_true,q2R hi,rI,q07,q0M,q03,q0i,hw,q0K,q0d,decide_eq_true_eq]
  by_cases h:e=x
  ·subst h;simp
  ·rw [if_neg h]
   refine Eq.trans ih' ?_
   have:(x∈e::r)↔x∈r:=by
    constructor
    ·intro hx
     rcases List.mem_cons.1 hx with hx | hx
     ·exact absurd hx.symm h
     ·exact hx
    ·intro hx;exact List.mem_cons_of_mem _ hx
   by_cases h2:x∈r
   ·rw [if_pos h2,if_pos (this.2 h2)]
   ·rw [if_neg h2,if_neg fun hx=>h2 (this.1 hx)]
theorem s22 (n:Nat) (a b:Option (List Int)) (ha:(a.getD []).length≤4611686018427387904):FN (n+1) 22 [dI a,dI b]=some (0,[.d (bl (decide (a.getD []=b.getD [])))]):=by
 rw [F22]
 simp only [G22,q2I,q0M,q03,q0r]
 have:=q0C (β:=Bool) (a.getD []) ha (L22_0 (RP n)) (fun i s=>[.d (dI a),.d (dI b),.d (bl s),.d (il i)]) (fun _ s=>s=true→(a.getD []).length=(b.getD []).length)
  (fun i r s=>some (0,[.d (bl (s&&decide (r=(b.getD []).drop i)))]))
  (fun s k hs=>?_) ?_ M0 (decide (((a.getD []).length:Int)=((b.getD []).length:Int))) (fun h=>by have:=of_decide_eq_true h;omega) (q1X ha)
 ·simp only [Int.natCast_zero,List.drop_zero] at this
  rw [this]
  simp only [q00,q02,q0d]
  by_cases h:(a.getD []).length=(b.getD []).length
  ·simp [h]
  ·have:¬ (a.getD []=b.getD []):=fun e=>h (by rw [e])
   simp [this]
 ·cases s with
  | false=>simp [L22_0,q2I]
  | true =>
   have:List.drop (a.getD []).length (b.getD [])=[]:=by rw [hs rfl,List.drop_length]
   simp [L22_0,q2I,this]
 ·intro i e r s k hi hd hlt hw hs ih
  have hlt':(i:Int) < ((a.getD []).length:Int):=by omega
  simp only [L22_0,q02,q04,q2I,q0n,q01,hlt',decide_true,if_true,q0d]
  cases s with
  | false=>simp
  | true =>
   have hlb:i < (b.getD []).length:=by rw [←hs rfl];exact hlt
   have hb:(b.getD [])[i]?=some ((b.getD [])[i]'hlb):=List.getElem?_eq_getElem hlb
   have hdb:(b.getD []).drop i=(b.getD [])[i]'hlb::(b.getD []).drop (i+1):=List.drop_eq_getElem_cons hlb
   simp only [if_true,q2R hi,q2R hb,rI,q07,q0M,q03,q0i,hw]
   refine Eq.trans (ih _ fun _=>hs rfl) ?_
   rw [hdb]
   generalize (b.getD [])[i]'hlb=f
   generalize (b.getD []).drop (i+1)=q
   by_cases h:e=f
   ·subst h;simp
   ·simp [h]
end Go.VE
namespace Go.VE
open Go.RowKit Go.Proofs
theorem s157 (n:Nat) (a b c:Option (List E9)) (o:Option (List E5)) (i:Nat) (e:E9) (who:Int) (hi:(a.getD [])[i]?=some e):FN (n+1) 157 [il i,q0U a b c o,il who]=some (0,[.d (bl (decide (e.a=who))),.d (il e.f1),.d (il e.f2),.d (il e.t1),.d (il e.t2),.d (il e.b)]):=by
 rw [F157]
 simp only [G157,q0U,q3Z]
 rw [q1O _ 4 _ rfl]
 simp only [q07,q0g,q37 hi,r9,q0M,q0d]
theorem s194 (n:Nat) (a b c:Option (List E9)) (o:Option (List E5)) (i:Nat) (e:E9) (who:Int) (hi:(b.getD [])[i]?=some e):FN (n+1) 194 [il i,q0U a b c o,il who]=some (0,[.d (bl (decide (e.a=who))),.d (il e.f1),.d (il e.f2),.d (il e.t1),.d (il e.t2),.d (il e.b)]):=by
 rw [F194]
 simp only [G194,q0U,q3Z]
 rw [q1O _ 4 _ rfl]
 simp only [q07,q0g,q37 hi,r9,q0M,q0d]
theorem s195 (n:Nat) (a b c:Option (List E9)) (o:Option (List E5)) (i:Nat) (e:E9) (who:Int) (hi:(c.getD [])[i]?=some e):FN (n+1) 195 [il i,q0U a b c o,il who]=some (0,[.d (bl (decide (e.a=who))),.d (il e.f1),.d (il e.f2),.d (il e.t1),.d (il e.t2),.d (il e.b)]):=by
 rw [F195]
 simp only [G195,q0U,q3Z]
 rw [q1O _ 4 _ rfl]
 simp only [q07,q0g,q37 hi,r9,q0M,q0d]
def q11 (d who:Int):List E9→List (Option Int)
 | []=>[none]
 | e::r=>if e.a=who∧q1Z e.f1 e.t2 d=true then some e.b::(if q1C e.f2 e.t1 d=true then [] else q11 d who r) else q11 d who r
def below (l:List E9) (m:Nat):List E9:=(l.take m).reverse
theorem q4l (l:List E9):below l 0=[]:=rfl
theorem q3m {l:List E9} {m:Nat} {e:E9} (h:l[m]?=some e):below l (m+1)=e::below l m:=by
 unfold below
 rw [List.take_add_one,h]
 simp
def q1A (f:Option Int→Int) (acc:List Int) (os:List (Option Int)):List Int:=os.foldl (fun acc o=>ins (f o) acc) acc
theorem q7q (f:Option Int→Int):∀ (os:List (Option Int)) {acc:List Int},Up acc→Up (q1A f acc os)
 | [],_,h=>h
 | _::os,_,h=>q7q f os (q3J _ h)
theorem q6A (f:Option Int→Int) (z:Int):∀ (os:List (Option Int)) (acc:List Int),z∈q1A f acc os↔z∈acc∨∃ o∈os,z=f o
 | [],acc=>by simp [q1A]
 | o::os,acc=>by
  show z∈q1A f (ins (f o) acc) os↔_
  rw [q6A f z os,q41]
  constructor
  ·rintro ((h | h) | ⟨q,hq,h⟩)
   ·exact .inr ⟨o,by simp,h⟩
   ·exact .inl h
   ·exact .inr ⟨q,by simp [hq],h⟩
  ·rintro (h | ⟨q,hq,h⟩)
   ·exact .inl (.inr h)
   ·rcases List.mem_cons.1 hq with rfl | hq
    ·exact .inl (.inl h)
    ·exact .inr ⟨q,hq,h⟩
end Go.VE
namespace Go.VE
open Go.RowKit Go.Proofs
def f0 (o:Option Int):Int:=o.getD 0
def en12 (d who:Int) (kin:D) (m:Nat) (acc:List Int):Nat×List Yr:=match acc with
 | []=>(0,[.d (il d),.d (il ((m:Int) - 1)),.d kin,.d (il who)])
 | y::r=>(1,[.d (il d),.d (il ((m:Int) - 1)),.r ((y::r).map rI),.n (y::r).length,.n (y::r).length,.d kin,.d (il who)])
def Q12 (n:Nat) (who:Int) (kin:D) (T:List Int) (r:Out):Prop :=
 (∃ acc:List Int,acc≠[]∧Up acc∧acc.length≤n∧((r=some (1,[.r (acc.map rI),.n acc.length,.n acc.length,.d kin,.d (il who)])∧acc=T)∨(r=some (3,[.r (acc.map rI),.n acc.length,.n acc.length,.d kin,.d (il who)])∧ins 0 acc=T)))∨(r=some (2,[.d kin,.d (il who)])∧ins 0 []=T)
theorem qcv {Fn:Nat→List D→Out} {FnD:D→List Sh→List D→Out} {m:Nat} (new:Rr) (k:Rr→Out):(q08 Fn FnD m).ins (il 0) [] new k=k new:=by
 have:=qj9 (Fn:=Fn) (FnD:=FnD) (m:=m) 0 [] new k (Nat.le_refl _)
 simpa using this
theorem q80 (x:Int) (l:List Int):ins x l≠[]:=fun h=>by
 have:x∈ins x l:=(q41 x x l).2 (.inl rfl)
 rw [h] at this;simp at this
set_option maxRecDepth 20000 in
theorem l12 (n:Nat) (a b c:Option (List E9)) (o:Option (List E5)) (d who:Int) (hl:(a.getD []).length≤1000000) :
  Q12 (a.getD []).length who (q0U a b c o) (q1A f0 [] (q11 d who (below (a.getD []) (a.getD []).length))) (q0l [L12_0 (RP (n+4)),L12_1 (RP (n+4))] M0 0 [.d (il d),.d (il (((a.getD []).length:Int) - 1)),.d (q0U a b c o),.d (il who)]):=by
 have:=q4P (σ:=Nat×List Int) [L12_0 (RP (n+4)),L12_1 (RP (n+4))] (fun s=>en12 d who (q0U a b c o) s.1 s.2) (fun s=>s.1)
  (fun s=>s.1≤(a.getD []).length∧Up s.2∧s.2.length+s.1≤(a.getD []).length∧q1A f0 s.2 (q11 d who (below (a.getD []) s.1))=q1A f0 [] (q11 d who (below (a.getD []) (a.getD []).length)))
  (Q12 (a.getD []).length who (q0U a b c o) (q1A f0 [] (q11 d who (below (a.getD []) (a.getD []).length)))) ?_ M0 ((a.getD []).length,[]) ⟨Nat.le_refl _,by simp,by simp,rfl⟩ (by unfold M0;simp only;omega)
 ·exact this
 ·generalize q1A f0 [] (q11 d who (below (a.getD []) (a.getD []).length))=T
  rintro ⟨m,acc⟩ k ⟨g1,g2,g3,g4⟩ ih
  simp only at g1 g2 g3 g4 ih
  cases m with
  | zero =>
   rw [q4l] at g4
   cases acc with
   | nil =>
    refine ⟨L12_0 (RP (n+4)),rfl,.inr ⟨?_,g4⟩⟩
    simp [en12,L12_0]
   | cons y r =>
    refine ⟨L12_1 (RP (n+4)),rfl,.inl ⟨y::r,by simp,g2,by omega,.inr ⟨?_,g4⟩⟩⟩
    simp [en12,L12_1]
  | succ m =>
   obtain ⟨e,he⟩:∃ e,(a.getD [])[m]?=some e:=⟨_,List.getElem?_eq_getElem (by omega)⟩
   rw [q3m he,q11] at g4
   have hm:(((m+1:Nat):Int) - 1)=((m:Nat):Int):=by omega
   have hw:IntKind.i64.wrap (((m:Nat):Int) - 1)=((m:Nat):Int) - 1:=q0f (by omega) (by omega)
   have h157:=s157 (n+3) a b c o m e who he
   cases acc with
   | nil =>
    refine ⟨L12_0 (RP (n+4)),rfl,?_⟩
    simp only [en12,hm,L12_0,q02,q04,q03,q1S,q01]
    rw [if_pos (by simp)]
    simp only [q06,h157,q00,q02,q04,q0J,q01,q1o,hw]
    by_cases h1:e.a=who
    ·rw [if_neg (by simp [h1])]
     simp only [qgi,q00,q02,q0J,q01]
     by_cases h2:q1Z e.f1 e.t2 d=true
     ·rw [if_neg (by simp [h2])]
      rw [if_pos ⟨h1,h2⟩] at g4
      simp only [q0Z,qh2,q00,q02,q04,q01,Bool.false_eq_true,if_true,if_false,q0G,q0u,q0A,q0q,List.length_cons,List.length_nil,q0B,List.take_succ_cons,List.take_zero,q0S,q0v]
      rw [if_pos (by simp [])]
      simp only [qcv,q00,qa5,q02,q01]
      by_cases h3:q1C e.f2 e.t1 d=true
      ·rw [if_pos h3] at g4 ⊢
       exact .inl ⟨[e.b],by simp,by simp,by simp;omega,.inl ⟨rfl,g4⟩⟩
      ·rw [if_neg h3] at g4 ⊢
       exact ih (m,[e.b]) ⟨by simp only;omega,by simp,by simp only [List.length_singleton];omega,g4⟩ (by simp only;omega)
     ·rw [if_pos (by simp [h2])]
      rw [if_neg fun h=>h2 h.2] at g4
      exact ih (m,[]) ⟨by simp only;omega,g2,by simp only [List.length_nil];omega,g4⟩ (by simp only;omega)
    ·rw [if_pos (by simp [h1])]
     rw [if_neg fun h=>h1 h.1] at g4
     exact ih (m,[]) ⟨by simp only;omega,g2,by simp only [List.length_nil];omega,g4⟩ (by simp only;omega)
   | cons y r =>
    refine ⟨L12_1 (RP (n+4)),rfl,?_⟩
    simp only [en12,hm,L12_1,q02,q04,q0E,q0D,q0x,q0F,q03,q1S,q01]
    rw [if_pos (by simp)]
    simp only [q06,h157,q00,q02,q04,q0J,q01,q1o,hw]
    by_cases h1:e.a=who
    ·rw [if_neg (by simp [h1])]
     simp only [qgi,q00,q02,q0J,q01]
     by_cases h2:q1Z e.f1 e.t2 d=true
     ·rw [if_neg (by simp [h2])]
      rw [if_pos ⟨h1,h2⟩] at g4
      have hlen:(y::r).length=((y::r).map rI).length:=by simp
      have hput:=q1n n (y::r) e.b (by simp only [List.length_cons] at g3 ⊢;omega) g2
      simp only [q0A,q0B,List.length_map,if_true,q1e,hput,q00,q02,q12,qa5,q01]
      have hil:=q2Z e.b (y::r)
      have hne:=q80 e.b (y::r)
      have hup:=q3J e.b g2
      by_cases h3:q1C e.f2 e.t1 d=true
      ·rw [if_pos h3] at g4 ⊢
       exact .inl ⟨ins e.b (y::r),hne,hup,by simp only [List.length_cons] at g3 hil ⊢;omega,.inl ⟨rfl,g4⟩⟩
      ·rw [if_neg h3] at g4 ⊢
       have:=ih (m,ins e.b (y::r)) ⟨by simp only;omega,hup,by simp only [List.length_cons] at g3 hil ⊢;omega,g4⟩ (by simp only;omega)
       revert this
       generalize ins e.b (y::r)=q at hne
       cases q with
       | nil=>exact absurd rfl hne
       | cons z zs=>intro this;exact this
     ·rw [if_pos (by simp [h2])]
      rw [if_neg fun h=>h2 h.2] at g4
      exact ih (m,y::r) ⟨by simp only;omega,g2,by simp only at g3 ⊢;omega,g4⟩ (by simp only;omega)
    ·rw [if_pos (by simp [h1])]
     rw [if_neg fun h=>h1 h.1] at g4
     exact ih (m,y::r) ⟨by simp only;omega,g2,by simp only at g3 ⊢;omega,g4⟩ (by simp only;omega)
end Go.VE
namespace Go.VE
open Go.RowKit Go.Proofs
def q0I (d who:Int) (l:List E9):List Int:=q1A f0 [] (q11 d who (below l l.length))
theorem q0m (k:Int) (o:Option (List E9)):(kn9 k o).getD []=q0p k (o.getD []):=by cases o<;>rfl
theorem q2w (k:Int) (o:Option (List E5)):(kn5 k o).getD []=q2Q k (o.getD []):=by cases o<;>rfl
theorem q15 {ok ps fs:Bool} {p f:Int} {ds:List Int} (h:q0R ok ps fs p f ds=0):ok=true:=by
 unfold q0R at h
 cases ok with
 | true=>rfl
 | false=>simp at h
theorem q0Y {a b c:List E9} {o:List E5} (h:q0k a b c o=true):a.length≤60∧b.length≤60∧c.length≤60∧o.length≤60:=by
 unfold q0k at h
 simp only [Bool.and_eq_true,decide_eq_true_eq] at h
 exact h.1.1.1.1
set_option maxRecDepth 20000 in
theorem s12 (n:Nat) (p d k:Int) (a b c:Option (List E9)) (o:Option (List E5)) (ha:(a.getD []).length*72≤140737488351232) (hb:(b.getD []).length*72≤140737488351232) (hc:(c.getD []).length*72≤140737488351232) (ho:(o.getD []).length*40≤140737488351232) :
  FN (n+11) 12 [d9 a,d9 b,d9 c,d5 o,il p,il d,il k]=if q0R (q0k (a.getD []) (b.getD []) (c.getD []) (o.getD [])) true false p 0 [d,k]=0 then some (0,[.d (dI (some (q0I d p (q0p k (a.getD []))))),.d (il 0)]) else some (0,[.d (dI none),.d (il (q0R (q0k (a.getD []) (b.getD []) (c.getD []) (o.getD [])) true false p 0 [d,k]))]):=by
 rw [F12]
 have h73:=s73 n p 0 true false a b c o [d] k (by simp) ha hb hc ho
 rw [show dI (some ([d]++[k]))=.sl 1 [[il d],[il k]] from rfl] at h73
 simp only [G12,q06,s72,q00,q02,q04,q0u,q1e,h73]
 simp only [List.cons_append,List.nil_append]
 by_cases he:q0R (q0k (a.getD []) (b.getD []) (c.getD []) (o.getD [])) true false p 0 [d,k]=0
 ·rw [if_pos he]
  have hlen:=(q0Y (q15 he)).1
  have hcl:((kn9 k a).getD []).length≤60:=by
   rw [q0m];exact Nat.le_trans (List.length_filter_le _ _) hlen
  have hl12:=l12 (n+6) (kn9 k a) (kn9 k b) (kn9 k c) (kn5 k o) d p (by omega)
  simp only [q4C,he,if_true,q00,q02,q04,q03,q0y,ne_eq,not_true_eq_false,decide_false,q01,Bool.false_eq_true,if_false,q0U,q3Z]
  rw [q1O _ 4 _ rfl]
  simp only [q07,q4R,q1o]
  rw [q0f (by omega) (by omega)]
  simp only [q0r]
  simp only [q0U] at hl12
  rw [q0m] at hl12
  rw [q0m] at hcl
  simp only [q0m]
  unfold Q12 at hl12
  rw [show q0I d p (q0p k (a.getD []))=q1A f0 [] (q11 d p (below (q0p k (a.getD [])) (q0p k (a.getD [])).length)) from rfl]
  have ht:∀ q:List Int,(q.map rI).take q.length=q.map rI:=fun q=>List.take_of_length_le (by simp)
  rcases hl12 with ⟨acc,hne,hup,hle,(⟨hr,hT⟩ | ⟨hr,hT⟩)⟩ | ⟨hr,hT⟩
  ·rw [hr,← hT]
   simp [dI,dSl,ht]
  ·rw [hr,← hT]
   have hput:=q1n (n+6) acc 0 (by omega) hup
   simp [hput,dI,dSl]
  ·rw [hr,← hT]
   simp [qh2,qcv,dI,dSl,ins,rI]
 ·rw [if_neg he]
  simp only [q4C,if_neg he,q00,q02,q04,q03,q0y,q01]
  rw [if_pos (by simpa using he)]
  simp [dI,dSl]
end Go.VE
namespace Go.VE
open Go.RowKit Go.Proofs
theorem q9C (n:Nat) (x:Int):FN (n+1) 92 [.lit (.slice none 0 0),il x]=some (0,[.d (dI (some [x]))]):=s92 n none x (by simp) (by simp)
end Go.VE
namespace Go.VE
open Go.RowKit Go.Proofs
theorem qc3 (d who:Int) (l:List E9):Up (q0I d who l):=q7q _ _ (by simp)
end Go.VE
namespace Go.VE
open Go.RowKit Go.Proofs
def fm (o:Option Int):Int:=o.getD (-1)
def q1T (d who:Int) (l:List E9):List Int:=q1A fm [] (q11 d who (below l l.length))
theorem qgC (d who:Int) (l:List E9):Up (q1T d who l):=q7q _ _ (by simp)
end Go.VE
namespace Go.VE
open Go.RowKit Go.Proofs
def q8y (d who:Int) (l:List E5):Bool:=l.any fun e=>decide (e.a=who∧e.day=d - 1)
theorem s218 (n:Nat) (e:E5) (d who:Int) (hd:0≤d∧d≤4166):FN (n+1) 218 (r5 e++[il who,il d])=some (0,[.d (bl (decide (e.a=who∧e.day=d - 1)))]):=by
 rw [r5]
 simp only [List.cons_append,List.nil_append]
 rw [F218]
 have hwd:IntKind.i64.wrap (d - 1)=d - 1:=q0f (by omega) (by omega)
 simp only [G218,q0M,q01,q03,q1o,hwd,q0d,q0K]
 by_cases h:e.a=who<;>simp [h]
theorem d218 (n:Nat) (e:E5) (d who:Int) (hd:0≤d∧d≤4166):FD (n+1) (.fn 218 [.dp [il who] 0,.dp [il d] 0]) [.agg 5] (r5 e)=some (0,[.d (bl (decide (e.a=who∧e.day=d - 1)))]) :=
 q4A [.agg 5,.ptr 1,.ptr 1] [.agg (r5 e)] (by decide) rfl (by kernel_rfl) rfl (by kernel_rfl) (s218 n e d who hd)
theorem s214 (n:Nat) (x y z:D) (o:Option (List E5)) (d who:Int) (hd:0≤d∧d≤4166) (hl:(o.getD []).length≤4611686018427387904):FN (n+5) 214 [x,y,z,d5 o,il who,il d]=some (0,[.d (bl (q8y d who (o.getD [])))]):=by
 rw [F214]
 simp only [G214,q06,q4L,q5u,s125 (n+1) o hl (.fn 218 [.dp [il who] 0,.dp [il d] 0]) _ (fun e _=>d218 n e d who hd),q00,q02,q0d]
 rfl
end Go.VE
namespace Go.VE
open Go.RowKit Go.Proofs
def qea (b:Bool) (q r:List Int):Int:=if (b||decide (q=[0])||!decide (-1∈r))=true then 0 else if 0∈q∨1 < r.length then 2 else 1
end Go.VE
namespace Go.VE
open Go.RowKit Go.Proofs
def q7p (a c:List E9) (o:List E5) (d p:Int):Int:=qea (q8y d p o) (q0I d p a) (q1T d p c)
def byI (a c:List E9) (o:List E5) (d z:Int):Int:=if 0 < z then q7p a c o d z else if z=0 then 0 else 1
end Go.VE
namespace Go.VE
open Go.RowKit Go.Proofs
def q1g (a c:List E9) (o:List E5) (d who:Int):Int :=
 if (q8y d who o||decide (q0I d who a=[0]))=true then 0 else q5H ((q1T d who c).any fun z=>decide (byI a c o d z≠0)) (decide (0∈q0I d who a)||(q1T d who c).any fun z=>decide (byI a c o d z≠1))
end Go.VE
namespace Go.VE
open Go.RowKit Go.Proofs
theorem q1s {ok ps fs:Bool} {p f d k:Int} (h:q0R ok ps fs p f [d,k]=0):(0≤d∧d≤4166)∧0≤k∧k≤4166:=by
 unfold q0R at h
 split at h
 ·simp at h
 ·split at h
  ·simp at h
  ·split at h
   ·simp at h
   ·split at h
    ·simp at h
    ·rename_i hh
     simp only [List.any_cons,List.any_nil,Bool.or_false,Bool.or_eq_true,Bool.not_eq_true',decide_eq_false_iff_not,not_or,Decidable.not_not] at hh
     exact hh
end Go.VE
