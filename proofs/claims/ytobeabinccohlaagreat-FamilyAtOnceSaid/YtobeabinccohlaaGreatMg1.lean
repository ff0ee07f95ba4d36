/- Family: slices.DeleteFunc over a row that is handed over. -/
import Derived.Test.YtobeabinccohlaaGreatMg0
set_option maxRecDepth 20000
namespace Go.VE
open Go.RowKit Go.Proofs
section
section
variable {Fn:Nat→List D→Out} {FnD:D→List Sh→List D→Out} {m:Nat}
theorem q5u (i n:Nat) (k:Nat→Nat→Out) (e:Out) (h:i < n):(q05 Fn FnD m).cut (some (il i)) none n k e=k i (n - i):=by
 show (if 0≤(i:Int)∧(i:Int)≤(n:Int)∧(n:Int)≤(n:Int) then (if (i:Int)=0∨(i:Int) < (n:Int) then k (i:Int).toNat ((n:Int) - (i:Int)).toNat else e) else none)=_
 rw [if_pos (by omega),if_pos (by omega),Int.toNat_natCast,show ((n:Int) - (i:Int)).toNat=n - i by omega]
theorem q5v (i n:Nat) (k:Nat→Nat→Out) (e:Out) (h:i≤n):(q05 Fn FnD m).cut none (some (il i)) n k e=k 0 i:=by
 show (if 0≤(0:Int)∧(0:Int)≤(i:Int)∧(i:Int)≤(n:Int) then (if (0:Int)=0∨(0:Int) < (i:Int) then k (0:Int).toNat ((i:Int) - 0).toNat else e) else none)=_
 rw [if_pos (by omega),if_pos (.inl rfl),show ((i:Int) - 0).toNat=i by omega]
 rfl
end
theorem qih {α:Type} {l:List α} {i:Nat} {c:α} (h:i < l.length):(l.set i c).take (i+1)=l.take i++[c]:=by
 rw [List.take_add_one,List.take_set_of_le (Nat.le_refl _),List.getElem?_set_self h];rfl
theorem q3F {α:Type} {p:α→Bool}:∀ {l:List α} {i:Nat},fnd p l=some i→i < l.length∧(l.take (i+1)).filter (fun e=>!p e)=l.take i
 | [],i,h=>by cases h
 | x::xs,i,h=>by
  simp only [fnd] at h
  split at h
  ·rename_i hp
   cases h
   simp [hp]
  ·rename_i hp
   obtain ⟨j,hj,rfl⟩:=Option.map_eq_some_iff.1 h
   obtain ⟨h1,h2⟩:=q3F hj
   simp only [Bool.not_eq_true] at hp
   refine ⟨by simp;omega,?_⟩
   rw [List.take_succ_cons,List.filter_cons_of_pos (by simp [hp]),h2,List.take_succ_cons]
theorem q3G {α:Type} {p:α→Bool}:∀ {l:List α},fnd p l=none→l.filter (fun e=>!p e)=l
 | [],_=>rfl
 | x::xs,h=>by
  simp only [fnd] at h
  split at h
  ·cases h
  ·rename_i hp
   simp only [Bool.not_eq_true] at hp
   rw [List.filter_cons_of_pos (by simp [hp]),q3G (by simpa using h)]
theorem q6e {α:Type} (l:List α) (hl:l.length≤4611686018427387904) (p:α→Bool) (body:(Nat→List Yr→Out)→List Yr→Out) (st:Nat→Nat→List α→List Yr) (ex:Nat→List α→Out)
  (e0:∀ i ks k,ks.length=l.length→body k (st i l.length ks)=ex i ks)
  (e1:∀ (i j:Nat) ks c c2 (k:Nat→List Yr→Out),c∈l→ks[j]?=some c→ks[i]?=some c2→i < j→(j:Int) < (l.length:Int)→(i:Int) < (l.length:Int)→ks.length=l.length→IntKind.i64.wrap ((j:Int)+1)=((j+1:Nat):Int)→IntKind.i64.wrap ((i:Int)+1)=((i+1:Nat):Int) →
   body k (st i j ks)=if p c=true then k 0 (st i (j+1) ks) else k 0 (st (i+1) (j+1) (ks.set i c)))
  (i0:Nat) (h0:i0 < l.length) (h1:(l.take (i0+1)).filter (fun e=>!p e)=l.take i0) :
  ∃ i ks,q0o [body] M0 0 (st i0 (i0+1) l)=ex i ks∧i < l.length∧ks.length=l.length∧ks.take i=l.filter (fun e=>!p e):=by
 refine q4K (σ:=Nat×Nat×List α) [body] (fun s=>(0,st s.1 s.2.1 s.2.2)) (fun s=>l.length - s.2.1)
  (fun s=>s.1 < s.2.1∧s.2.1≤l.length∧s.2.2.length=l.length∧s.2.2.drop s.2.1=l.drop s.2.1∧s.2.2.take s.1=(l.take s.2.1).filter (fun e=>!p e))
  (fun r=>∃ i ks,r=ex i ks∧i < l.length∧ks.length=l.length∧ks.take i=l.filter (fun e=>!p e)) ?_ M0 (i0,i0+1,l)
  ⟨Nat.lt_succ_self _,h0,rfl,rfl,h1.symm⟩ (by have:=q2A hl;unfold M0;simp only;omega)
 rintro ⟨i,j,ks⟩ k ⟨g1,g2,g3,g4,g5⟩ ih
 simp only at g1 g2 g3 g4 g5 ih ⊢
 refine ⟨body,rfl,?_⟩
 by_cases hj:j < l.length
 ·obtain ⟨c,hc⟩:∃ c,l[j]?=some c:=⟨l[j],List.getElem?_eq_getElem hj⟩
  have hkc:ks[j]?=some c:=by
   have e1:(ks.drop j)[0]?=(l.drop j)[0]?:=by rw [g4]
   simpa [List.getElem?_drop,hc] using e1
  obtain ⟨c2,hc2⟩:∃ c2,ks[i]?=some c2:=⟨ks[i]'(by omega),List.getElem?_eq_getElem (by omega)⟩
  have ht:l.take (j+1)=l.take j++[c]:=by rw [List.take_add_one,hc];rfl
  have hd:ks.drop (j+1)=l.drop (j+1):=by
   have e2:(ks.drop j).drop 1=(l.drop j).drop 1:=by rw [g4]
   rwa [List.drop_drop,List.drop_drop] at e2
  rw [e1 i j ks c c2 k (List.mem_of_getElem? hc) hkc hc2 g1 (by omega) (by omega) g3 (by rw [q0m (by omega) (by omega)];simp) (by rw [q0m (by omega) (by omega)];simp)]
  by_cases hpv:p c=true
  ·rw [if_pos hpv]
   exact ih (i,j+1,ks) ⟨by simp only;omega,hj,g3,hd,by simp only;rw [ht,List.filter_append,← g5];simp [hpv]⟩ (by simp only;omega)
  ·rw [if_neg hpv]
   refine ih (i+1,j+1,ks.set i c) ⟨by simp only;omega,hj,by simp only [List.length_set];exact g3,?_,?_⟩ (by simp only;omega)
   ·simp only
    rw [List.drop_set_of_lt (by omega)]
    exact hd
   ·simp only
    rw [qih (by omega),g5,ht,List.filter_append]
    simp [hpv]
 ·have hjl:j=l.length:=by omega
  subst hjl
  rw [e0 i ks k g3]
  exact ⟨i,ks,rfl,by omega,g3,by rw [g5,List.take_length]⟩
theorem q9C (n:Nat) (x:D) (p:E9→Bool) (l:List E9) (hl:l.length≤4611686018427387904) (hp:∀ e∈l,FD n x [.agg 9] (r9 e)=some (0,[.d (bl (p e))])) (i0:Nat) (h0:i0 < l.length) (h1:(l.take (i0+1)).filter (fun e=>!p e)=l.take i0) :
  ∃ (i:Nat) (ks:List E9),q0o [q2K (RP n)] M0 0 [.n l.length,.n l.length,.d x,.d (il i0),.d (il ((i0+1:Nat):Int)),.r (l.map r9)]=some (0,[.n l.length,.n l.length,.d (il ((i:Nat):Int)),.r (ks.map r9)])∧i < l.length∧ks.length=l.length∧ks.take i=l.filter (fun e=>!p e):=by
 refine q6e l hl p (q2K (RP n)) (fun i j ks=>[.n l.length,.n l.length,.d x,.d (il (i:Nat)),.d (il (j:Nat)),.r (ks.map r9)]) (fun i ks=>some (0,[.n l.length,.n l.length,.d (il ((i:Nat):Int)),.r (ks.map r9)])) ?_ ?_ i0 h0 h1
 ·intro i ks k hk
  simp [q2K]
 ·intro i j ks c c2 k hc hj hi hij hjl hil hks hwj hwi
  have hkr:(ks.map r9)[j]?=some (r9 c):=by rw [List.getElem?_map,hj];rfl
  have hkr2:(ks.map r9)[i]?=some (r9 c2):=by rw [List.getElem?_map,hi];rfl
  have hpc:q1Z Tryz.prog (cf3 tb Tryz.prog) (FN n) x [.agg 9] (r9 c)=some (0,[.d (bl (p c))]):=hp c hc
  simp only [q2K,q02,q06,q0Q,q0P,q0G,q0Z,q7C,q0A,q00,hjl,decide_true,if_true,q0B,List.length_map,q0K,hks]
  rw [q7D _ _ _ ⟨by omega,hjl⟩,Int.toNat_natCast,q3a 9 _ _ _ _ hkr rfl]
  rw [show [(RP n).cell (r9 c) 0,(RP n).cell (r9 c) 1,(RP n).cell (r9 c) 2,(RP n).cell (r9 c) 3,(RP n).cell (r9 c) 4,(RP n).cell (r9 c) 5,(RP n).cell (r9 c) 6,(RP n).cell (r9 c) 7,(RP n).cell (r9 c) 8]=r9 c from rfl]
  rw [q4e,hpc]
  simp only [q01,q02,q0z,q00,q04,q0s,hwj,hwi]
  cases hpv:p c with
  | true=>simp only [Bool.not_true,Bool.false_eq_true,if_false,if_true]
  | false =>
   simp only [Bool.not_false,if_true,Bool.false_eq_true,if_false]
   rw [q7D _ _ _ ⟨by omega,hil⟩,Int.toNat_natCast,q3a 9 _ _ _ _ hkr2 rfl]
   simp only [q3S,List.map_set]
theorem qiX (n:Nat) (x:D) (p:E5→Bool) (l:List E5) (hl:l.length≤4611686018427387904) (hp:∀ e∈l,FD n x [.agg 5] (r5 e)=some (0,[.d (bl (p e))])) (i0:Nat) (h0:i0 < l.length) (h1:(l.take (i0+1)).filter (fun e=>!p e)=l.take i0) :
  ∃ (i:Nat) (ks:List E5),q0o [q49 (RP n)] M0 0 [.n l.length,.n l.length,.d x,.d (il i0),.d (il ((i0+1:Nat):Int)),.r (l.map r5)]=some (0,[.n l.length,.n l.length,.d (il ((i:Nat):Int)),.r (ks.map r5)])∧i < l.length∧ks.length=l.length∧ks.take i=l.filter (fun e=>!p e):=by
 refine q6e l hl p (q49 (RP n)) (fun i j ks=>[.n l.length,.n l.length,.d x,.d (il (i:Nat)),.d (il (j:Nat)),.r (ks.map r5)]) (fun i ks=>some (0,[.n l.length,.n l.length,.d (il ((i:Nat):Int)),.r (ks.map r5)])) ?_ ?_ i0 h0 h1
 ·intro i ks k hk
  simp [q49]
 ·intro i j ks c c2 k hc hj hi hij hjl hil hks hwj hwi
  have hkr:(ks.map r5)[j]?=some (r5 c):=by rw [List.getElem?_map,hj];rfl
  have hkr2:(ks.map r5)[i]?=some (r5 c2):=by rw [List.getElem?_map,hi];rfl
  have hpc:q1Z Tryz.prog (cf3 tb Tryz.prog) (FN n) x [.agg 5] (r5 c)=some (0,[.d (bl (p c))]):=hp c hc
  simp only [q49,q02,q06,q0Q,q0P,q0G,q0Z,q7C,q0A,q00,hjl,decide_true,if_true,q0B,List.length_map,q0K,hks]
  rw [q7D _ _ _ ⟨by omega,hjl⟩,Int.toNat_natCast,q3a 5 _ _ _ _ hkr rfl]
  rw [show [(RP n).cell (r5 c) 0,(RP n).cell (r5 c) 1,(RP n).cell (r5 c) 2,(RP n).cell (r5 c) 3,(RP n).cell (r5 c) 4]=r5 c from rfl]
  rw [q4e,hpc]
  simp only [q01,q02,q0z,q00,q04,q0s,hwj,hwi]
  cases hpv:p c with
  | true=>simp only [Bool.not_true,Bool.false_eq_true,if_false,if_true]
  | false =>
   simp only [Bool.not_false,if_true,Bool.false_eq_true,if_false]
   rw [q7D _ _ _ ⟨by omega,hil⟩,Int.toNat_natCast,q3a 5 _ _ _ _ hkr2 rfl]
   simp only [q3S,List.map_set]
theorem qjm (n:Nat):q9g (RP n)=q2K (RP n):=rfl
theorem qjl (n:Nat):q9f (RP n)=q2K (RP n):=rfl
theorem qcH (n:Nat) (x:D) (p:E9→Bool) (l:List E9) (hl:l.length≤4611686018427387904) (hp:∀ e∈l,FD n x [.agg 9] (r9 e)=some (0,[.d (bl (p e))])) (hp1:∀ e∈l,FD (n+1) x [.agg 9] (r9 e)=some (0,[.d (bl (p e))])) :
  ∃ rest:Rr,FN (n+2) 1000097 [.sl 9 (l.map r9),x]=some (0,[.d (.sl 9 ((l.filter fun e=>!p e).map r9)),.d (.sl 9 rest)]):=by
 have hi:=s181 n (some l) hl x p hp
 simp only [d9,Option.map_some,dSl,Option.getD_some] at hi
 rw [FS,qcj]
 have hlen:(l.map r9).take (l.map r9).length=l.map r9:=List.take_length
 simp only [qe1,q1f,q0B,q0K,q0J,q1n,hlen,q08,hi,q01,q02,q2D,List.all_cons,List.all_nil,qhH,Bool.and_true,if_true,q04,q1a,q00,decide_eq_true_eq,q0c]
 unfold q73
 cases hf:fnd p l with
 | none =>
  refine ⟨l.map r9,?_⟩
  simp only [if_true]
  rw [q3G hf]
 | some i0 =>
  obtain ⟨h0,h1⟩:=q3F hf
  simp only
  rw [if_neg (by omega),q0s,q0m (by omega) (by omega),q0r,List.length_map]
  obtain ⟨i,ks,e1,e2,e3,e4⟩:=q9C (n+1) x p l hl hp1 i0 h0 h1
  rw [show ((i0:Nat):Int)+1=((i0+1:Nat):Int) by simp,e1]
  have ek:(ks.map r9).length=l.length:=by simp [e3]
  simp only [q01,q02,q06,q0Q,q0P,q0G,q0Z,ek,if_true]
  rw [q5u _ _ _ _ e2]
  have ea:i+(l.length - i)=l.length:=by omega
  have et:((ks.map r9).take i++List.replicate (l.length - i) [il 0,il 0,il 0,il 0,il 0,il 0,il 0,il 0,il 0]).length=l.length:=by
   simp [e3];omega
  simp only [q2c,ea,q4f,q6Y,et,if_true]
  rw [q5v _ _ _ _ (by omega)]
  have er:((ks.map r9).take i++List.replicate (l.length - i) [il 0,il 0,il 0,il 0,il 0,il 0,il 0,il 0,il 0]).take i=(l.filter fun e=>!p e).map r9:=by
   rw [List.take_append_of_le_length (by simp [e3];omega),List.take_take,Nat.min_self,← List.map_take,e4]
  rw [er]
  exact ⟨_,rfl⟩
theorem qcG (n:Nat) (x:D) (p:E9→Bool) (l:List E9) (hl:l.length≤4611686018427387904) (hp:∀ e∈l,FD n x [.agg 9] (r9 e)=some (0,[.d (bl (p e))])) (hp1:∀ e∈l,FD (n+1) x [.agg 9] (r9 e)=some (0,[.d (bl (p e))])) :
  ∃ rest:Rr,FN (n+2) 1000099 [.sl 9 (l.map r9),x]=some (0,[.d (.sl 9 ((l.filter fun e=>!p e).map r9)),.d (.sl 9 rest)]):=by
 have hi:=s182 n (some l) hl x p hp
 simp only [d9,Option.map_some,dSl,Option.getD_some] at hi
 rw [FS,qci]
 have hlen:(l.map r9).take (l.map r9).length=l.map r9:=List.take_length
 simp only [qe0,q1f,q0B,q0K,q0J,q1n,hlen,q08,hi,q01,q02,q2D,List.all_cons,List.all_nil,qhH,Bool.and_true,if_true,q04,q1a,q00,decide_eq_true_eq,q0c]
 unfold q73
 cases hf:fnd p l with
 | none =>
  refine ⟨l.map r9,?_⟩
  simp only [if_true]
  rw [q3G hf]
 | some i0 =>
  obtain ⟨h0,h1⟩:=q3F hf
  simp only
  rw [if_neg (by omega),q0s,q0m (by omega) (by omega),q0r,List.length_map]
  obtain ⟨i,ks,e1,e2,e3,e4⟩:=q9C (n+1) x p l hl hp1 i0 h0 h1
  rw [show ((i0:Nat):Int)+1=((i0+1:Nat):Int) by simp,qjm,e1]
  have ek:(ks.map r9).length=l.length:=by simp [e3]
  simp only [q01,q02,q06,q0Q,q0P,q0G,q0Z,ek,if_true]
  rw [q5u _ _ _ _ e2]
  have ea:i+(l.length - i)=l.length:=by omega
  have et:((ks.map r9).take i++List.replicate (l.length - i) [il 0,il 0,il 0,il 0,il 0,il 0,il 0,il 0,il 0]).length=l.length:=by
   simp [e3];omega
  simp only [q2c,ea,q4f,q6Y,et,if_true]
  rw [q5v _ _ _ _ (by omega)]
  have er:((ks.map r9).take i++List.replicate (l.length - i) [il 0,il 0,il 0,il 0,il 0,il 0,il 0,il 0,il 0]).take i=(l.filter fun e=>!p e).map r9:=by
   rw [List.take_append_of_le_length (by simp [e3];omega),List.take_take,Nat.min_self,← List.map_take,e4]
  rw [er]
  exact ⟨_,rfl⟩
theorem qcF (n:Nat) (x:D) (p:E9→Bool) (l:List E9) (hl:l.length≤4611686018427387904) (hp:∀ e∈l,FD n x [.agg 9] (r9 e)=some (0,[.d (bl (p e))])) (hp1:∀ e∈l,FD (n+1) x [.agg 9] (r9 e)=some (0,[.d (bl (p e))])) :
  ∃ rest:Rr,FN (n+2) 1000101 [.sl 9 (l.map r9),x]=some (0,[.d (.sl 9 ((l.filter fun e=>!p e).map r9)),.d (.sl 9 rest)]):=by
 have hi:=s183 n (some l) hl x p hp
 simp only [d9,Option.map_some,dSl,Option.getD_some] at hi
 rw [FS,qch]
 have hlen:(l.map r9).take (l.map r9).length=l.map r9:=List.take_length
 simp only [qdZ,q1f,q0B,q0K,q0J,q1n,hlen,q08,hi,q01,q02,q2D,List.all_cons,List.all_nil,qhH,Bool.and_true,if_true,q04,q1a,q00,decide_eq_true_eq,q0c]
 unfold q73
 cases hf:fnd p l with
 | none =>
  refine ⟨l.map r9,?_⟩
  simp only [if_true]
  rw [q3G hf]
 | some i0 =>
  obtain ⟨h0,h1⟩:=q3F hf
  simp only
  rw [if_neg (by omega),q0s,q0m (by omega) (by omega),q0r,List.length_map]
  obtain ⟨i,ks,e1,e2,e3,e4⟩:=q9C (n+1) x p l hl hp1 i0 h0 h1
  rw [show ((i0:Nat):Int)+1=((i0+1:Nat):Int) by simp,qjl,e1]
  have ek:(ks.map r9).length=l.length:=by simp [e3]
  simp only [q01,q02,q06,q0Q,q0P,q0G,q0Z,ek,if_true]
  rw [q5u _ _ _ _ e2]
  have ea:i+(l.length - i)=l.length:=by omega
  have et:((ks.map r9).take i++List.replicate (l.length - i) [il 0,il 0,il 0,il 0,il 0,il 0,il 0,il 0,il 0]).length=l.length:=by
   simp [e3];omega
  simp only [q2c,ea,q4f,q6Y,et,if_true]
  rw [q5v _ _ _ _ (by omega)]
  have er:((ks.map r9).take i++List.replicate (l.length - i) [il 0,il 0,il 0,il 0,il 0,il 0,il 0,il 0,il 0]).take i=(l.filter fun e=>!p e).map r9:=by
   rw [List.take_append_of_le_length (by simp [e3];omega),List.take_take,Nat.min_self,← List.map_take,e4]
  rw [er]
  exact ⟨_,rfl⟩
theorem qcE (n:Nat) (x:D) (p:E5→Bool) (l:List E5) (hl:l.length≤4611686018427387904) (hp:∀ e∈l,FD n x [.agg 5] (r5 e)=some (0,[.d (bl (p e))])) (hp1:∀ e∈l,FD (n+1) x [.agg 5] (r5 e)=some (0,[.d (bl (p e))])) :
  ∃ rest:Rr,FN (n+2) 1000103 [.sl 5 (l.map r5),x]=some (0,[.d (.sl 5 ((l.filter fun e=>!p e).map r5)),.d (.sl 5 rest)]):=by
 have hi:=s184 n (some l) hl x p hp
 simp only [d5,Option.map_some,dSl,Option.getD_some] at hi
 rw [FS,qcg]
 have hlen:(l.map r5).take (l.map r5).length=l.map r5:=List.take_length
 simp only [qdY,q1f,q0B,q0K,q0J,q1n,hlen,q08,hi,q01,q02,q2D,List.all_cons,List.all_nil,qhH,Bool.and_true,if_true,q04,q1a,q00,decide_eq_true_eq,q0c]
 unfold q73
 cases hf:fnd p l with
 | none =>
  refine ⟨l.map r5,?_⟩
  simp only [if_true]
  rw [q3G hf]
 | some i0 =>
  obtain ⟨h0,h1⟩:=q3F hf
  simp only
  rw [if_neg (by omega),q0s,q0m (by omega) (by omega),q0r,List.length_map]
  obtain ⟨i,ks,e1,e2,e3,e4⟩:=qiX (n+1) x p l hl hp1 i0 h0 h1
  rw [show ((i0:Nat):Int)+1=((i0+1:Nat):Int) by simp,e1]
  have ek:(ks.map r5).length=l.length:=by simp [e3]
  simp only [q01,q02,q06,q0Q,q0P,q0G,q0Z,ek,if_true]
  rw [q5u _ _ _ _ e2]
  have ea:i+(l.length - i)=l.length:=by omega
  have et:((ks.map r5).take i++List.replicate (l.length - i) [il 0,il 0,il 0,il 0,il 0]).length=l.length:=by
   simp [e3];omega
  simp only [q2c,ea,q4f,q6Y,et,if_true]
  rw [q5v _ _ _ _ (by omega)]
  have er:((ks.map r5).take i++List.replicate (l.length - i) [il 0,il 0,il 0,il 0,il 0]).take i=(l.filter fun e=>!p e).map r5:=by
   rw [List.take_append_of_le_length (by simp [e3];omega),List.take_take,Nat.min_self,← List.map_take,e4]
  rw [er]
  exact ⟨_,rfl⟩
end
section
theorem s177n (n:Nat):FN (n+1) 177 [d9 none]=some (1,[.d (d9 none)]):=by
 rw [FS,qhz];simp [G177,d9,dSl]
theorem s177s (n:Nat) (l:List E9) (hl:l.length*72≤140737488351232):FN (n+1) 177 [d9 (some l)]=some (0,[.r (l.map r9)]):=by
 rw [FS,qhz]
 simp only [G177,d9,Option.map_some,dSl,q7B,q1f,q1o,q0B,q0C,List.length_nil,q0K,if_true,q2c,Nat.zero_add,List.length_map,q4f,List.nil_append,qej,Nat.le_refl,q0J,q0c,q1j]
 rw [if_pos (by omega)]
 rw [show l.length=(l.map r9).length by simp,List.take_length]
theorem s178n (n:Nat):FN (n+1) 178 [d9 none]=some (1,[.d (d9 none)]):=by
 rw [FS,qhy];simp [G178,d9,dSl]
theorem s178s (n:Nat) (l:List E9) (hl:l.length*72≤140737488351232):FN (n+1) 178 [d9 (some l)]=some (0,[.r (l.map r9)]):=by
 rw [FS,qhy]
 simp only [G178,d9,Option.map_some,dSl,q7B,q1f,q1o,q0B,q0C,List.length_nil,q0K,if_true,q2c,Nat.zero_add,List.length_map,q4f,List.nil_append,qej,Nat.le_refl,q0J,q0c,q1j]
 rw [if_pos (by omega)]
 rw [show l.length=(l.map r9).length by simp,List.take_length]
theorem s179n (n:Nat):FN (n+1) 179 [d9 none]=some (1,[.d (d9 none)]):=by
 rw [FS,qhx];simp [G179,d9,dSl]
theorem s179s (n:Nat) (l:List E9) (hl:l.length*72≤140737488351232):FN (n+1) 179 [d9 (some l)]=some (0,[.r (l.map r9)]):=by
 rw [FS,qhx]
 simp only [G179,d9,Option.map_some,dSl,q7B,q1f,q1o,q0B,q0C,List.length_nil,q0K,if_true,q2c,Nat.zero_add,List.length_map,q4f,List.nil_append,qej,Nat.le_refl,q0J,q0c,q1j]
 rw [if_pos (by omega)]
 rw [show l.length=(l.map r9).length by simp,List.take_length]
theorem s180n (n:Nat):FN (n+1) 180 [d5 none]=some (1,[.d (d5 none)]):=by
 rw [FS,qhw];simp [G180,d5,dSl]
theorem s180s (n:Nat) (l:List E5) (hl:l.length*40≤140737488351232):FN (n+1) 180 [d5 (some l)]=some (0,[.r (l.map r5)]):=by
 rw [FS,qhw]
 simp only [G180,d5,Option.map_some,dSl,q7B,q1f,q1o,q0B,q0C,List.length_nil,q0K,if_true,q2c,Nat.zero_add,List.length_map,q4f,List.nil_append,qej,Nat.le_refl,q0J,q0c,q1j]
 rw [if_pos (by omega)]
 rw [show l.length=(l.map r5).length by simp,List.take_length]
theorem s97n (n:Nat) (x:D):FN (n+2) 97 [d9 none,x]=some (0,[.d (d9 none)]):=by
 rw [FS,G97_eq]
 simp only [G97,q08,s181 n none (by simp) x (fun _=>true) (by simp),q01,q02,q04,q1a,q00]
 rw [if_pos (by simp [q73,fnd])]
 rfl
theorem s99n (n:Nat) (x:D):FN (n+2) 99 [d9 none,x]=some (0,[.d (d9 none)]):=by
 rw [FS,G99_eq]
 simp only [G99,q08,s182 n none (by simp) x (fun _=>true) (by simp),q01,q02,q04,q1a,q00]
 rw [if_pos (by simp [q73,fnd])]
 rfl
theorem s101n (n:Nat) (x:D):FN (n+2) 101 [d9 none,x]=some (0,[.d (d9 none)]):=by
 rw [FS,qn9]
 simp only [G101,q08,s183 n none (by simp) x (fun _=>true) (by simp),q01,q02,q04,q1a,q00]
 rw [if_pos (by simp [q73,fnd])]
 rfl
theorem s103n (n:Nat) (x:D):FN (n+2) 103 [d5 none,x]=some (0,[.d (d5 none)]):=by
 rw [FS,qn7]
 simp only [G103,q08,s184 n none (by simp) x (fun _=>true) (by simp),q01,q02,q04,q1a,q00]
 rw [if_pos (by simp [q73,fnd])]
 rfl
theorem s172 (n:Nat) (e:E9) (k:Int):FN (n+2) 172 (r9 e++[il k])=some (0,[.d (bl (!qbf e.kn e.un k))]):=by
 rw [r9]
 simp only [List.cons_append,List.nil_append]
 rw [FS,qmu]
 simp only [G172,q08,s173,q01,q02,q0z,q0c]
theorem d172 (n:Nat) (e:E9) (k:Int):FD (n+2) (.fn 172 [.dp [il k] 0]) [.agg 9] (r9 e)=some (0,[.d (bl (!qbf e.kn e.un k))]) :=
 q4p [.agg 9,.ptr 1] [.agg (r9 e)] (by decide) rfl (by kernel_rfl) rfl (by kernel_rfl) (s172 n e k)
theorem s174 (n:Nat) (e:E9) (k:Int):FN (n+2) 174 (r9 e++[il k])=some (0,[.d (bl (!qbf e.kn e.un k))]):=by
 rw [r9]
 simp only [List.cons_append,List.nil_append]
 rw [FS,qms]
 simp only [G174,q08,s173,q01,q02,q0z,q0c]
theorem d174 (n:Nat) (e:E9) (k:Int):FD (n+2) (.fn 174 [.dp [il k] 0]) [.agg 9] (r9 e)=some (0,[.d (bl (!qbf e.kn e.un k))]) :=
 q4p [.agg 9,.ptr 1] [.agg (r9 e)] (by decide) rfl (by kernel_rfl) rfl (by kernel_rfl) (s174 n e k)
theorem s175 (n:Nat) (e:E9) (k:Int):FN (n+2) 175 (r9 e++[il k])=some (0,[.d (bl (!qbf e.kn e.un k))]):=by
 rw [r9]
 simp only [List.cons_append,List.nil_append]
 rw [FS,qmr]
 simp only [G175,q08,s173,q01,q02,q0z,q0c]
theorem d175 (n:Nat) (e:E9) (k:Int):FD (n+2) (.fn 175 [.dp [il k] 0]) [.agg 9] (r9 e)=some (0,[.d (bl (!qbf e.kn e.un k))]) :=
 q4p [.agg 9,.ptr 1] [.agg (r9 e)] (by decide) rfl (by kernel_rfl) rfl (by kernel_rfl) (s175 n e k)
theorem s176 (n:Nat) (e:E5) (k:Int):FN (n+2) 176 (r5 e++[il k])=some (0,[.d (bl (!qbf e.kn e.un k))]):=by
 rw [r5]
 simp only [List.cons_append,List.nil_append]
 rw [FS,qmq]
 simp only [G176,q08,s173,q01,q02,q0z,q0c]
theorem d176 (n:Nat) (e:E5) (k:Int):FD (n+2) (.fn 176 [.dp [il k] 0]) [.agg 5] (r5 e)=some (0,[.d (bl (!qbf e.kn e.un k))]) :=
 q4p [.agg 5,.ptr 1] [.agg (r5 e)] (by decide) rfl (by kernel_rfl) rfl (by kernel_rfl) (s176 n e k)
def kn9 (k:Int) (o:Option (List E9)):Option (List E9):=o.map (q0w k)
def kn5 (k:Int) (o:Option (List E5)):Option (List E5):=o.map (q5O k)
def q0e (a b c:Option (List E9)) (o:Option (List E5)):D:=.dp [d9 a,d9 b,d9 c,d5 o] 0
theorem q2N {Fn:Nat→List D→Out} {FnD:D→List Sh→List D→Out} {m:Nat} (j:Nat) (ys:List Yr) (k0:List Yr→Out) (ks:List (List Yr→Out)):(q05 Fn FnD m).bnd (some (j+1,ys)) (k0::ks)=(q05 Fn FnD m).bnd (some (j,ys)) ks:=by simp [r_bnd]
theorem qj1 (n:Nat) (k:Int) (l:List E9) (hl:l.length*72≤140737488351232):∃ rest:Rr,FN (n+4) 1000097 [.sl 9 (l.map r9),.fn 172 [.dp [il k] 0]]=some (0,[.d (d9 (kn9 k (some l))),.d (.sl 9 rest)]):=by
 obtain ⟨rest,h⟩:=qcH (n+2) (.fn 172 [.dp [il k] 0]) (fun e=>!qbf e.kn e.un k) l (by omega) (fun e _=>d172 n e k) (fun e _=>d172 (n+1) e k)
 refine ⟨rest,h.trans ?_⟩
 simp only [Bool.not_not,d9,kn9,q0w,Option.map_some,dSl]
theorem qj0 (n:Nat) (k:Int) (l:List E9) (hl:l.length*72≤140737488351232):∃ rest:Rr,FN (n+4) 1000099 [.sl 9 (l.map r9),.fn 174 [.dp [il k] 0]]=some (0,[.d (d9 (kn9 k (some l))),.d (.sl 9 rest)]):=by
 obtain ⟨rest,h⟩:=qcG (n+2) (.fn 174 [.dp [il k] 0]) (fun e=>!qbf e.kn e.un k) l (by omega) (fun e _=>d174 n e k) (fun e _=>d174 (n+1) e k)
 refine ⟨rest,h.trans ?_⟩
 simp only [Bool.not_not,d9,kn9,q0w,Option.map_some,dSl]
theorem qiZ (n:Nat) (k:Int) (l:List E9) (hl:l.length*72≤140737488351232):∃ rest:Rr,FN (n+4) 1000101 [.sl 9 (l.map r9),.fn 175 [.dp [il k] 0]]=some (0,[.d (d9 (kn9 k (some l))),.d (.sl 9 rest)]):=by
 obtain ⟨rest,h⟩:=qcF (n+2) (.fn 175 [.dp [il k] 0]) (fun e=>!qbf e.kn e.un k) l (by omega) (fun e _=>d175 n e k) (fun e _=>d175 (n+1) e k)
 refine ⟨rest,h.trans ?_⟩
 simp only [Bool.not_not,d9,kn9,q0w,Option.map_some,dSl]
theorem qiY (n:Nat) (k:Int) (l:List E5) (hl:l.length*40≤140737488351232):∃ rest:Rr,FN (n+4) 1000103 [.sl 5 (l.map r5),.fn 176 [.dp [il k] 0]]=some (0,[.d (d5 (kn5 k (some l))),.d (.sl 5 rest)]):=by
 obtain ⟨rest,h⟩:=qcE (n+2) (.fn 176 [.dp [il k] 0]) (fun e=>!qbf e.kn e.un k) l (by omega) (fun e _=>d176 n e k) (fun e _=>d176 (n+1) e k)
 refine ⟨rest,h.trans ?_⟩
 simp only [Bool.not_not,d5,kn5,q5O,Option.map_some,dSl]
theorem sk {α:Type} {p:List α→Prop} {q:List α→Rr→Prop} (h:∀ l,p l→∃ r,q l r):∃ f:List α→Rr,∀ l,p l→q l (f l):=by
 have h':∀ l,∃ r:Rr,p l→q l r:=fun l=>by
  by_cases hp:p l
  ·obtain ⟨r,hr⟩:=h l hp
   exact ⟨r,fun _=>hr⟩
  ·exact ⟨[],fun h=>absurd h hp⟩
 exact Classical.skolem.1 h'
def ix96:Bool→Bool→Bool→Bool→Nat
 | true,true,true,true=>0
 | true,true,true,false=>4
 | true,true,false,true=>1
 | true,true,false,false=>10
 | true,false,true,true=>3
 | true,false,true,false=>6
 | true,false,false,true=>7
 | true,false,false,false=>14
 | false,true,true,true=>2
 | false,true,true,false=>9
 | false,true,false,true=>8
 | false,true,false,false=>12
 | false,false,true,true=>5
 | false,false,true,false=>13
 | false,false,false,true=>11
 | false,false,false,false=>15
def lv9:Option (List E9)→Yr
 | none=>.d (d9 none)
 | some l=>.r (l.map r9)
def lv5:Option (List E5)→Yr
 | none=>.d (d5 none)
 | some l=>.r (l.map r5)
theorem s96 (n:Nat) (a b c:Option (List E9)) (o:Option (List E5)) (ha:(a.getD []).length*72≤140737488351232) (hb:(b.getD []).length*72≤140737488351232) (hc:(c.getD []).length*72≤140737488351232) (ho:(o.getD []).length*40≤140737488351232) :
  FN (n+2) 96 [d9 a,d9 b,d9 c,d5 o]=some (ix96 a.isSome b.isSome c.isSome o.isSome,[lv9 a,lv9 b,lv9 c,lv5 o]):=by
 rw [FS,G96_eq]
 cases a<;>cases b<;>cases c<;>cases o<;>try simp only [Option.getD_some] at ha hb hc ho
 all_goals
  simp (disch:=first | exact ha | exact hb | exact hc | exact ho) only [G96,q08,s177n,s178n,s179n,s180n,s177s,s178s,s179s,s180s,q01,q2N,q02,q0G,q0B,q0K,qej,Nat.le_refl,if_true,q0J,List.take_length,q0c]
  rfl
set_option maxHeartbeats 1000000 in
theorem s94 (n:Nat) (k:Int) (a b c:Option (List E9)) (o:Option (List E5)) (ha:(a.getD []).length*72≤140737488351232) (hb:(b.getD []).length*72≤140737488351232) (hc:(c.getD []).length*72≤140737488351232) (ho:(o.getD []).length*40≤140737488351232) :
  FN (n+5) 94 [d9 a,d9 b,d9 c,d5 o,il k]=some (0,[.d (q0e (kn9 k a) (kn9 k b) (kn9 k c) (kn5 k o))]):=by
 rw [FS,G94_eq]
 obtain ⟨_,ka⟩:=sk (qj1 n k)
 obtain ⟨_,kb⟩:=sk (qj0 n k)
 obtain ⟨_,kc⟩:=sk (qiZ n k)
 obtain ⟨_,ko⟩:=sk (qiY n k)
 unfold G94
 rw [q08,s96 (n+2) a b c o ha hb hc ho]
 cases a<;>cases b<;>cases c<;>cases o<;>try simp only [Option.getD_some] at ha hb hc ho
 all_goals
  simp only [Option.isSome_none,Option.isSome_some,ix96,↓q01,↓q2N,lv9,lv5]
  simp (disch:=first | exact ha | exact hb | exact hc | exact ho) only [q08,s97n,s99n,s101n,s103n,ka,kb,kc,ko,q01,q02,q06,q0G,q0Z,q0B,q0K,if_true,q0c,q1n,q4E,q5t,q1f]
  rfl
end
section
def q1Q (ok ps fs:Bool) (p f:Int) (ds:List Int):Int:=if ok=false then 34 else if ps=true∧¬ (1≤p∧p≤999) then 35 else if fs=true∧¬ (1≤f∧f≤99) then 36 else if (ds.any fun d=>!decide (0≤d∧d≤4166))=true then 6 else 0
def q4o (e:Int) (d:D):Out:=if e=0 then some (0,[.d d,.d (il 0)]) else some (0,[.d (.lit (.pointer none)),.d (il e)])
theorem s73 (n:Nat) (p f:Int) (ps fs:Bool) (a b c:Option (List E9)) (o:Option (List E5)) (ds:List Int) (k:Int) (hds:ds.length≤100) (ha:(a.getD []).length*72≤140737488351232) (hb:(b.getD []).length*72≤140737488351232) (hc:(c.getD []).length*72≤140737488351232) (ho:(o.getD []).length*40≤140737488351232) :
  FN (n+10) 73 [il p,il f,bl ps,bl fs,d9 a,d9 b,d9 c,d5 o,dI (some (ds++[k]))]=q4o (q1Q (q0H (a.getD []) (b.getD []) (c.getD []) (o.getD [])) ps fs p f (ds++[k])) (q0e (kn9 k a) (kn9 k b) (kn9 k c) (kn5 k o)):=by
 rw [FS,G73_eq]
 have hany:=s154 (n+6) (some (ds++[k])) (by simp;omega) (.fn 155 []) _ (fun e _=>d155 (n+3) e)
 have hlast:∀ q:List D→Out,(RP (n+9)).rowD 1 (dI (some (ds++[k]))) (il (IntKind.i64.wrap (((ds++[k]).length:Int) - 1))) q=q (rI k):=by
  intro q
  rw [show IntKind.i64.wrap (((ds++[k]).length:Int) - 1)=((ds.length:Nat):Int) by rw [q0m (by rw [List.length_append,List.length_singleton];omega) (by rw [List.length_append,List.length_singleton];omega)];simp]
  exact q76 (by simp) q
 have h56:=s56 n a b c o ha hb hc ho
 cases hq:q0H (a.getD []) (b.getD []) (c.getD []) (o.getD []) with
 | false =>
  rw [hq,if_neg (by decide)] at h56
  simp only [G73,q08,h56,q01,q02,q04,q0Y,q00,q0c,s128,s129,q0z,q4E,hany,q6o,Option.getD_some,q1p,hlast,rI,q0b,s94 (n+4) k a b c o ha hb hc ho,q0D,q06,q3T]
  simp [q4o,q1Q];rfl
 | true =>
  rw [hq,if_pos rfl] at h56
  simp only [G73,q08,h56,q01,q02,q04,q0Y,q00,q0c,s128,s129,q0z,q4E,hany,q6o,Option.getD_some,q1p,hlast,rI,q0b,s94 (n+4) k a b c o ha hb hc ho,q0D,q06,q3T,ne_eq,not_true_eq_false,decide_false,Bool.false_eq_true,if_false]
  cases ps with
  | false =>
   simp only [Bool.false_eq_true,if_false]
   cases fs with
   | false =>
    simp only [Bool.false_eq_true,if_false]
    by_cases h:((ds++[k]).any fun d=>!decide (0≤d∧d≤4166))=true
    ·simp only [h,if_true,q4o,q1Q,Bool.true_eq_false,if_false,false_and,Bool.false_eq_true];rfl
    ·simp only [h,if_false,q4o,q1Q,Bool.true_eq_false,false_and,Bool.false_eq_true,if_true]
   | true =>
    simp only [if_true]
    by_cases hf:1≤f∧f≤99
    ·simp only [hf,and_self,decide_true,Bool.not_true,Bool.false_eq_true,if_false]
     by_cases h:((ds++[k]).any fun d=>!decide (0≤d∧d≤4166))=true
     ·simp only [h,if_true,q4o,q1Q,Bool.true_eq_false,if_false,false_and,Bool.false_eq_true,hf,and_self,not_true,and_false];rfl
     ·simp only [h,if_false,q4o,q1Q,Bool.true_eq_false,false_and,Bool.false_eq_true,if_true,hf,and_self,not_true,and_false]
    ·simp only [hf,decide_false,Bool.not_false,if_true,q4o,q1Q,Bool.true_eq_false,if_false,false_and,Bool.false_eq_true,not_false_eq_true,and_self];rfl
  | true =>
   simp only [if_true]
   by_cases hp:1≤p∧p≤999
   ·simp only [hp,and_self,decide_true,Bool.not_true,Bool.false_eq_true,if_false]
    cases fs with
    | false =>
     simp only [Bool.false_eq_true,if_false]
     by_cases h:((ds++[k]).any fun d=>!decide (0≤d∧d≤4166))=true
     ·simp only [h,if_true,q4o,q1Q,Bool.true_eq_false,if_false,false_and,Bool.false_eq_true,hp,and_self,not_true,and_false];rfl
     ·simp only [h,if_false,q4o,q1Q,Bool.true_eq_false,false_and,Bool.false_eq_true,if_true,hp,and_self,not_true,and_false]
    | true =>
     simp only [if_true]
     by_cases hf:1≤f∧f≤99
     ·simp only [hf,and_self,decide_true,Bool.not_true,Bool.false_eq_true,if_false]
      by_cases h:((ds++[k]).any fun d=>!decide (0≤d∧d≤4166))=true
      ·simp only [h,if_true,q4o,q1Q,Bool.true_eq_false,if_false,hp,hf,and_self,not_true,and_false];rfl
      ·simp only [h,if_false,q4o,q1Q,Bool.true_eq_false,Bool.false_eq_true,if_true,hp,hf,and_self,not_true,and_false]
     ·simp only [hp,hf,decide_false,Bool.not_false,if_true,q4o,q1Q,Bool.true_eq_false,if_false,not_false_eq_true,and_self,not_true,and_false];rfl
   ·simp only [hp,decide_false,Bool.not_false,if_true,q4o,q1Q,Bool.true_eq_false,if_false,not_false_eq_true,and_self];rfl
theorem s72 (n:Nat) (p:Int):FN (n+1) 72 [il p]=some (0,[.d (il p),.d (il 0),.d (bl true),.d (bl false)]):=by
 rw [FS,G72_eq];simp [G72]
theorem s79 (n:Nat) (f:Int):FN (n+1) 79 [il f]=some (0,[.d (il 0),.d (il f),.d (bl false),.d (bl true)]):=by
 rw [FS,G79_eq];simp [G79]
end
section
def ins (x:Int):List Int→List Int
 | []=>[x]
 | y::r=>if x < y then x::y::r else if x=y then y::r else y::ins x r
abbrev Up (l:List Int):Prop:=l.Pairwise (· < ·)
def lb (x:Int):List Int→Nat
 | []=>0
 | y::r=>if y < x then lb x r+1 else 0
theorem qiV (x:Int):∀ l:List Int,lb x l≤l.length
 | []=>Nat.le_refl _
 | y::r=>by
  simp only [lb];split
  ·have:=qiV x r;simp;omega
  ·simp
theorem lb_lt (x:Int):∀ {l:List Int} {i:Nat} {y:Int},i < lb x l→l[i]?=some y→y < x
 | [],i,y,h,_=>by simp [lb] at h
 | z::r,i,y,h,hi=>by
  simp only [lb] at h
  split at h
  ·rename_i hz
   cases i with
   | zero=>simp at hi;subst hi;exact hz
   | succ i=>exact lb_lt x (l:=r) (i:=i) (by omega) (by simpa using hi)
  ·omega
theorem lb_ge (x:Int):∀ {l:List Int} {i:Nat} {y:Int},Up l→lb x l≤i→l[i]?=some y→x≤y
 | [],i,y,_,_,hi=>by simp at hi
 | z::r,i,y,hu,h,hi=>by
  rw [Up,List.pairwise_cons] at hu
  simp only [lb] at h
  split at h
  ·cases i with
   | zero=>omega
   | succ i=>exact lb_ge x (l:=r) (i:=i) hu.2 (by omega) (by simpa using hi)
  ·rename_i hz
   cases i with
   | zero=>simp at hi;omega
   | succ i =>
    have:=hu.1 y (List.mem_of_getElem? (by simpa using hi))
    omega
theorem qka (x:Int):∀ {l:List Int},Up l→ins x l=if l[lb x l]?=some x then l else l.take (lb x l)++x::l.drop (lb x l)
 | [],_=>rfl
 | y::r,hu=>by
  rw [Up,List.pairwise_cons] at hu
  simp only [ins]
  by_cases h1:x < y
  ·have h0:lb x (y::r)=0:=by simp only [lb];rw [if_neg (by omega)]
   rw [if_pos h1]
   simp only [h0,List.getElem?_cons_zero,Option.some.injEq,List.take_zero,List.drop_zero,List.nil_append]
   rw [if_neg (by omega)]
  ·rw [if_neg h1]
   by_cases h2:x=y
   ·have h0:lb x (y::r)=0:=by simp only [lb];rw [if_neg (by omega)]
    rw [if_pos h2]
    simp only [h0,List.getElem?_cons_zero,Option.some.injEq]
    rw [if_pos h2.symm]
   ·have h0:lb x (y::r)=lb x r+1:=by simp only [lb];rw [if_pos (by omega)]
    rw [if_neg h2,qka x hu.2]
    simp only [h0,List.getElem?_cons_succ,List.take_succ_cons,List.drop_succ_cons,List.cons_append]
    split<;>rfl
theorem q4h (x z:Int):∀ l:List Int,z∈ins x l↔z=x∨z∈l
 | []=>by simp [ins]
 | y::r=>by
  simp only [ins]
  split
  ·simp
  ·split
   ·rename_i h;subst h;simp
   ·simp only [List.mem_cons,q4h x z r]
    constructor
    ·rintro (h | h | h)
     ·exact .inr (.inl h)
     ·exact .inl h
     ·exact .inr (.inr h)
    ·rintro (h | h | h)
     ·exact .inr (.inl h)
     ·exact .inl h
     ·exact .inr (.inr h)
theorem q5h (x:Int):∀ {l:List Int},Up l→Up (ins x l)
 | [],_=>by simp [ins]
 | y::r,hu=>by
  have hu':=hu
  rw [Up,List.pairwise_cons] at hu
  simp only [ins]
  split
  ·rename_i h
   rw [Up,List.pairwise_cons]
   refine ⟨fun z hz=>?_,hu'⟩
   rcases List.mem_cons.1 hz with rfl | hz
   ·exact h
   ·have:=hu.1 z hz;omega
  ·split
   ·exact hu'
   ·rw [Up,List.pairwise_cons]
    refine ⟨fun z hz=>?_,q5h x hu.2⟩
    rcases (q4h x z r).1 hz with rfl | hz
    ·omega
    ·exact hu.1 z hz
theorem qfg:∀ {l m:List Int},Up l→Up m→(∀ z,z∈l↔z∈m)→l=m
 | [],[],_,_,_=>rfl
 | [],y::r,_,_,h=>by have:=(h y).2 (by simp);simp at this
 | y::r,[],_,_,h=>by have:=(h y).1 (by simp);simp at this
 | x::l,y::m,hl,hm,h=>by
  rw [Up,List.pairwise_cons] at hl hm
  have e:x=y:=by
   have h1:=(h x).1 (by simp)
   have h2:=(h y).2 (by simp)
   rcases List.mem_cons.1 h1 with e | h1
   ·exact e
   ·rcases List.mem_cons.1 h2 with e | h2
    ·exact e.symm
    ·have:=hl.1 y h2;have:=hm.1 x h1;omega
  subst e
  congr 1
  refine qfg hl.2 hm.2 fun z=>?_
  constructor
  ·intro hz
   rcases List.mem_cons.1 ((h z).1 (by simp [hz])) with e | h1
   ·have:=hl.1 z hz;omega
   ·exact h1
  ·intro hz
   rcases List.mem_cons.1 ((h z).2 (by simp [hz])) with e | h1
   ·have:=hm.1 z hz;omega
   ·exact h1
end
section
theorem u64_id {x:Int} (h1:0≤x) (h2:x < 18446744073709551616):IntKind.u64.wrap x=x:=by
 have hb:(2:Int) ^ IntKind.u64.bits=18446744073709551616:=by decide
 have hs:IntKind.u64.signed=false:=rfl
 unfold IntKind.wrap
 simp only [hb,hs]
 have:x % 18446744073709551616=x:=Int.emod_eq_of_lt h1 h2
 simp [this]
section
variable {Fn:Nat→List D→Out} {FnD:D→List Sh→List D→Out} {m:Nat}
theorem r_mid (i j:Nat) (h:i+j≤9223372036854775807) (k:D→Out):((q05 Fn FnD m).cvI .u64 (il ((i:Int)+(j:Int))) fun x4=>(q05 Fn FnD m).bin .shr false x4 ((q05 Fn FnD m).lit (.int .u64 (1))) fun x5=>(q05 Fn FnD m).cvI .i64 x5 k)=k (il (((i+j) / 2:Nat):Int)):=by
 have e1:IntKind.u64.wrap ((i:Int)+(j:Int))=((i+j:Nat):Int):=by rw [u64_id (by omega) (by omega)];simp
 have e2:((i+j:Nat):Int).fdiv (2 ^ (min (1:Int).toNat IntKind.u64.bits))=(((i+j) / 2:Nat):Int):=by
  have:(min (1:Int).toNat IntKind.u64.bits)=1:=by decide
  rw [this]
  rw [Int.fdiv_eq_ediv_of_nonneg _ (by decide)]
  omega
 have e3:IntKind.i64.wrap (((i+j) / 2:Nat):Int)=(((i+j) / 2:Nat):Int):=q0m (by omega) (by omega)
 show (q05 Fn FnD m).bin .shr false (.lit (.int .u64 (IntKind.u64.wrap ((i:Int)+(j:Int))))) (.lit (.int .u64 1)) (fun x5=>(q05 Fn FnD m).cvI .i64 x5 k)=_
 rw [e1]
 show qiF (qkm .shr false (.lit (.int .u64 ((i+j:Nat):Int))) (.lit (.int .u64 1))) (fun x5=>(q05 Fn FnD m).cvI .i64 x5 k)=_
 have e4:qkm .shr false (.lit (.int .u64 ((i+j:Nat):Int))) (.lit (.int .u64 1))=some (.lit (.int .u64 (((i+j) / 2:Nat):Int))):=by
  simp only [qkm,aBin]
  rw [if_neg (by decide),e2]
  rfl
 rw [e4]
 show k (.lit (.int .i64 (IntKind.i64.wrap (((i+j) / 2:Nat):Int))))=_
 rw [e3]
 rfl
end
theorem s187 (n:Nat) (x:Int):FN (n+1) 187 [il x]=some (0,[.d (bl false)]):=by rw [FS,qmk];simp [G187]
theorem s211 (n:Nat) (x:Int):FN (n+1) 211 [il x]=some (0,[.d (bl false)]):=by rw [FS,qm5];simp [G211]
theorem s210 (n:Nat) (x y:Int):FN (n+2) 210 [il x,il y]=some (0,[.d (bl (decide (x < y)))]):=by
 rw [FS,qm6];simp [G210,s187]
theorem l158 (n:Nat) (o:Option (List Int)) (x:Int) (hl:(o.getD []).length≤4611686018427387904) (hu:Up (o.getD [])) :
  q0o [qaZ (RP (n+2))] M0 0 [.d (dI o),.d (il x),.d (il (o.getD []).length),.d (il 0),.d (il (o.getD []).length)]=some (0,[.d (dI o),.d (il x),.d (il (o.getD []).length),.d (il (lb x (o.getD []):Nat))]):=by
 have:=q3g (σ:=Nat×Nat) [qaZ (RP (n+2))] (fun s=>(0,[.d (dI o),.d (il x),.d (il (o.getD []).length),.d (il s.1),.d (il s.2)])) (fun s=>s.2 - s.1) (fun s=>s.1≤lb x (o.getD [])∧lb x (o.getD [])≤s.2∧s.2≤(o.getD []).length)
  (fun _=>some (0,[.d (dI o),.d (il x),.d (il (o.getD []).length),.d (il (lb x (o.getD []):Nat))])) ?_ M0 (0,(o.getD []).length) ⟨Nat.zero_le _,qiV _ _,Nat.le_refl _⟩ (by have:=q2A hl;unfold M0;simp only;omega)
 ·exact this
 ·rintro ⟨i,j⟩ k ⟨h1,h2,h3⟩ ih
  simp only at h1 h2 h3 ih ⊢
  refine ⟨qaZ (RP (n+2)),rfl,?_⟩
  simp only [qaZ,q02,q06,q0A,q00,q0s]
  by_cases hij:i < j
  ·rw [if_pos (by simp;omega),q0m (by omega) (by omega),r_mid i j (by omega)]
   have hh:(i+j) / 2 < (o.getD []).length:=by omega
   have hc:(o.getD [])[(i+j) / 2]?=some ((o.getD [])[(i+j) / 2]'hh):=List.getElem?_eq_getElem hh
   rw [q76 hc]
   simp only [rI,q0b,q08,s210,q01,q02,q00,decide_eq_true_eq,q04,q0s]
   by_cases hx:(o.getD [])[(i+j) / 2]'hh < x
   ·rw [if_pos hx]
    have hlb:(i+j) / 2 < lb x (o.getD []):=by
     refine Nat.lt_of_not_le fun hle=>?_
     have:=lb_ge x hu hle hc
     omega
    rw [show IntKind.i64.wrap ((((i+j) / 2:Nat):Int)+1)=(((i+j) / 2+1:Nat):Int) by rw [q0m (by omega) (by omega)];simp]
    exact ih ((i+j) / 2+1,j) ⟨hlb,h2,h3⟩ (by simp only;omega)
   ·rw [if_neg hx]
    have hlb:lb x (o.getD [])≤(i+j) / 2:=by
     refine Nat.le_of_not_lt fun hlt=>?_
     have:=lb_lt x hlt hc
     omega
    exact ih (i,(i+j) / 2) ⟨h1,hlb,by omega⟩ (by simp only;omega)
  ·rw [if_neg (by simp;omega),q0c]
   rw [show i=lb x (o.getD []) by omega]
theorem s158 (n:Nat) (o:Option (List Int)) (x:Int) (hl:(o.getD []).length≤4611686018427387904) (hu:Up (o.getD [])):FN (n+3) 158 [dI o,il x]=some (0,[.d (il (lb x (o.getD []):Nat)),.d (bl (decide ((o.getD [])[lb x (o.getD [])]?=some x)))]):=by
 rw [FS,qmA]
 simp only [G158,q6o,q04,q0r,l158 n o x hl hu,q01,q02,q06,q0A,q00,decide_eq_true_eq]
 by_cases h:lb x (o.getD []) < (o.getD []).length
 ·have hc:(o.getD [])[lb x (o.getD [])]?=some ((o.getD [])[lb x (o.getD [])]'h):=List.getElem?_eq_getElem h
  rw [if_pos (by omega),q76 hc]
  simp only [rI,q0b,q1a,q00,decide_eq_true_eq,q0D,q0c]
  rw [hc]
  by_cases he:(o.getD [])[lb x (o.getD [])]'h=x
  ·simp [he]
  ·rw [if_neg he,q76 hc]
   simp [rI,s211,he]
 ·have hn:(o.getD [])[lb x (o.getD [])]?=none:=List.getElem?_eq_none (by omega)
  rw [if_neg (by omega),hn]
  simp
end
section
section
variable {Fn:Nat→List D→Out} {FnD:D→List Sh→List D→Out} {m:Nat}
theorem r_ins (z:Nat) (rows new:Rr) (k:Rr→Out) (h:z≤rows.length):(q05 Fn FnD m).ins (il z) rows new k=k (rows.take z++new++rows.drop z):=by
 show (if 0≤(z:Int)∧(z:Int).toNat≤rows.length then k (rows.take (z:Int).toNat++new++rows.drop (z:Int).toNat) else none)=_
 rw [Int.toNat_natCast,if_pos ⟨by omega,h⟩]
end
theorem q5C (x:Int):∀ l:List Int,(ins x l).length≤l.length+1
 | []=>by simp [ins]
 | y::r=>by
  simp only [ins]
  split
  ·simp
  ·split
   ·simp
   ·have:=q5C x r;simp;omega
theorem q1A (n:Nat) (l:List Int) (x:Int) (hl:l.length≤1000000000000) (hu:Up l):FN (n+4) 1000075 [.sl 1 (l.map rI),il x]=some (0,[.d (.sl 1 ((ins x l).map rI))]):=by
 rw [FS,qck]
 have hb:=s158 n (some l) x (by simp;omega) hu
 simp only [dI,Option.map_some,dSl,Option.getD_some] at hb
 have hlen:(l.map rI).take (l.map rI).length=l.map rI:=List.take_length
 simp only [qe2,q1f,q0B,q0K,if_true,q0J,q1n,hlen,q08,hb,q01,q02,q06,q2D,List.all_cons,List.all_nil,qhH,yl_b,Bool.and_self,q00,decide_eq_true_eq,q0c]
 rw [qka x hu]
 by_cases h:l[lb x l]?=some x
 ·rw [if_pos h,if_pos h]
 ·rw [if_neg h,if_neg h]
  have hle:lb x l≤(l.map rI).length:=by rw [List.length_map];exact qiV x l
  have h1:(l.map rI).length=l.length:=List.length_map _
  simp only [q1o,q0C,List.length_cons,List.length_nil,List.take_succ_cons,List.take_zero,q28,q1j,q2c]
  simp only [if_true]
  rw [r_ins _ _ _ _ hle]
  have h2:((l.map rI).take (lb x l)++[[il x]]++(l.map rI).drop (lb x l))=(l.take (lb x l)++x::l.drop (lb x l)).map rI:=by
   simp [rI,List.map_take,List.map_drop]
  have h3:(l.map rI).length+(0+1)=((l.take (lb x l)++x::l.drop (lb x l)).map rI).length:=by
   have:=qiV x l
   simp;omega
  rw [h2]
  simp only [h3,if_true]
  rw [if_pos (by rw [←h3,h1];omega)]
theorem qiI (x:Int) (n:Nat):FN (n+3) 158 [.lit (.slice none 0 0),il x]=some (0,[.d (il (0:Int)),.d (bl false)]):=by
 have:=s158 n none x (by simp) (by simp)
 simpa [dI,dSl,lb] using this
end
section
def st0 (o:Option (List Int)) (x:Int) (d:Bool) (i:Nat):List Yr:=[.d (dI o),.d (il x),.d (bl d),.d (il i)]
end
section
theorem s41 (n:Nat) (o:Option (List Int)) (x:Int) (hl:(o.getD []).length≤4611686018427387904):FN (n+1) 41 [dI o,il x]=some (0,[.d (bl (decide (x∈o.getD [])))]):=by
 rw [FS,G41_eq]
 simp only [G41,q04,q0r]
 have:=q0T (β:=Unit) (o.getD []) hl (qjB (RP n)) (fun i _=>[.d (dI o),.d (il x),.d (il i)]) (fun _ _=>True)
  (fun _ r _=>if x∈r then some (0,[.d (bl true)]) else some (1,[]))
  (fun _ k _=>by simp [qjB,q6o]) ?_ M0 () trivial (q2A hl)
 ·simp only [Int.natCast_zero] at this
  rw [this]
  by_cases h:x∈o.getD []<;>simp [h]
 ·intro i e r _ k hi hd hlt hw _ ih
  have ih':=ih () trivial
  have hlt':(i:Int) < ((o.getD []).length:Int):=by omega
  simp only [qjB,q02,q06,q6o,q0A,q00,hlt',decide_true,if_true,q76 hi,rI,q0b,q1a,q04,q0s,hw,q0D,q0c,decide_eq_true_eq]
  by_cases h:e=x
  ·subst h;simp
  ·rw [if_neg h]
   refine Eq.trans ih' ?_
   have:(x∈e::r)↔x∈r:=by
    constructor
    ·intro hx
     rcases List.mem_cons.1 hx with hx | hx
     ·exact absurd hx.symm h
     ·exact hx
    ·intro hx;exact List.mem_cons_of_mem _ hx
   by_cases h2:x∈r
   ·rw [if_pos h2,if_pos (this.2 h2)]
   ·rw [if_neg h2,if_neg fun hx=>h2 (this.1 hx)]
theorem s22 (n:Nat) (a b:Option (List Int)) (ha:(a.getD []).length≤4611686018427387904):FN (n+1) 22 [dI a,dI b]=some (0,[.d (bl (decide (a.getD []=b.getD [])))]):=by
 rw [FS,G22_eq]
 simp only [G22,q6o,q1a,q04,q0r]
 have:=q0T (β:=Bool) (a.getD []) ha (qho (RP n)) (fun i s=>[.d (dI a),.d (dI b),.d (bl s),.d (il i)]) (fun _ s=>s=true→(a.getD []).length=(b.getD []).length)
  (fun i r s=>some (0,[.d (bl (s&&decide (r=(b.getD []).drop i)))]))
  (fun s k hs=>?_) ?_ M0 (decide (((a.getD []).length:Int)=((b.getD []).length:Int))) (fun h=>by have:=of_decide_eq_true h;omega) (q2A ha)
 ·simp only [Int.natCast_zero,List.drop_zero] at this
  rw [this]
  simp only [q01,q02,q0c]
  by_cases h:(a.getD []).length=(b.getD []).length
  ·simp [h]
  ·have:¬ (a.getD []=b.getD []):=fun e=>h (by rw [e])
   simp [this]
 ·cases s with
  | false=>simp [qho,q6o]
  | true =>
   have:List.drop (a.getD []).length (b.getD [])=[]:=by rw [hs rfl,List.drop_length]
   simp [qho,q6o,this]
 ·intro i e r s k hi hd hlt hw hs ih
  have hlt':(i:Int) < ((a.getD []).length:Int):=by omega
  simp only [qho,q02,q06,q6o,q0A,q00,hlt',decide_true,if_true,q0c]
  cases s with
  | false=>simp
  | true =>
   have hlb:i < (b.getD []).length:=by rw [←hs rfl];exact hlt
   have hb:(b.getD [])[i]?=some ((b.getD [])[i]'hlb):=List.getElem?_eq_getElem hlb
   have hdb:(b.getD []).drop i=(b.getD [])[i]'hlb::(b.getD []).drop (i+1):=List.drop_eq_getElem_cons hlb
   simp only [if_true,q76 hi,q76 hb,rI,q0b,q1a,q04,q0s,hw]
   refine Eq.trans (ih _ fun _=>hs rfl) ?_
   rw [hdb]
   generalize (b.getD [])[i]'hlb=f
   generalize (b.getD []).drop (i+1)=q
   by_cases h:e=f
   ·subst h;simp
   ·simp [h]
end
section
theorem qjP (n:Nat) (a b c:Option (List E9)) (o:Option (List E5)) (i:Nat) (e:E9) (who:Int) (hi:(a.getD [])[i]?=some e):FN (n+1) 157 [il i,q0e a b c o,il who]=some (0,[.d (bl (decide (e.a=who))),.d (il e.f1),.d (il e.f2),.d (il e.t1),.d (il e.t2),.d (il e.b)]):=by
 rw [FS,qmB]
 simp only [G157,q0e,q1R]
 rw [q1e _ 4 _ rfl]
 simp only [q0b,q0j,q5N hi,r9,q1a,q0c]
theorem s194 (n:Nat) (a b c:Option (List E9)) (o:Option (List E5)) (i:Nat) (e:E9) (who:Int) (hi:(b.getD [])[i]?=some e):FN (n+1) 194 [il i,q0e a b c o,il who]=some (0,[.d (bl (decide (e.a=who))),.d (il e.f1),.d (il e.f2),.d (il e.t1),.d (il e.t2),.d (il e.b)]):=by
 rw [FS,qmf]
 simp only [G194,q0e,q1R]
 rw [q1e _ 4 _ rfl]
 simp only [q0b,q0j,q5N hi,r9,q1a,q0c]
theorem s195 (n:Nat) (a b c:Option (List E9)) (o:Option (List E5)) (i:Nat) (e:E9) (who:Int) (hi:(c.getD [])[i]?=some e):FN (n+1) 195 [il i,q0e a b c o,il who]=some (0,[.d (bl (decide (e.a=who))),.d (il e.f1),.d (il e.f2),.d (il e.t1),.d (il e.t2),.d (il e.b)]):=by
 rw [FS,qme]
 simp only [G195,q0e,q1R]
 rw [q1e _ 4 _ rfl]
 simp only [q0b,q0j,q5N hi,r9,q1a,q0c]
def q0O (d who:Int):List E9→List (Option Int)
 | []=>[none]
 | e::r=>if e.a=who∧q1J e.f1 e.t2 d=true then some e.b::(if q1h e.f2 e.t1 d=true then [] else q0O d who r) else q0O d who r
def below (l:List E9) (m:Nat):List E9:=(l.take m).reverse
theorem q6P (l:List E9):below l 0=[]:=rfl
theorem q59 {l:List E9} {m:Nat} {e:E9} (h:l[m]?=some e):below l (m+1)=e::below l m:=by
 unfold below
 rw [List.take_add_one,h]
 simp
def q4r (f:Option Int→Int) (acc:List Int) (os:List (Option Int)):List Int:=os.foldl (fun acc o=>ins (f o) acc) acc
theorem q7u (f:Option Int→Int):∀ (os:List (Option Int)) {acc:List Int},Up acc→Up (q4r f acc os)
 | [],_,h=>h
 | _::os,_,h=>q7u f os (q5h _ h)
theorem q6w (f:Option Int→Int) (z:Int):∀ (os:List (Option Int)) (acc:List Int),z∈q4r f acc os↔z∈acc∨∃ o∈os,z=f o
 | [],acc=>by simp [q4r]
 | o::os,acc=>by
  show z∈q4r f (ins (f o) acc) os↔_
  rw [q6w f z os,q4h]
  constructor
  ·rintro ((h | h) | ⟨q,hq,h⟩)
   ·exact .inr ⟨o,by simp,h⟩
   ·exact .inl h
   ·exact .inr ⟨q,by simp [hq],h⟩
  ·rintro (h | ⟨q,hq,h⟩)
   ·exact .inl (.inr h)
   ·rcases List.mem_cons.1 hq with rfl | hq
    ·exact .inl (.inl h)
    ·exact .inr ⟨q,hq,h⟩
end
section
def f0 (o:Option Int):Int:=o.getD 0
def en12 (d who:Int) (kin:D) (m:Nat) (acc:List Int):Nat×List Yr:=match acc with
 | []=>(0,[.d (il d),.d (il ((m:Int) - 1)),.d kin,.d (il who)])
 | y::r=>(1,[.d (il d),.d (il ((m:Int) - 1)),.r ((y::r).map rI),.n (y::r).length,.n (y::r).length,.d kin,.d (il who)])
def Q12 (n:Nat) (who:Int) (kin:D) (T:List Int) (r:Out):Prop :=
 (∃ acc:List Int,acc≠[]∧Up acc∧acc.length≤n∧((r=some (1,[.r (acc.map rI),.n acc.length,.n acc.length,.d kin,.d (il who)])∧acc=T)∨(r=some (3,[.r (acc.map rI),.n acc.length,.n acc.length,.d kin,.d (il who)])∧ins 0 acc=T)))∨(r=some (2,[.d kin,.d (il who)])∧ins 0 []=T)
theorem qcW {Fn:Nat→List D→Out} {FnD:D→List Sh→List D→Out} {m:Nat} (new:Rr) (k:Rr→Out):(q05 Fn FnD m).ins (il 0) [] new k=k new:=by
 have:=r_ins (Fn:=Fn) (FnD:=FnD) (m:=m) 0 [] new k (Nat.le_refl _)
 simpa using this
theorem qdd (x:Int) (l:List Int):ins x l≠[]:=fun h=>by
 have:x∈ins x l:=(q4h x x l).2 (.inl rfl)
 rw [h] at this;simp at this
theorem l12 (n:Nat) (a b c:Option (List E9)) (o:Option (List E5)) (d who:Int) (hl:(a.getD []).length≤1000000) :
  Q12 (a.getD []).length who (q0e a b c o) (q4r f0 [] (q0O d who (below (a.getD []) (a.getD []).length))) (q0o [qc3 (RP (n+4)),qc2 (RP (n+4))] M0 0 [.d (il d),.d (il (((a.getD []).length:Int) - 1)),.d (q0e a b c o),.d (il who)]):=by
 have:=q4K (σ:=Nat×List Int) [qc3 (RP (n+4)),qc2 (RP (n+4))] (fun s=>en12 d who (q0e a b c o) s.1 s.2) (fun s=>s.1)
  (fun s=>s.1≤(a.getD []).length∧Up s.2∧s.2.length+s.1≤(a.getD []).length∧q4r f0 s.2 (q0O d who (below (a.getD []) s.1))=q4r f0 [] (q0O d who (below (a.getD []) (a.getD []).length)))
  (Q12 (a.getD []).length who (q0e a b c o) (q4r f0 [] (q0O d who (below (a.getD []) (a.getD []).length)))) ?_ M0 ((a.getD []).length,[]) ⟨Nat.le_refl _,by simp,by simp,rfl⟩ (by unfold M0;simp only;omega)
 ·exact this
 ·generalize q4r f0 [] (q0O d who (below (a.getD []) (a.getD []).length))=T
  rintro ⟨m,acc⟩ k ⟨g1,g2,g3,g4⟩ ih
  simp only at g1 g2 g3 g4 ih
  cases m with
  | zero =>
   rw [q6P] at g4
   cases acc with
   | nil =>
    refine ⟨qc3 (RP (n+4)),rfl,.inr ⟨?_,g4⟩⟩
    simp [en12,qc3]
   | cons y r =>
    refine ⟨qc2 (RP (n+4)),rfl,.inl ⟨y::r,by simp,g2,by omega,.inr ⟨?_,g4⟩⟩⟩
    simp [en12,qc2]
  | succ m =>
   obtain ⟨e,he⟩:∃ e,(a.getD [])[m]?=some e:=⟨_,List.getElem?_eq_getElem (by omega)⟩
   rw [q59 he,q0O] at g4
   have hm:(((m+1:Nat):Int) - 1)=((m:Nat):Int):=by omega
   have hw:IntKind.i64.wrap (((m:Nat):Int) - 1)=((m:Nat):Int) - 1:=q0m (by omega) (by omega)
   have h157:=qjP (n+3) a b c o m e who he
   cases acc with
   | nil =>
    refine ⟨qc3 (RP (n+4)),rfl,?_⟩
    simp only [en12,hm,qc3,q02,q06,q04,q23,q00]
    rw [if_pos (by simp)]
    simp only [q08,h157,q01,q02,q06,q0z,q00,q1p,hw]
    by_cases h1:e.a=who
    ·rw [if_neg (by simp [h1])]
     simp only [q9X,q01,q02,q0z,q00]
     by_cases h2:q1J e.f1 e.t2 d=true
     ·rw [if_neg (by simp [h2])]
      rw [if_pos ⟨h1,h2⟩] at g4
      simp only [q2h,qiI,q01,q02,q06,q00,Bool.false_eq_true,if_true,if_false,q1o,q0C,q0B,q0J,List.length_cons,List.length_nil,q0K,List.take_succ_cons,List.take_zero,q28,q1j]
      rw [if_pos (by simp [])]
      simp only [qcW,q01,q4C,q02,q00]
      by_cases h3:q1h e.f2 e.t1 d=true
      ·rw [if_pos h3] at g4 ⊢
       exact .inl ⟨[e.b],by simp,by simp,by simp;omega,.inl ⟨rfl,g4⟩⟩
      ·rw [if_neg h3] at g4 ⊢
       exact ih (m,[e.b]) ⟨by simp only;omega,by simp,by simp only [List.length_singleton];omega,g4⟩ (by simp only;omega)
     ·rw [if_pos (by simp [h2])]
      rw [if_neg fun h=>h2 h.2] at g4
      exact ih (m,[]) ⟨by simp only;omega,g2,by simp only [List.length_nil];omega,g4⟩ (by simp only;omega)
    ·rw [if_pos (by simp [h1])]
     rw [if_neg fun h=>h1 h.1] at g4
     exact ih (m,[]) ⟨by simp only;omega,g2,by simp only [List.length_nil];omega,g4⟩ (by simp only;omega)
   | cons y r =>
    refine ⟨qc2 (RP (n+4)),rfl,?_⟩
    simp only [en12,hm,qc2,q02,q06,q0Q,q0P,q0G,q0Z,q04,q23,q00]
    rw [if_pos (by simp)]
    simp only [q08,h157,q01,q02,q06,q0z,q00,q1p,hw]
    by_cases h1:e.a=who
    ·rw [if_neg (by simp [h1])]
     simp only [q9X,q01,q02,q0z,q00]
     by_cases h2:q1J e.f1 e.t2 d=true
     ·rw [if_neg (by simp [h2])]
      rw [if_pos ⟨h1,h2⟩] at g4
      have hlen:(y::r).length=((y::r).map rI).length:=by simp
      have hput:=q1A n (y::r) e.b (by simp only [List.length_cons] at g3 ⊢;omega) g2
      simp only [q0B,q0K,List.length_map,if_true,q1n,hput,q01,q02,q1f,q4C,q00]
      have hil:=q5C e.b (y::r)
      have hne:=qdd e.b (y::r)
      have hup:=q5h e.b g2
      by_cases h3:q1h e.f2 e.t1 d=true
      ·rw [if_pos h3] at g4 ⊢
       exact .inl ⟨ins e.b (y::r),hne,hup,by simp only [List.length_cons] at g3 hil ⊢;omega,.inl ⟨rfl,g4⟩⟩
      ·rw [if_neg h3] at g4 ⊢
       have:=ih (m,ins e.b (y::r)) ⟨by simp only;omega,hup,by simp only [List.length_cons] at g3 hil ⊢;omega,g4⟩ (by simp only;omega)
       revert this
       generalize ins e.b (y::r)=q at hne
       cases q with
       | nil=>exact absurd rfl hne
       | cons z zs=>intro this;exact this
     ·rw [if_pos (by simp [h2])]
      rw [if_neg fun h=>h2 h.2] at g4
      exact ih (m,y::r) ⟨by simp only;omega,g2,by simp only at g3 ⊢;omega,g4⟩ (by simp only;omega)
    ·rw [if_pos (by simp [h1])]
     rw [if_neg fun h=>h1 h.1] at g4
     exact ih (m,y::r) ⟨by simp only;omega,g2,by simp only at g3 ⊢;omega,g4⟩ (by simp only;omega)
end
section
def q0W (d who:Int) (l:List E9):List Int:=q4r f0 [] (q0O d who (below l l.length))
theorem q0d (k:Int) (o:Option (List E9)):(kn9 k o).getD []=q0w k (o.getD []):=by cases o<;>rfl
theorem q1v (k:Int) (o:Option (List E5)):(kn5 k o).getD []=q5O k (o.getD []):=by cases o<;>rfl
theorem q1U {ok ps fs:Bool} {p f:Int} {ds:List Int} (h:q1Q ok ps fs p f ds=0):ok=true:=by
 unfold q1Q at h
 cases ok with
 | true=>rfl
 | false=>simp at h
theorem q4I {a b c:List E9} {o:List E5} (h:q0H a b c o=true):a.length≤60∧b.length≤60∧c.length≤60∧o.length≤60:=by
 unfold q0H at h
 simp only [Bool.and_eq_true,decide_eq_true_eq] at h
 exact h.1.1.1.1
theorem s12 (n:Nat) (p d k:Int) (a b c:Option (List E9)) (o:Option (List E5)) (ha:(a.getD []).length*72≤140737488351232) (hb:(b.getD []).length*72≤140737488351232) (hc:(c.getD []).length*72≤140737488351232) (ho:(o.getD []).length*40≤140737488351232) :
  FN (n+11) 12 [d9 a,d9 b,d9 c,d5 o,il p,il d,il k]=if q1Q (q0H (a.getD []) (b.getD []) (c.getD []) (o.getD [])) true false p 0 [d,k]=0 then some (0,[.d (dI (some (q0W d p (q0w k (a.getD []))))),.d (il 0)]) else some (0,[.d (dI none),.d (il (q1Q (q0H (a.getD []) (b.getD []) (c.getD []) (o.getD [])) true false p 0 [d,k]))]):=by
 rw [FS,G12_eq]
 have h73:=s73 n p 0 true false a b c o [d] k (by simp) ha hb hc ho
 rw [show dI (some ([d]++[k]))=.sl 1 [[il d],[il k]] from rfl] at h73
 simp only [G12,q08,s72,q01,q02,q06,q0C,q1n,h73]
 simp only [List.cons_append,List.nil_append]
 by_cases he:q1Q (q0H (a.getD []) (b.getD []) (c.getD []) (o.getD [])) true false p 0 [d,k]=0
 ·rw [if_pos he]
  have hlen:=(q4I (q1U he)).1
  have hcl:((kn9 k a).getD []).length≤60:=by
   rw [q0d];exact Nat.le_trans (List.length_filter_le _ _) hlen
  have hl12:=l12 (n+6) (kn9 k a) (kn9 k b) (kn9 k c) (kn5 k o) d p (by omega)
  simp only [q4o,he,if_true,q01,q02,q06,q04,q0Y,ne_eq,not_true_eq_false,decide_false,q00,Bool.false_eq_true,if_false,q0e,q1R]
  rw [q1e _ 4 _ rfl]
  simp only [q0b,q5A,q1p]
  rw [q0m (by omega) (by omega)]
  simp only [q0r]
  simp only [q0e] at hl12
  rw [q0d] at hl12
  rw [q0d] at hcl
  simp only [q0d]
  unfold Q12 at hl12
  rw [show q0W d p (q0w k (a.getD []))=q4r f0 [] (q0O d p (below (q0w k (a.getD [])) (q0w k (a.getD [])).length)) from rfl]
  have ht:∀ q:List Int,(q.map rI).take q.length=q.map rI:=fun q=>List.take_of_length_le (by simp)
  rcases hl12 with ⟨acc,hne,hup,hle,(⟨hr,hT⟩ | ⟨hr,hT⟩)⟩ | ⟨hr,hT⟩
  ·rw [hr,← hT]
   simp [dI,dSl,ht]
  ·rw [hr,← hT]
   have hput:=q1A (n+6) acc 0 (by omega) hup
   simp [hput,dI,dSl]
  ·rw [hr,← hT]
   simp [qiI,qcW,dI,dSl,ins,rI]
 ·rw [if_neg he]
  simp only [q4o,if_neg he,q01,q02,q06,q04,q0Y,q00]
  rw [if_pos (by simpa using he)]
  simp [dI,dSl]
end
section
end
section
theorem qcx (d who:Int) (l:List E9):Up (q0W d who l):=q7u _ _ (by simp)
end
section
def fm (o:Option Int):Int:=o.getD (-1)
def q3I (d who:Int) (l:List E9):List Int:=q4r fm [] (q0O d who (below l l.length))
theorem qie (d who:Int) (l:List E9):Up (q3I d who l):=q7u _ _ (by simp)
end
section
def q8E (d who:Int) (l:List E5):Bool:=l.any fun e=>decide (e.a=who∧e.day=d - 1)
theorem s218 (n:Nat) (e:E5) (d who:Int) (hd:0≤d∧d≤4166):FN (n+1) 218 (r5 e++[il who,il d])=some (0,[.d (bl (decide (e.a=who∧e.day=d - 1)))]):=by
 rw [r5]
 simp only [List.cons_append,List.nil_append]
 rw [FS,qm3]
 have hwd:IntKind.i64.wrap (d - 1)=d - 1:=q0m (by omega) (by omega)
 simp only [G218,q1a,q00,q04,q1p,hwd,q0c,q0D]
 by_cases h:e.a=who<;>simp [h]
theorem d218 (n:Nat) (e:E5) (d who:Int) (hd:0≤d∧d≤4166):FD (n+1) (.fn 218 [.dp [il who] 0,.dp [il d] 0]) [.agg 5] (r5 e)=some (0,[.d (bl (decide (e.a=who∧e.day=d - 1)))]) :=
 q4p [.agg 5,.ptr 1,.ptr 1] [.agg (r5 e)] (by decide) rfl (by kernel_rfl) rfl (by kernel_rfl) (s218 n e d who hd)
theorem s214 (n:Nat) (x y z:D) (o:Option (List E5)) (d who:Int) (hd:0≤d∧d≤4166) (hl:(o.getD []).length≤4611686018427387904):FN (n+5) 214 [x,y,z,d5 o,il who,il d]=some (0,[.d (bl (q8E d who (o.getD [])))]):=by
 rw [FS,qm4]
 simp only [G214,q08,q4E,q5t,s125 (n+1) o hl (.fn 218 [.dp [il who] 0,.dp [il d] 0]) _ (fun e _=>d218 n e d who hd),q01,q02,q0c]
 rfl
end
section
def walkI (b:Bool) (q r:List Int):Int:=if (b||decide (q=[0])||!decide (-1∈r))=true then 0 else if 0∈q∨1 < r.length then 2 else 1
end
section
def qfc (a c:List E9) (o:List E5) (d p:Int):Int:=walkI (q8E d p o) (q0W d p a) (q3I d p c)
def byI (a c:List E9) (o:List E5) (d z:Int):Int:=if 0 < z then qfc a c o d z else if z=0 then 0 else 1
end
section
def q6I (a c:List E9) (o:List E5) (d who:Int):Int :=
 if (q8E d who o||decide (q0W d who a=[0]))=true then 0 else q95 ((q3I d who c).any fun z=>decide (byI a c o d z≠0)) (decide (0∈q0W d who a)||(q3I d who c).any fun z=>decide (byI a c o d z≠1))
end
section
theorem q1V {ok ps fs:Bool} {p f d k:Int} (h:q1Q ok ps fs p f [d,k]=0):(0≤d∧d≤4166)∧0≤k∧k≤4166:=by
 unfold q1Q at h
 split at h
 ·simp at h
 ·split at h
  ·simp at h
  ·split at h
   ·simp at h
   ·split at h
    ·simp at h
    ·rename_i hh
     simp only [List.any_cons,List.any_nil,Bool.or_false,Bool.or_eq_true,Bool.not_eq_true',decide_eq_false_iff_not,not_or,Decidable.not_not] at hh
     exact hh
end
section
def q0u (acc l:List Int):List Int:=l.foldl (fun acc x=>ins x acc) acc
theorem q5D (acc:List Int) (x:Int) (l:List Int):q0u acc (x::l)=q0u (ins x acc) l:=rfl
theorem q3O:∀ (l:List Int) {acc:List Int},Up acc→Up (q0u acc l)
 | [],_,h=>h
 | x::l,_,h=>q3O l (q5h x h)
theorem q1X (z:Int):∀ (l acc:List Int),z∈q0u acc l↔z∈acc∨z∈l
 | [],acc=>by simp [q0u]
 | x::l,acc=>by
  rw [q5D,q1X z l,q4h,List.mem_cons]
  constructor
  ·rintro ((h | h) | h)
   ·exact .inr (.inl h)
   ·exact .inl h
   ·exact .inr (.inr h)
  ·rintro (h | h | h)
   ·exact .inl (.inr h)
   ·exact .inl (.inl h)
   ·exact .inr h
theorem q6B:∀ (l acc:List Int),(q0u acc l).length≤acc.length+l.length
 | [],acc=>by simp [q0u]
 | x::l,acc=>by
  have h1:=q6B l (ins x acc)
  have h2:=q5C x acc
  rw [q5D];simp only [List.length_cons];omega
def q4y (L:Int→List Int) (f:Int):List (Option Int)→List Int→List Int
 | [],acc=>acc
 | none::os,acc=>q4y L f os (ins f acc)
 | some w::os,acc=>q4y L f os (q0u acc (L w))
theorem q4j {L M:Int→List Int} (f:Int):∀ {os:List (Option Int)} (acc:List Int),(∀ w,some w∈os→L w=M w)→q4y L f os acc=q4y M f os acc
 | [],_,_=>rfl
 | none::os,acc,h=>q4j f (os:=os) _ fun w hw=>h w (List.mem_cons_of_mem _ hw)
 | some w::os,acc,h=>by
  rw [q4y,q4y,h w (by simp)]
  exact q4j f (os:=os) _ fun w hw=>h w (List.mem_cons_of_mem _ hw)
theorem q9l (L:Int→List Int) (f:Int):∀ (os:List (Option Int)) {acc:List Int},Up acc→Up (q4y L f os acc)
 | [],_,h=>h
 | none::os,_,h=>q9l L f os (q5h f h)
 | some _::os,_,h=>q9l L f os (q3O _ h)
theorem q7N (L:Int→List Int) (f z:Int):∀ (os:List (Option Int)) (acc:List Int),z∈q4y L f os acc↔z∈acc∨(none∈os∧z=f)∨∃ w,some w∈os∧z∈L w
 | [],acc=>by simp [q4y]
 | none::os,acc=>by
  rw [q4y,q7N L f z os,q4h]
  constructor
  ·rintro ((h | h) | ⟨h1,h2⟩ | ⟨w,hw,h⟩)
   ·exact .inr (.inl ⟨by simp,h⟩)
   ·exact .inl h
   ·exact .inr (.inl ⟨by simp,h2⟩)
   ·exact .inr (.inr ⟨w,by simp [hw],h⟩)
  ·rintro (h | ⟨_,h⟩ | ⟨w,hw,h⟩)
   ·exact .inl (.inr h)
   ·exact .inl (.inl h)
   ·exact .inr (.inr ⟨w,by simpa using hw,h⟩)
 | some v::os,acc=>by
  rw [q4y,q7N L f z os,q1X]
  constructor
  ·rintro ((h | h) | ⟨h1,h2⟩ | ⟨w,hw,h⟩)
   ·exact .inl h
   ·exact .inr (.inr ⟨v,by simp,h⟩)
   ·exact .inr (.inl ⟨by simp [h1],h2⟩)
   ·exact .inr (.inr ⟨w,by simp [hw],h⟩)
  ·rintro (h | ⟨h1,h⟩ | ⟨w,hw,h⟩)
   ·exact .inl (.inl h)
   ·exact .inr (.inl ⟨by simpa using h1,h⟩)
   ·rcases List.mem_cons.1 hw with e | hw
    ·cases e;exact .inl (.inr h)
    ·exact .inr (.inr ⟨w,hw,h⟩)
def qbv (d:Int) (l:List E9):Nat→Int→List Int
 | 0,_=>[]
 | n+1,f=>q4y (qbv d l n) f (q0O d f (below l l.length)) []
def q07 (d:Int) (l:List E9) (f:Int):List Int:=qbv d l f.toNat f
def q5a (l:List E9):Prop:=∀ e∈l,1≤e.b∧e.b < e.a∧e.a≤99
theorem q53 (d who:Int):∀ (l:List E9) (w:Int),some w∈q0O d who l→∃ e∈l,e.a=who∧e.b=w∧q1J e.f1 e.t2 d=true
 | [],w,h=>by simp [q0O] at h
 | e::r,w,h=>by
  simp only [q0O] at h
  split at h
  ·rename_i h1
   rcases List.mem_cons.1 h with h | h
   ·cases h;exact ⟨e,by simp,h1.1,rfl,h1.2⟩
   ·split at h
    ·simp at h
    ·obtain ⟨e',h2,h3⟩:=q53 d who r w h
     exact ⟨e',by simp [h2],h3⟩
  ·obtain ⟨e',h2,h3⟩:=q53 d who r w h
   exact ⟨e',by simp [h2],h3⟩
theorem q7G (d who:Int):∀ l:List E9,q0O d who l≠[]
 | []=>by simp [q0O]
 | e::r=>by
  simp only [q0O]
  split
  ·simp
  ·exact q7G d who r
theorem q3e {l:List E9} {m:Nat} {e:E9} (h:e∈below l m):e∈l:=by
 unfold below at h
 exact List.mem_of_mem_take (List.mem_reverse.1 h)
theorem q1S {d f:Int} {l:List E9} {m:Nat} (hl:q5a l) {w:Int} (h:some w∈q0O d f (below l m)):1≤w∧w < f∧f≤99:=by
 obtain ⟨e,he,h1,h2,_⟩:=q53 _ _ _ _ h
 have:=hl e (q3e he)
 omega
theorem qiU {d:Int} {l:List E9} (hl:q5a l):∀ (n:Nat) (f:Int),1≤f→f.toNat≤n→qbv d l n f=q07 d l f:=by
 intro n
 induction n using Nat.strongRecOn with
 | _ n ih =>
  intro f h1 h2
  cases n with
  | zero=>omega
  | succ n =>
   unfold q07
   obtain ⟨m,hm⟩:∃ m,f.toNat=m+1:=⟨f.toNat - 1,by omega⟩
   rw [hm,qbv,qbv]
   refine q4j f _ fun w hw=>?_
   have:=q1S hl hw
   rw [ih n (by omega) w this.1 (by omega),ih m (by omega) w this.1 (by omega)]
theorem qax {d:Int} {l:List E9} (hl:q5a l) {f:Int} (h1:1≤f):q07 d l f=q4y (q07 d l) f (q0O d f (below l l.length)) []:=by
 obtain ⟨m,hm⟩:∃ m,f.toNat=m+1:=⟨f.toNat - 1,by omega⟩
 unfold q07
 rw [hm,qbv]
 refine q4j f _ fun w hw=>?_
 have:=q1S hl hw
 exact qiU hl m w this.1 (by omega)
theorem q3N (d:Int) (l:List E9) (f:Int):Up (q07 d l f):=by
 unfold q07
 cases f.toNat with
 | zero=>simp [qbv]
 | succ m=>exact q9l _ _ _ (by simp)
theorem q1w {d:Int} {l:List E9} (hl:q5a l) {f z:Int} (h1:1≤f):z∈q07 d l f↔(none∈q0O d f (below l l.length)∧z=f)∨∃ w,some w∈q0O d f (below l l.length)∧z∈q07 d l w:=by
 rw [qax hl h1,q7N];simp
theorem q1d {d:Int} {l:List E9} (hl:q5a l):∀ (n:Nat) (f z:Int),f.toNat≤n→1≤f→z∈q07 d l f→1≤z∧z≤f:=by
 intro n
 induction n with
 | zero=>intro f z h1 h2;omega
 | succ n ih =>
  intro f z h1 h2 h
  rcases (q1w hl h2).1 h with ⟨_,rfl⟩ | ⟨w,hw,h⟩
  ·exact ⟨h2,Int.le_refl _⟩
  ·have:=q1S hl hw
   have:=ih w z (by omega) this.1 h
   omega
theorem q3h {d:Int} {l:List E9} (hl:q5a l):∀ (n:Nat) (f:Int),f.toNat≤n→1≤f→∃ z,z∈q07 d l f:=by
 intro n
 induction n with
 | zero=>intro f h1 h2;omega
 | succ n ih =>
  intro f h1 h2
  have hne:=q7G d f (below l l.length)
  revert hne
  generalize hq:q0O d f (below l l.length)=q
  intro hne
  cases q with
  | nil=>exact absurd rfl hne
  | cons o os =>
   cases o with
   | none=>exact ⟨f,(q1w hl h2).2 (.inl ⟨by rw [hq];simp,rfl⟩)⟩
   | some w =>
    have hw:some w∈q0O d f (below l l.length):=by rw [hq];simp
    have:=q1S hl hw
    obtain ⟨z,hz⟩:=ih w (by omega) this.1
    exact ⟨z,(q1w hl h2).2 (.inr ⟨w,hw,hz⟩)⟩
theorem qcw:∀ (l:List Int) (a b:Int),Up l→(∀ z∈l,a≤z∧z≤b)→(l.length:Int)≤max 0 (b - a+1)
 | [],a,b,_,_=>by simp;omega
 | x::l,a,b,hu,h=>by
  rw [Up,List.pairwise_cons] at hu
  have hx:=h x (by simp)
  have:=qcw l (x+1) b hu.2 fun z hz=>⟨by have:=hu.1 z hz;omega,(h z (by simp [hz])).2⟩
  simp only [List.length_cons,Int.natCast_add,Int.natCast_one]
  omega
theorem q6A {d:Int} {l:List E9} (hl:q5a l) {f:Int} (h1:1≤f):((q07 d l f).length:Int)≤f:=by
 have:=qcw _ 1 f (q3N d l f) fun z hz=>q1d hl _ f z (Nat.le_refl _) h1 hz
 omega
end
end Go.VE
