/- Family: slices.DeleteFunc over a row that is handed over. -/
import Derived.Test.YtobeabinccohlaaGreatMg0
set_option maxRecDepth 20000
namespace Go.VE
open Go.RowKit Go.Proofs
section
section
variable {Fn:Nat→List D→aq} {FnD:D→List Sh→List D→aq} {m:Nat}
theorem jl (i n:Nat) (k:Nat→Nat→aq) (e:aq) (h:i < n):(af Fn FnD m).cut (some (il i)) none n k e=k i (n - i):=by
 show (if 0≤(i:Int)∧(i:Int)≤(n:Int)∧(n:Int)≤(n:Int) then (if (i:Int)=0∨(i:Int) < (n:Int) then k (i:Int).toNat ((n:Int) - (i:Int)).toNat else e) else none)=_
 rw [T1 (by omega),T1 (by omega),V0,show ((n:Int) - (i:Int)).toNat=n - i by omega]
theorem jm (i n:Nat) (k:Nat→Nat→aq) (e:aq) (h:i≤n):(af Fn FnD m).cut none (some (il i)) n k e=k 0 i:=by
 show (if 0≤(0:Int)∧(0:Int)≤(i:Int)∧(i:Int)≤(n:Int) then (if (0:Int)=0∨(0:Int) < (i:Int) then k (0:Int).toNat ((i:Int) - 0).toNat else e) else none)=_
 rw [T1 (by omega),T1 (.inl rfl),show ((i:Int) - 0).toNat=i by omega]
 rfl
end
theorem Dk {α:Type} {l:List α} {i:Nat} {c:α} (h:i < l.length):(l.set i c).take (i+1)=l.take i++[c]:=by
 rw [Wn,List.take_set_of_le (Tf _),List.getElem?_set_self h];rfl
theorem fV {α:Type} {p:α→Bool}:∀ {l:List α} {i:Nat},gC p l=some i→i < l.length∧(l.take (i+1)).filter (fun e=>!p e)=l.take i
 | [],i,h=>by cases h
 | x::xs,i,h=>by
  simp only [gC] at h
  split at h
  ·rename_i hp
   cases h
   simp [hp]
  ·rename_i hp
   obtain ⟨j,hj,rfl⟩:=Ta.1 h
   obtain ⟨h1,h2⟩:=fV hj
   simp only [Bool.not_eq_true] at hp
   refine ⟨by simp;omega,?_⟩
   rw [Tg,List.filter_cons_of_pos (by simp [hp]),h2,Tg]
theorem fW {α:Type} {p:α→Bool}:∀ {l:List α},gC p l=none→l.filter (fun e=>!p e)=l
 | [],_=>rfl
 | x::xs,h=>by
  simp only [gC] at h
  split at h
  ·cases h
  ·rename_i hp
   simp only [Bool.not_eq_true] at hp
   rw [List.filter_cons_of_pos (by simp [hp]),fW (by simpa using h)]
theorem kH {α:Type} (l:List α) (hl:l.length≤4611686018427387904) (p:α→Bool) (body:(Nat→List Yr→aq)→List Yr→aq) (st:Nat→Nat→List α→List Yr) (ex:Nat→List α→aq)
  (e0:∀ i ks k,ks.length=l.length→body k (st i l.length ks)=ex i ks)
  (e1:∀ (i j:Nat) ks c c2 (k:Nat→List Yr→aq),c∈l→ks[j]?=some c→ks[i]?=some c2→i < j→(j:Int) < (l.length:Int)→(i:Int) < (l.length:Int)→ks.length=l.length→IntKind.i64.wrap ((j:Int)+1)=((j+1:Nat):Int)→IntKind.i64.wrap ((i:Int)+1)=((i+1:Nat):Int) →
   body k (st i j ks)=if p c=true then k 0 (st i (j+1) ks) else k 0 (st (i+1) (j+1) (ks.set i c)))
  (i0:Nat) (h0:i0 < l.length) (h1:(l.take (i0+1)).filter (fun e=>!p e)=l.take i0) :
  ∃ i ks,ax [body] M0 0 (st i0 (i0+1) l)=ex i ks∧i < l.length∧ks.length=l.length∧ks.take i=l.filter (fun e=>!p e):=by
 refine eZ (σ:=Nat×Nat×List α) [body] (fun s=>(0,st s.1 s.2.1 s.2.2)) (fun s=>l.length - s.2.1)
  (fun s=>s.1 < s.2.1∧s.2.1≤l.length∧s.2.2.length=l.length∧s.2.2.drop s.2.1=l.drop s.2.1∧s.2.2.take s.1=(l.take s.2.1).filter (fun e=>!p e))
  (fun r=>∃ i ks,r=ex i ks∧i < l.length∧ks.length=l.length∧ks.take i=l.filter (fun e=>!p e)) ?_ M0 (i0,i0+1,l)
  ⟨Nat.lt_succ_self _,h0,rfl,rfl,h1.symm⟩ (by have:=cj hl;unfold M0;simp only;omega)
 rintro ⟨i,j,ks⟩ k ⟨g1,g2,g3,g4,g5⟩ ih
 simp only at g1 g2 g3 g4 g5 ih ⊢
 refine ⟨body,rfl,?_⟩
 by_cases hj:j < l.length
 ·obtain ⟨c,hc⟩:∃ c,l[j]?=some c:=⟨l[j],Tc hj⟩
  have hkc:ks[j]?=some c:=by
   have e1:(ks.drop j)[0]?=(l.drop j)[0]?:=by rw [g4]
   simpa [Wu,hc] using e1
  obtain ⟨c2,hc2⟩:∃ c2,ks[i]?=some c2:=⟨ks[i]'(by omega),Tc (by omega)⟩
  have ht:l.take (j+1)=l.take j++[c]:=by rw [Wn,hc];rfl
  have hd:ks.drop (j+1)=l.drop (j+1):=by
   have e2:(ks.drop j).drop 1=(l.drop j).drop 1:=by rw [g4]
   rwa [Y1,Y1] at e2
  rw [e1 i j ks c c2 k (Vb hc) hkc hc2 g1 (by omega) (by omega) g3 (by rw [aE (by omega) (by omega)];simp) (by rw [aE (by omega) (by omega)];simp)]
  by_cases hpv:p c=true
  ·rw [T1 hpv]
   exact ih (i,j+1,ks) ⟨by simp only;omega,hj,g3,hd,by simp only;rw [ht,List.filter_append,← g5];simp [hpv]⟩ (by simp only;omega)
  ·rw [T5 hpv]
   refine ih (i+1,j+1,ks.set i c) ⟨by simp only;omega,hj,by simp only [Wq];exact g3,?_,?_⟩ (by simp only;omega)
   ·simp only
    rw [List.drop_set_of_lt (by omega)]
    exact hd
   ·simp only
    rw [Dk (by omega),g5,ht,List.filter_append]
    simp [hpv]
 ·have hjl:j=l.length:=by omega
  subst hjl
  rw [e0 i ks k g3]
  exact ⟨i,ks,rfl,by omega,g3,by rw [g5,Vf]⟩
theorem qm (n:Nat) (x:D) (p:E9→Bool) (l:List E9) (hl:l.length≤4611686018427387904) (hp:∀ e∈l,FD n x [.agg 9] (r9 e)=some (0,[.d (bl (p e))])) (i0:Nat) (h0:i0 < l.length) (h1:(l.take (i0+1)).filter (fun e=>!p e)=l.take i0) :
  ∃ (i:Nat) (ks:List E9),ax [eH (RP n)] M0 0 [.n l.length,.n l.length,x,il i0,il ((i0+1:Nat):Int),.r (l.map r9)]=some (0,[.n l.length,.n l.length,.d (il ((i:Nat):Int)),.r (ks.map r9)])∧i < l.length∧ks.length=l.length∧ks.take i=l.filter (fun e=>!p e):=by
 refine kH l hl p (eH (RP n)) (fun i j ks=>[.n l.length,.n l.length,.d x,.d (il (i:Nat)),.d (il (j:Nat)),.r (ks.map r9)]) (fun i ks=>some (0,[.n l.length,.n l.length,.d (il ((i:Nat):Int)),.r (ks.map r9)])) ?_ ?_ i0 h0 h1
 ·intro i ks k hk
  simp [eH]
 ·intro i j ks c c2 k hc hj hi hij hjl hil hks hwj hwi
  have hkr:(ks.map r9)[j]?=some (r9 c):=by rw [Tm,hj];rfl
  have hkr2:(ks.map r9)[i]?=some (r9 c2):=by rw [Tm,hi];rfl
  have hpc:c6 Tryz.prog (di tb Tryz.prog) (FN n) x [.agg 9] (r9 c)=some (0,[.d (bl (p c))]):=hp c hc
  simp only [eH,ac,ag,b8,aZ,aN,b9,lT,aC,aa,hjl,T8,T6,aI,Tj,aR,hks]
  rw [k8 _ _ _ ⟨by omega,hjl⟩,V0,eX 9 _ _ _ _ hkr rfl]
  rw [show [(RP n).cell (r9 c) 0,(RP n).cell (r9 c) 1,(RP n).cell (r9 c) 2,(RP n).cell (r9 c) 3,(RP n).cell (r9 c) 4,(RP n).cell (r9 c) 5,(RP n).cell (r9 c) 6,(RP n).cell (r9 c) 7,(RP n).cell (r9 c) 8]=r9 c from rfl]
  rw [gz,hpc]
  simp only [ab,ac,aP,aa,ae,ay,hwj,hwi]
  cases hpv:p c with
  | true=>simp only [Tu,T0,T9,T6]
  | false =>
   simp only [V1,T6,T0,T9]
   rw [k8 _ _ _ ⟨by omega,hil⟩,V0,eX 9 _ _ _ _ hkr2 rfl]
   simp only [ft,Xe]
theorem Eg (n:Nat) (x:D) (p:E5→Bool) (l:List E5) (hl:l.length≤4611686018427387904) (hp:∀ e∈l,FD n x [.agg 5] (r5 e)=some (0,[.d (bl (p e))])) (i0:Nat) (h0:i0 < l.length) (h1:(l.take (i0+1)).filter (fun e=>!p e)=l.take i0) :
  ∃ (i:Nat) (ks:List E5),ax [im (RP n)] M0 0 [.n l.length,.n l.length,x,il i0,il ((i0+1:Nat):Int),.r (l.map r5)]=some (0,[.n l.length,.n l.length,.d (il ((i:Nat):Int)),.r (ks.map r5)])∧i < l.length∧ks.length=l.length∧ks.take i=l.filter (fun e=>!p e):=by
 refine kH l hl p (im (RP n)) (fun i j ks=>[.n l.length,.n l.length,.d x,.d (il (i:Nat)),.d (il (j:Nat)),.r (ks.map r5)]) (fun i ks=>some (0,[.n l.length,.n l.length,.d (il ((i:Nat):Int)),.r (ks.map r5)])) ?_ ?_ i0 h0 h1
 ·intro i ks k hk
  simp [im]
 ·intro i j ks c c2 k hc hj hi hij hjl hil hks hwj hwi
  have hkr:(ks.map r5)[j]?=some (r5 c):=by rw [Tm,hj];rfl
  have hkr2:(ks.map r5)[i]?=some (r5 c2):=by rw [Tm,hi];rfl
  have hpc:c6 Tryz.prog (di tb Tryz.prog) (FN n) x [.agg 5] (r5 c)=some (0,[.d (bl (p c))]):=hp c hc
  simp only [im,ac,ag,b8,aZ,aN,b9,lT,aC,aa,hjl,T8,T6,aI,Tj,aR,hks]
  rw [k8 _ _ _ ⟨by omega,hjl⟩,V0,eX 5 _ _ _ _ hkr rfl]
  rw [show [(RP n).cell (r5 c) 0,(RP n).cell (r5 c) 1,(RP n).cell (r5 c) 2,(RP n).cell (r5 c) 3,(RP n).cell (r5 c) 4]=r5 c from rfl]
  rw [gz,hpc]
  simp only [ab,ac,aP,aa,ae,ay,hwj,hwi]
  cases hpv:p c with
  | true=>simp only [Tu,T0,T9,T6]
  | false =>
   simp only [V1,T6,T0,T9]
   rw [k8 _ _ _ ⟨by omega,hil⟩,V0,eX 5 _ _ _ _ hkr2 rfl]
   simp only [ft,Xe]
theorem EU (n:Nat):rE (RP n)=eH (RP n):=rfl
theorem ET (n:Nat):rD (RP n)=eH (RP n):=rfl
theorem vu (n:Nat) (x:D) (p:E9→Bool) (l:List E9) (hl:l.length≤4611686018427387904) (hp:∀ e∈l,FD n x [.agg 9] (r9 e)=some (0,[.d (bl (p e))])) (hp1:∀ e∈l,FD (n+1) x [.agg 9] (r9 e)=some (0,[.d (bl (p e))])) :
  ∃ rest:Rr,FN (n+2) 1000097 [.sl 9 (l.map r9),x]=some (0,[.d (.sl 9 ((l.filter fun e=>!p e).map r9)),.d (.sl 9 rest)]):=by
 have hi:=Dr n (some l) hl x p hp
 simp only [d9,Th,dR,T7] at hi
 rw [FS,xO]
 have hlen:(l.map r9).take (l.map r9).length=l.map r9:=Vf
 simp only [xP,bR,aI,aR,aU,bL,hlen,ah,hi,ab,ac,e7,Vi,Wg,rN,Vx,T6,ae,aV,aa,T4,ao]
 unfold fS
 cases hf:gC p l with
 | none =>
  refine ⟨l.map r9,?_⟩
  simp only [T6]
  rw [fW hf]
 | some i0 =>
  obtain ⟨h0,h1⟩:=fV hf
  simp only
  rw [T5 (by omega),ay,aE (by omega) (by omega),aD,Tj]
  obtain ⟨i,ks,e1,e2,e3,e4⟩:=qm (n+1) x p l hl hp1 i0 h0 h1
  rw [show ((i0:Nat):Int)+1=((i0+1:Nat):Int) by simp,e1]
  have ek:(ks.map r9).length=l.length:=by simp [e3]
  simp only [ab,ac,ag,b8,aZ,aN,b9,ek,T6]
  rw [jl _ _ _ _ e2]
  have ea:i+(l.length - i)=l.length:=by omega
  have et:((ks.map r9).take i++List.replicate (l.length - i) [il 0,il 0,il 0,il 0,il 0,il 0,il 0,il 0,il 0]).length=l.length:=by
   simp [e3];omega
  simp only [bV,ea,cX,jZ,et,T6]
  rw [jm _ _ _ _ (by omega)]
  have er:((ks.map r9).take i++List.replicate (l.length - i) [il 0,il 0,il 0,il 0,il 0,il 0,il 0,il 0,il 0]).take i=(l.filter fun e=>!p e).map r9:=by
   rw [Vk (by simp [e3];omega),X8,Xv,← Wi,e4]
  rw [er]
  exact ⟨_,rfl⟩
theorem vr (n:Nat) (x:D) (p:E9→Bool) (l:List E9) (hl:l.length≤4611686018427387904) (hp:∀ e∈l,FD n x [.agg 9] (r9 e)=some (0,[.d (bl (p e))])) (hp1:∀ e∈l,FD (n+1) x [.agg 9] (r9 e)=some (0,[.d (bl (p e))])) :
  ∃ rest:Rr,FN (n+2) 1000099 [.sl 9 (l.map r9),x]=some (0,[.d (.sl 9 ((l.filter fun e=>!p e).map r9)),.d (.sl 9 rest)]):=by
 have hi:=Lw n (some l) hl x p hp
 simp only [d9,Th,dR,T7] at hi
 rw [FS,xM]
 have hlen:(l.map r9).take (l.map r9).length=l.map r9:=Vf
 simp only [xN,bR,aI,aR,aU,bL,hlen,ah,hi,ab,ac,e7,Vi,Wg,rN,Vx,T6,ae,aV,aa,T4,ao]
 unfold fS
 cases hf:gC p l with
 | none =>
  refine ⟨l.map r9,?_⟩
  simp only [T6]
  rw [fW hf]
 | some i0 =>
  obtain ⟨h0,h1⟩:=fV hf
  simp only
  rw [T5 (by omega),ay,aE (by omega) (by omega),aD,Tj]
  obtain ⟨i,ks,e1,e2,e3,e4⟩:=qm (n+1) x p l hl hp1 i0 h0 h1
  rw [show ((i0:Nat):Int)+1=((i0+1:Nat):Int) by simp,EU,e1]
  have ek:(ks.map r9).length=l.length:=by simp [e3]
  simp only [ab,ac,ag,b8,aZ,aN,b9,ek,T6]
  rw [jl _ _ _ _ e2]
  have ea:i+(l.length - i)=l.length:=by omega
  have et:((ks.map r9).take i++List.replicate (l.length - i) [il 0,il 0,il 0,il 0,il 0,il 0,il 0,il 0,il 0]).length=l.length:=by
   simp [e3];omega
  simp only [bV,ea,cX,jZ,et,T6]
  rw [jm _ _ _ _ (by omega)]
  have er:((ks.map r9).take i++List.replicate (l.length - i) [il 0,il 0,il 0,il 0,il 0,il 0,il 0,il 0,il 0]).take i=(l.filter fun e=>!p e).map r9:=by
   rw [Vk (by simp [e3];omega),X8,Xv,← Wi,e4]
  rw [er]
  exact ⟨_,rfl⟩
theorem vq (n:Nat) (x:D) (p:E9→Bool) (l:List E9) (hl:l.length≤4611686018427387904) (hp:∀ e∈l,FD n x [.agg 9] (r9 e)=some (0,[.d (bl (p e))])) (hp1:∀ e∈l,FD (n+1) x [.agg 9] (r9 e)=some (0,[.d (bl (p e))])) :
  ∃ rest:Rr,FN (n+2) 1000101 [.sl 9 (l.map r9),x]=some (0,[.d (.sl 9 ((l.filter fun e=>!p e).map r9)),.d (.sl 9 rest)]):=by
 have hi:=Lv n (some l) hl x p hp
 simp only [d9,Th,dR,T7] at hi
 rw [FS,xK]
 have hlen:(l.map r9).take (l.map r9).length=l.map r9:=Vf
 simp only [xL,bR,aI,aR,aU,bL,hlen,ah,hi,ab,ac,e7,Vi,Wg,rN,Vx,T6,ae,aV,aa,T4,ao]
 unfold fS
 cases hf:gC p l with
 | none =>
  refine ⟨l.map r9,?_⟩
  simp only [T6]
  rw [fW hf]
 | some i0 =>
  obtain ⟨h0,h1⟩:=fV hf
  simp only
  rw [T5 (by omega),ay,aE (by omega) (by omega),aD,Tj]
  obtain ⟨i,ks,e1,e2,e3,e4⟩:=qm (n+1) x p l hl hp1 i0 h0 h1
  rw [show ((i0:Nat):Int)+1=((i0+1:Nat):Int) by simp,ET,e1]
  have ek:(ks.map r9).length=l.length:=by simp [e3]
  simp only [ab,ac,ag,b8,aZ,aN,b9,ek,T6]
  rw [jl _ _ _ _ e2]
  have ea:i+(l.length - i)=l.length:=by omega
  have et:((ks.map r9).take i++List.replicate (l.length - i) [il 0,il 0,il 0,il 0,il 0,il 0,il 0,il 0,il 0]).length=l.length:=by
   simp [e3];omega
  simp only [bV,ea,cX,jZ,et,T6]
  rw [jm _ _ _ _ (by omega)]
  have er:((ks.map r9).take i++List.replicate (l.length - i) [il 0,il 0,il 0,il 0,il 0,il 0,il 0,il 0,il 0]).take i=(l.filter fun e=>!p e).map r9:=by
   rw [Vk (by simp [e3];omega),X8,Xv,← Wi,e4]
  rw [er]
  exact ⟨_,rfl⟩
theorem vp (n:Nat) (x:D) (p:E5→Bool) (l:List E5) (hl:l.length≤4611686018427387904) (hp:∀ e∈l,FD n x [.agg 5] (r5 e)=some (0,[.d (bl (p e))])) (hp1:∀ e∈l,FD (n+1) x [.agg 5] (r5 e)=some (0,[.d (bl (p e))])) :
  ∃ rest:Rr,FN (n+2) 1000103 [.sl 5 (l.map r5),x]=some (0,[.d (.sl 5 ((l.filter fun e=>!p e).map r5)),.d (.sl 5 rest)]):=by
 have hi:=Lu n (some l) hl x p hp
 simp only [d5,Th,dR,T7] at hi
 rw [FS,xI]
 have hlen:(l.map r5).take (l.map r5).length=l.map r5:=Vf
 simp only [xJ,bR,aI,aR,aU,bL,hlen,ah,hi,ab,ac,e7,Vi,Wg,rN,Vx,T6,ae,aV,aa,T4,ao]
 unfold fS
 cases hf:gC p l with
 | none =>
  refine ⟨l.map r5,?_⟩
  simp only [T6]
  rw [fW hf]
 | some i0 =>
  obtain ⟨h0,h1⟩:=fV hf
  simp only
  rw [T5 (by omega),ay,aE (by omega) (by omega),aD,Tj]
  obtain ⟨i,ks,e1,e2,e3,e4⟩:=Eg (n+1) x p l hl hp1 i0 h0 h1
  rw [show ((i0:Nat):Int)+1=((i0+1:Nat):Int) by simp,e1]
  have ek:(ks.map r5).length=l.length:=by simp [e3]
  simp only [ab,ac,ag,b8,aZ,aN,b9,ek,T6]
  rw [jl _ _ _ _ e2]
  have ea:i+(l.length - i)=l.length:=by omega
  have et:((ks.map r5).take i++List.replicate (l.length - i) [il 0,il 0,il 0,il 0,il 0]).length=l.length:=by
   simp [e3];omega
  simp only [bV,ea,cX,jZ,et,T6]
  rw [jm _ _ _ _ (by omega)]
  have er:((ks.map r5).take i++List.replicate (l.length - i) [il 0,il 0,il 0,il 0,il 0]).take i=(l.filter fun e=>!p e).map r5:=by
   rw [Vk (by simp [e3];omega),X8,Xv,← Wi,e4]
  rw [er]
  exact ⟨_,rfl⟩
end
section
theorem s177n (n:Nat):FN (n+1) 177 [d9 none]=some (1,[.d (d9 none)]):=by
 rw [FS,BE];simp [Oo,d9,dR]
theorem s177s (n:Nat) (l:List E9) (hl:l.length*72≤140737488351232):FN (n+1) 177 [d9 (some l)]=some (0,[.r (l.map r9)]):=by
 rw [FS,BE]
 simp only [Oo,d9,Th,dR,mN,bR,bj,aI,aM,Td,aR,T6,bV,Tz,Tj,cX,V5,sg,Tf,aU,ao,bc]
 rw [T1 (by omega)]
 rw [show l.length=(l.map r9).length by simp,Vf]
theorem s178n (n:Nat):FN (n+1) 178 [d9 none]=some (1,[.d (d9 none)]):=by
 rw [FS,BD];simp [On,d9,dR]
theorem s178s (n:Nat) (l:List E9) (hl:l.length*72≤140737488351232):FN (n+1) 178 [d9 (some l)]=some (0,[.r (l.map r9)]):=by
 rw [FS,BD]
 simp only [On,d9,Th,dR,mN,bR,bj,aI,aM,Td,aR,T6,bV,Tz,Tj,cX,V5,sg,Tf,aU,ao,bc]
 rw [T1 (by omega)]
 rw [show l.length=(l.map r9).length by simp,Vf]
theorem s179n (n:Nat):FN (n+1) 179 [d9 none]=some (1,[.d (d9 none)]):=by
 rw [FS,BC];simp [Om,d9,dR]
theorem s179s (n:Nat) (l:List E9) (hl:l.length*72≤140737488351232):FN (n+1) 179 [d9 (some l)]=some (0,[.r (l.map r9)]):=by
 rw [FS,BC]
 simp only [Om,d9,Th,dR,mN,bR,bj,aI,aM,Td,aR,T6,bV,Tz,Tj,cX,V5,sg,Tf,aU,ao,bc]
 rw [T1 (by omega)]
 rw [show l.length=(l.map r9).length by simp,Vf]
theorem s180n (n:Nat):FN (n+1) 180 [d5 none]=some (1,[.d (d5 none)]):=by
 rw [FS,BB];simp [Ol,d5,dR]
theorem s180s (n:Nat) (l:List E5) (hl:l.length*40≤140737488351232):FN (n+1) 180 [d5 (some l)]=some (0,[.r (l.map r5)]):=by
 rw [FS,BB]
 simp only [Ol,d5,Th,dR,mN,bR,bj,aI,aM,Td,aR,T6,bV,Tz,Tj,cX,V5,sg,Tf,aU,ao,bc]
 rw [T1 (by omega)]
 rw [show l.length=(l.map r5).length by simp,Vf]
theorem s97n (n:Nat) (x:D):FN (n+2) 97 [d9 none,x]=some (0,[.d (d9 none)]):=by
 rw [FS,Nk]
 simp only [G97,ah,Dr n none (by simp) x (fun _=>true) (by simp),ab,ac,ae,aV,aa]
 rw [T1 (by simp [fS,gC])]
 rfl
theorem s99n (n:Nat) (x:D):FN (n+2) 99 [d9 none,x]=some (0,[.d (d9 none)]):=by
 rw [FS,Ni]
 simp only [G99,ah,Lw n none (by simp) x (fun _=>true) (by simp),ab,ac,ae,aV,aa]
 rw [T1 (by simp [fS,gC])]
 rfl
theorem JU (n:Nat) (x:D):FN (n+2) 101 [d9 none,x]=some (0,[.d (d9 none)]):=by
 rw [FS,IQ]
 simp only [G101,ah,Lv n none (by simp) x (fun _=>true) (by simp),ab,ac,ae,aV,aa]
 rw [T1 (by simp [fS,gC])]
 rfl
theorem JT (n:Nat) (x:D):FN (n+2) 103 [d5 none,x]=some (0,[.d (d5 none)]):=by
 rw [FS,IO]
 simp only [G103,ah,Lu n none (by simp) x (fun _=>true) (by simp),ab,ac,ae,aV,aa]
 rw [T1 (by simp [fS,gC])]
 rfl
theorem s172 (n:Nat) (e:E9) (k:Int):FN (n+2) 172 (r9 e++[il k])=some (0,[.d (bl (!ec e.kn e.un k))]):=by
 rw [r9]
 simp only [Tr,V5]
 rw [FS,I4]
 simp only [G172,ah,G5,ab,ac,aP,ao]
theorem d172 (n:Nat) (e:E9) (k:Int):FD (n+2) (.fn 172 [.dp [il k] 0]) [.agg 9] (r9 e)=some (0,[.d (bl (!ec e.kn e.un k))]) :=
 fj [.agg 9,.ptr 1] [.agg (r9 e)] (by decide) rfl (by kernel_rfl) rfl (by kernel_rfl) (s172 n e k)
theorem s174 (n:Nat) (e:E9) (k:Int):FN (n+2) 174 (r9 e++[il k])=some (0,[.d (bl (!ec e.kn e.un k))]):=by
 rw [r9]
 simp only [Tr,V5]
 rw [FS,I2]
 simp only [G174,ah,G5,ab,ac,aP,ao]
theorem d174 (n:Nat) (e:E9) (k:Int):FD (n+2) (.fn 174 [.dp [il k] 0]) [.agg 9] (r9 e)=some (0,[.d (bl (!ec e.kn e.un k))]) :=
 fj [.agg 9,.ptr 1] [.agg (r9 e)] (by decide) rfl (by kernel_rfl) rfl (by kernel_rfl) (s174 n e k)
theorem s175 (n:Nat) (e:E9) (k:Int):FN (n+2) 175 (r9 e++[il k])=some (0,[.d (bl (!ec e.kn e.un k))]):=by
 rw [r9]
 simp only [Tr,V5]
 rw [FS,I1]
 simp only [G175,ah,G5,ab,ac,aP,ao]
theorem d175 (n:Nat) (e:E9) (k:Int):FD (n+2) (.fn 175 [.dp [il k] 0]) [.agg 9] (r9 e)=some (0,[.d (bl (!ec e.kn e.un k))]) :=
 fj [.agg 9,.ptr 1] [.agg (r9 e)] (by decide) rfl (by kernel_rfl) rfl (by kernel_rfl) (s175 n e k)
theorem s176 (n:Nat) (e:E5) (k:Int):FN (n+2) 176 (r5 e++[il k])=some (0,[.d (bl (!ec e.kn e.un k))]):=by
 rw [r5]
 simp only [Tr,V5]
 rw [FS,I0]
 simp only [G176,ah,G5,ab,ac,aP,ao]
theorem d176 (n:Nat) (e:E5) (k:Int):FD (n+2) (.fn 176 [.dp [il k] 0]) [.agg 5] (r5 e)=some (0,[.d (bl (!ec e.kn e.un k))]) :=
 fj [.agg 5,.ptr 1] [.agg (r5 e)] (by decide) rfl (by kernel_rfl) rfl (by kernel_rfl) (s176 n e k)
def bo (k:Int) (o:Option (List E9)):Option (List E9):=o.map (au k)
def f7 (k:Int) (o:Option (List E5)):Option (List E5):=o.map (dj k)
def an (a b c:Option (List E9)) (o:Option (List E5)):D:=.dp [d9 a,d9 b,d9 c,d5 o] 0
theorem cI {Fn:Nat→List D→aq} {FnD:D→List Sh→List D→aq} {m:Nat} (j:Nat) (ys:List Yr) (k0:List Yr→aq) (ks:List (List Yr→aq)):(af Fn FnD m).bnd (some (j+1,ys)) (k0::ks)=(af Fn FnD m).bnd (some (j,ys)) ks:=by simp [K0]
theorem Em (n:Nat) (k:Int) (l:List E9) (hl:l.length*72≤140737488351232):∃ rest:Rr,FN (n+4) 1000097 [.sl 9 (l.map r9),.fn 172 [.dp [il k] 0]]=some (0,[.d (d9 (bo k (some l))),.d (.sl 9 rest)]):=by
 obtain ⟨rest,h⟩:=vu (n+2) (.fn 172 [.dp [il k] 0]) (fun e=>!ec e.kn e.un k) l (by omega) (fun e _=>d172 n e k) (fun e _=>d172 (n+1) e k)
 refine ⟨rest,h.trans ?_⟩
 simp only [X6,d9,bo,au,Th,dR]
theorem El (n:Nat) (k:Int) (l:List E9) (hl:l.length*72≤140737488351232):∃ rest:Rr,FN (n+4) 1000099 [.sl 9 (l.map r9),.fn 174 [.dp [il k] 0]]=some (0,[.d (d9 (bo k (some l))),.d (.sl 9 rest)]):=by
 obtain ⟨rest,h⟩:=vr (n+2) (.fn 174 [.dp [il k] 0]) (fun e=>!ec e.kn e.un k) l (by omega) (fun e _=>d174 n e k) (fun e _=>d174 (n+1) e k)
 refine ⟨rest,h.trans ?_⟩
 simp only [X6,d9,bo,au,Th,dR]
theorem Ek (n:Nat) (k:Int) (l:List E9) (hl:l.length*72≤140737488351232):∃ rest:Rr,FN (n+4) 1000101 [.sl 9 (l.map r9),.fn 175 [.dp [il k] 0]]=some (0,[.d (d9 (bo k (some l))),.d (.sl 9 rest)]):=by
 obtain ⟨rest,h⟩:=vq (n+2) (.fn 175 [.dp [il k] 0]) (fun e=>!ec e.kn e.un k) l (by omega) (fun e _=>d175 n e k) (fun e _=>d175 (n+1) e k)
 refine ⟨rest,h.trans ?_⟩
 simp only [X6,d9,bo,au,Th,dR]
theorem Ej (n:Nat) (k:Int) (l:List E5) (hl:l.length*40≤140737488351232):∃ rest:Rr,FN (n+4) 1000103 [.sl 5 (l.map r5),.fn 176 [.dp [il k] 0]]=some (0,[.d (d5 (f7 k (some l))),.d (.sl 5 rest)]):=by
 obtain ⟨rest,h⟩:=vp (n+2) (.fn 176 [.dp [il k] 0]) (fun e=>!ec e.kn e.un k) l (by omega) (fun e _=>d176 n e k) (fun e _=>d176 (n+1) e k)
 refine ⟨rest,h.trans ?_⟩
 simp only [X6,d5,f7,dj,Th,dR]
theorem sk {α:Type} {p:List α→Prop} {q:List α→Rr→Prop} (h:∀ l,p l→∃ r,q l r):∃ f:List α→Rr,∀ l,p l→q l (f l):=by
 have h':∀ l,∃ r:Rr,p l→q l r:=fun l=>by
  by_cases hp:p l
  ·obtain ⟨r,hr⟩:=h l hp
   exact ⟨r,fun _=>hr⟩
  ·exact ⟨[],fun h=>absurd h hp⟩
 exact Classical.skolem.1 h'
def GL:Bool→Bool→Bool→Bool→Nat
 | true,true,true,true=>0
 | true,true,true,false=>4
 | true,true,false,true=>1
 | true,true,false,false=>10
 | true,false,true,true=>3
 | true,false,true,false=>6
 | true,false,false,true=>7
 | true,false,false,false=>14
 | false,true,true,true=>2
 | false,true,true,false=>9
 | false,true,false,true=>8
 | false,true,false,false=>12
 | false,false,true,true=>5
 | false,false,true,false=>13
 | false,false,false,true=>11
 | false,false,false,false=>15
def lv9:Option (List E9)→Yr
 | none=>.d (d9 none)
 | some l=>.r (l.map r9)
def lv5:Option (List E5)→Yr
 | none=>.d (d5 none)
 | some l=>.r (l.map r5)
theorem s96 (n:Nat) (a b c:Option (List E9)) (o:Option (List E5)) (ha:(a.getD []).length*72≤140737488351232) (hb:(b.getD []).length*72≤140737488351232) (hc:(c.getD []).length*72≤140737488351232) (ho:(o.getD []).length*40≤140737488351232) :
  FN (n+2) 96 [d9 a,d9 b,d9 c,d5 o]=some (GL a.isSome b.isSome c.isSome o.isSome,[lv9 a,lv9 b,lv9 c,lv5 o]):=by
 rw [FS,Nl]
 cases a<;>cases b<;>cases c<;>cases o<;>try simp only [T7] at ha hb hc ho
 all_goals
  simp (disch:=first | exact ha | exact hb | exact hc | exact ho) only [G96,ah,s177n,s178n,s179n,s180n,s177s,s178s,s179s,s180s,ab,cI,ac,aN,aI,aR,sg,Tf,T6,aU,Vf,ao]
  rfl
set_option maxHeartbeats 1000000 in
theorem s94 (n:Nat) (k:Int) (a b c:Option (List E9)) (o:Option (List E5)) (ha:(a.getD []).length*72≤140737488351232) (hb:(b.getD []).length*72≤140737488351232) (hc:(c.getD []).length*72≤140737488351232) (ho:(o.getD []).length*40≤140737488351232) :
  FN (n+5) 94 [d9 a,d9 b,d9 c,d5 o,il k]=some (0,[.d (an (bo k a) (bo k b) (bo k c) (f7 k o))]):=by
 rw [FS,Nm]
 obtain ⟨_,ka⟩:=sk (Em n k)
 obtain ⟨_,kb⟩:=sk (El n k)
 obtain ⟨_,kc⟩:=sk (Ek n k)
 obtain ⟨_,ko⟩:=sk (Ej n k)
 unfold G94
 rw [ah,s96 (n+2) a b c o ha hb hc ho]
 cases a<;>cases b<;>cases c<;>cases o<;>try simp only [T7] at ha hb hc ho
 all_goals
  simp only [Option.isSome_none,Option.isSome_some,GL,↓ab,↓cI,lv9,lv5]
  simp (disch:=first | exact ha | exact hb | exact hc | exact ho) only [ah,s97n,s99n,JU,JT,ka,kb,kc,ko,ab,ac,ag,aN,b9,aI,aR,T6,ao,bL,gp,gO,bR]
  rfl
end
section
def aQ (ok ps fs:Bool) (p f:Int) (ds:List Int):Int:=if ok=false then 34 else if ps=true∧¬ (1≤p∧p≤999) then 35 else if fs=true∧¬ (1≤f∧f≤99) then 36 else if (ds.any fun d=>!decide (0≤d∧d≤4166))=true then 6 else 0
def df (e:Int) (d:D):aq:=if e=0 then some (0,[.d d,.d (il 0)]) else some (0,[.d (.lit (.pointer none)),.d (il e)])
theorem s73 (n:Nat) (p f:Int) (ps fs:Bool) (a b c:Option (List E9)) (o:Option (List E5)) (ds:List Int) (k:Int) (hds:ds.length≤100) (ha:(a.getD []).length*72≤140737488351232) (hb:(b.getD []).length*72≤140737488351232) (hc:(c.getD []).length*72≤140737488351232) (ho:(o.getD []).length*40≤140737488351232) :
  FN (n+10) 73 [il p,il f,bl ps,bl fs,d9 a,d9 b,d9 c,d5 o,dI (some (ds++[k]))]=df (aQ (aA a b c o) ps fs p f (ds++[k])) (an (bo k a) (bo k b) (bo k c) (f7 k o)):=by
 rw [FS,NE]
 have hany:=s154 (n+6) (some (ds++[k])) (by simp;omega) (.fn 155 []) _ (fun e _=>d155 (n+3) e)
 have hlast:∀ q:List D→aq,(RP (n+9)).rowD 1 (dI (some (ds++[k]))) (il (IntKind.i64.wrap (((ds++[k]).length:Int) - 1))) q=q (rI k):=by
  intro q
  rw [show IntKind.i64.wrap (((ds++[k]).length:Int) - 1)=((ds.length:Nat):Int) by rw [aE (by rw [Tp,Wt];omega) (by rw [Tp,Wt];omega)];simp]
  exact cQ (by simp) q
 have h56:=s56 n a b c o ha hb hc ho
 cases hq:aA a b c o with
 | false =>
  rw [hq,T5 (by decide)] at h56
  simp only [G73,ah,h56,ab,ac,ae,aL,aa,ao,Ds,LA,aP,gp,hany,cA,T7,br,hlast,rI,ak,s94 (n+4) k a b c o ha hb hc ho,aK,ag,eJ]
  simp [df,aQ];rfl
 | true =>
  rw [hq,T1 rfl] at h56
  simp only [G73,ah,h56,ab,ac,ae,aL,aa,ao,Ds,LA,aP,gp,hany,cA,T7,br,hlast,rI,ak,s94 (n+4) k a b c o ha hb hc ho,aK,ag,eJ,X5,Tx,Tk,T0,T9]
  cases ps with
  | false =>
   simp only [T0,T9]
   cases fs with
   | false =>
    simp only [T0,T9]
    by_cases h:((ds++[k]).any fun d=>!decide (0≤d∧d≤4166))=true
    ·simp only [h,T6,df,aQ,Vq,T9,Xn,T0];rfl
    ·simp only [h,T9,df,aQ,Vq,Xn,T0,T6]
   | true =>
    simp only [T6]
    by_cases hf:1≤f∧f≤99
    ·simp only [hf,Vr,T8,Tu,T0,T9]
     by_cases h:((ds++[k]).any fun d=>!decide (0≤d∧d≤4166))=true
     ·simp only [h,T6,df,aQ,Vq,T9,Xn,T0,hf,Vr,Xy,W5];rfl
     ·simp only [h,T9,df,aQ,Vq,Xn,T0,T6,hf,Vr,Xy,W5]
    ·simp only [hf,Tk,V1,T6,df,aQ,Vq,T9,Xn,T0,Xf,Vr];rfl
  | true =>
   simp only [T6]
   by_cases hp:1≤p∧p≤999
   ·simp only [hp,Vr,T8,Tu,T0,T9]
    cases fs with
    | false =>
     simp only [T0,T9]
     by_cases h:((ds++[k]).any fun d=>!decide (0≤d∧d≤4166))=true
     ·simp only [h,T6,df,aQ,Vq,T9,Xn,T0,hp,Vr,Xy,W5];rfl
     ·simp only [h,T9,df,aQ,Vq,Xn,T0,T6,hp,Vr,Xy,W5]
    | true =>
     simp only [T6]
     by_cases hf:1≤f∧f≤99
     ·simp only [hf,Vr,T8,Tu,T0,T9]
      by_cases h:((ds++[k]).any fun d=>!decide (0≤d∧d≤4166))=true
      ·simp only [h,T6,df,aQ,Vq,T9,hp,hf,Vr,Xy,W5];rfl
      ·simp only [h,T9,df,aQ,Vq,T0,T6,hp,hf,Vr,Xy,W5]
     ·simp only [hp,hf,Tk,V1,T6,df,aQ,Vq,T9,Xf,Vr,Xy,W5];rfl
   ·simp only [hp,Tk,V1,T6,df,aQ,Vq,T9,Xf,Vr];rfl
theorem s72 (n:Nat) (p:Int):FN (n+1) 72 [il p]=some (0,[.d (il p),.d (il 0),.d (bl true),.d (bl false)]):=by
 rw [FS,NF];simp [G72]
theorem s79 (n:Nat) (f:Int):FN (n+1) 79 [il f]=some (0,[.d (il 0),.d (il f),.d (bl false),.d (bl true)]):=by
 rw [FS,NA];simp [G79]
theorem s77 (n:Nat) (p f d k:Int) (ps fs:Bool):FN (n+1) 77 [il p,il f,il d,il k,bl ps,bl fs]=some (0,[.d (il (if ps then p else 1)),.d (il (if fs then f else 1)),.d (il d),.d (il k)]):=by
 rw [FS,NC];cases ps<;>cases fs<;>simp [G77]
def pf (e:Int):List Yr:=[.d (d9 none),.d (d9 none),.d (d9 none),.d (d5 none),.d (il e)]
theorem s76 (n:Nat) (p f d k:Int) (a b c:Option (List E9)) (o:Option (List E5)) (ha:(a.getD []).length*72≤140737488351232) (hb:(b.getD []).length*72≤140737488351232) (hc:(c.getD []).length*72≤140737488351232) (ho:(o.getD []).length*40≤140737488351232) :
  FN (n+6) 76 [d9 a,d9 b,d9 c,d5 o,il p,il f,il d,il k]=if aQ (aA a b c o) true true p f [d,k]=0 then some (0,[.d (d9 (bx (au k (a.getD [])))),.d (d9 (bx (au k (b.getD [])))),.d (d9 (bx (au k (c.getD [])))),.d (d5 (bx (dj k (o.getD [])))),.d (il 0)]) else some (0,pf (aQ (aA a b c o) true true p f [d,k])):=by
 rw [FS,ND]
 have h24:=s24 n a b c o
 cases hq:aA a b c o with
 | false =>
  rw [hq,T5 (by decide)] at h24
  simp only [G76,ah,h24,ab,ac,ag,ae,aL,aa,ao,s65,s26,s25,aP,s43 (n+3) k a b c o ha hb hc ho]
  simp [aQ,pf];exact ⟨rfl,rfl⟩
 | true =>
  rw [hq,T1 rfl] at h24
  simp only [G76,ah,h24,ab,ac,ag,ae,aL,aa,ao,s65,s26,s25,aP,s43 (n+3) k a b c o ha hb hc ho,X5,Tx,Tk,T0,T9]
  by_cases h1:1≤p∧p≤999
  ·by_cases h2:1≤f∧f≤99
   ·by_cases h3:0≤d∧d≤4166
    ·by_cases h4:0≤k∧k≤4166
     ·simp [aQ,h1,h2,h3,h4]
     ·simp [aQ,h1,h2,h3,h4,pf];exact ⟨rfl,rfl⟩
    ·simp [aQ,h1,h2,h3,pf];exact ⟨rfl,rfl⟩
   ·simp [aQ,h1,h2,pf];exact ⟨rfl,rfl⟩
  ·simp [aQ,h1,pf];exact ⟨rfl,rfl⟩
end
section
def ins (x:Int):List Int→List Int
 | []=>[x]
 | y::r=>if x < y then x::y::r else if x=y then y::r else y::ins x r
abbrev Up (l:List Int):Prop:=l.Pairwise (· < ·)
def lb (x:Int):List Int→Nat
 | []=>0
 | y::r=>if y < x then lb x r+1 else 0
theorem Ay (x:Int):∀ l:List Int,lb x l≤l.length
 | []=>Tf _
 | y::r=>by
  simp only [lb];split
  ·have:=Ay x r;simp;omega
  ·simp
theorem K4 (x:Int):∀ {l:List Int} {i:Nat} {y:Int},i < lb x l→l[i]?=some y→y < x
 | [],i,y,h,_=>by simp [lb] at h
 | z::r,i,y,h,hi=>by
  simp only [lb] at h
  split at h
  ·rename_i hz
   cases i with
   | zero=>simp at hi;subst hi;exact hz
   | succ i=>exact K4 x (l:=r) (i:=i) (by omega) (by simpa using hi)
  ·omega
theorem K5 (x:Int):∀ {l:List Int} {i:Nat} {y:Int},Up l→lb x l≤i→l[i]?=some y→x≤y
 | [],i,y,_,_,hi=>by simp at hi
 | z::r,i,y,hu,h,hi=>by
  rw [Up,Vy] at hu
  simp only [lb] at h
  split at h
  ·cases i with
   | zero=>omega
   | succ i=>exact K5 x (l:=r) (i:=i) hu.2 (by omega) (by simpa using hi)
  ·rename_i hz
   cases i with
   | zero=>simp at hi;omega
   | succ i =>
    have:=hu.1 y (Vb (by simpa using hi))
    omega
theorem Es (x:Int):∀ {l:List Int},Up l→ins x l=if l[lb x l]?=some x then l else l.take (lb x l)++x::l.drop (lb x l)
 | [],_=>rfl
 | y::r,hu=>by
  rw [Up,Vy] at hu
  simp only [ins]
  by_cases h1:x < y
  ·have h0:lb x (y::r)=0:=by simp only [lb];rw [T5 (by omega)]
   rw [T1 h1]
   simp only [h0,Vj,T3,Tq,Y0,V5]
   rw [T5 (by omega)]
  ·rw [T5 h1]
   by_cases h2:x=y
   ·have h0:lb x (y::r)=0:=by simp only [lb];rw [T5 (by omega)]
    rw [T1 h2]
    simp only [h0,Vj,T3]
    rw [T1 h2.symm]
   ·have h0:lb x (y::r)=lb x r+1:=by simp only [lb];rw [T1 (by omega)]
    rw [T5 h2,Es x hu.2]
    simp only [h0,Xk,Tg,List.drop_succ_cons,Tr]
    split<;>rfl
theorem fI (x z:Int):∀ l:List Int,z∈ins x l↔z=x∨z∈l
 | []=>by simp [ins]
 | y::r=>by
  simp only [ins]
  split
  ·simp
  ·split
   ·rename_i h;subst h;simp
   ·simp only [Ti,fI x z r]
    constructor
    ·rintro (h | h | h)
     ·exact .inr (.inl h)
     ·exact .inl h
     ·exact .inr (.inr h)
    ·rintro (h | h | h)
     ·exact .inr (.inl h)
     ·exact .inl h
     ·exact .inr (.inr h)
theorem gc (x:Int):∀ {l:List Int},Up l→Up (ins x l)
 | [],_=>by simp [ins]
 | y::r,hu=>by
  have hu':=hu
  rw [Up,Vy] at hu
  simp only [ins]
  split
  ·rename_i h
   rw [Up,Vy]
   refine ⟨fun z hz=>?_,hu'⟩
   rcases Ti.1 hz with rfl | hz
   ·exact h
   ·have:=hu.1 z hz;omega
  ·split
   ·exact hu'
   ·rw [Up,Vy]
    refine ⟨fun z hz=>?_,gc x hu.2⟩
    rcases (fI x z r).1 hz with rfl | hz
    ·omega
    ·exact hu.1 z hz
theorem tt:∀ {l m:List Int},Up l→Up m→(∀ z,z∈l↔z∈m)→l=m
 | [],[],_,_,_=>rfl
 | [],y::r,_,_,h=>by have:=(h y).2 (by simp);simp at this
 | y::r,[],_,_,h=>by have:=(h y).1 (by simp);simp at this
 | x::l,y::m,hl,hm,h=>by
  rw [Up,Vy] at hl hm
  have e:x=y:=by
   have h1:=(h x).1 (by simp)
   have h2:=(h y).2 (by simp)
   rcases Ti.1 h1 with e | h1
   ·exact e
   ·rcases Ti.1 h2 with e | h2
    ·exact e.symm
    ·have:=hl.1 y h2;have:=hm.1 x h1;omega
  subst e
  congr 1
  refine tt hl.2 hm.2 fun z=>?_
  constructor
  ·intro hz
   rcases Ti.1 ((h z).1 (by simp [hz])) with e | h1
   ·have:=hl.1 z hz;omega
   ·exact h1
  ·intro hz
   rcases Ti.1 ((h z).2 (by simp [hz])) with e | h1
   ·have:=hm.1 z hz;omega
   ·exact h1
end
section
theorem Lb {x:Int} (h1:0≤x) (h2:x < 18446744073709551616):IntKind.u64.wrap x=x:=by
 have hb:(2:Int) ^ IntKind.u64.bits=18446744073709551616:=by decide
 have hs:IntKind.u64.signed=false:=rfl
 unfold IntKind.wrap
 simp only [hb,hs]
 have:x % 18446744073709551616=x:=Int.emod_eq_of_lt h1 h2
 simp [this]
section
variable {Fn:Nat→List D→aq} {FnD:D→List Sh→List D→aq} {m:Nat}
theorem r_mid (i j:Nat) (h:i+j≤9223372036854775807) (k:D→aq):((af Fn FnD m).cvI .u64 (il ((i:Int)+(j:Int))) fun x4=>(af Fn FnD m).bin .shr false x4 ((af Fn FnD m).lit (.int .u64 (1))) fun x5=>(af Fn FnD m).cvI .i64 x5 k)=k (il (((i+j) / 2:Nat):Int)):=by
 have e1:IntKind.u64.wrap ((i:Int)+(j:Int))=((i+j:Nat):Int):=by rw [Lb (by omega) (by omega)];simp
 have e2:((i+j:Nat):Int).fdiv (2 ^ (min (1:Int).toNat IntKind.u64.bits))=(((i+j) / 2:Nat):Int):=by
  have:(min (1:Int).toNat IntKind.u64.bits)=1:=by decide
  rw [this]
  rw [Int.fdiv_eq_ediv_of_nonneg _ (by decide)]
  omega
 have e3:IntKind.i64.wrap (((i+j) / 2:Nat):Int)=(((i+j) / 2:Nat):Int):=aE (by omega) (by omega)
 show (af Fn FnD m).bin .shr false (.lit (.int .u64 (IntKind.u64.wrap ((i:Int)+(j:Int))))) (.lit (.int .u64 1)) (fun x5=>(af Fn FnD m).cvI .i64 x5 k)=_
 rw [e1]
 show tN (wR .shr false (.lit (.int .u64 ((i+j:Nat):Int))) (.lit (.int .u64 1))) (fun x5=>(af Fn FnD m).cvI .i64 x5 k)=_
 have e4:wR .shr false (.lit (.int .u64 ((i+j:Nat):Int))) (.lit (.int .u64 1))=some (.lit (.int .u64 (((i+j) / 2:Nat):Int))):=by
  simp only [wR,Fc]
  rw [T5 (by decide),e2]
  rfl
 rw [e4]
 show k (.lit (.int .i64 (IntKind.i64.wrap (((i+j) / 2:Nat):Int))))=_
 rw [e3]
 rfl
end
theorem s187 (n:Nat) (x:Int):FN (n+1) 187 [il x]=some (0,[.d (bl false)]):=by rw [FS,HU];simp [G187]
theorem s211 (n:Nat) (x:Int):FN (n+1) 211 [il x]=some (0,[.d (bl false)]):=by rw [FS,HA];simp [G211]
theorem s210 (n:Nat) (x y:Int):FN (n+2) 210 [il x,il y]=some (0,[.d (bl (decide (x < y)))]):=by
 rw [FS,HB];simp [G210,s187]
theorem l158 (n:Nat) (o:Option (List Int)) (x:Int) (hl:(o.getD []).length≤4611686018427387904) (hu:Up (o.getD [])) :
  ax [r4 (RP (n+2))] M0 0 [dI o,il x,il (o.getD []).length,il 0,il (o.getD []).length]=some (0,[.d (dI o),.d (il x),.d (il (o.getD []).length),.d (il (lb x (o.getD []):Nat))]):=by
 have:=e9 (σ:=Nat×Nat) [r4 (RP (n+2))] (fun s=>(0,[.d (dI o),.d (il x),.d (il (o.getD []).length),.d (il s.1),.d (il s.2)])) (fun s=>s.2 - s.1) (fun s=>s.1≤lb x (o.getD [])∧lb x (o.getD [])≤s.2∧s.2≤(o.getD []).length)
  (fun _=>some (0,[.d (dI o),.d (il x),.d (il (o.getD []).length),.d (il (lb x (o.getD []):Nat))])) ?_ M0 (0,(o.getD []).length) ⟨Y5 _,Ay _ _,Tf _⟩ (by have:=cj hl;unfold M0;simp only;omega)
 ·exact this
 ·rintro ⟨i,j⟩ k ⟨h1,h2,h3⟩ ih
  simp only at h1 h2 h3 ih ⊢
  refine ⟨r4 (RP (n+2)),rfl,?_⟩
  simp only [r4,ac,ag,aC,aa,ay]
  by_cases hij:i < j
  ·rw [T1 (by simp;omega),aE (by omega) (by omega),r_mid i j (by omega)]
   have hh:(i+j) / 2 < (o.getD []).length:=by omega
   have hc:(o.getD [])[(i+j) / 2]?=some ((o.getD [])[(i+j) / 2]'hh):=Tc hh
   rw [cQ hc]
   simp only [rI,ak,ah,s210,ab,ac,aa,T4,ae,ay]
   by_cases hx:(o.getD [])[(i+j) / 2]'hh < x
   ·rw [T1 hx]
    have hlb:(i+j) / 2 < lb x (o.getD []):=by
     refine Nat.lt_of_not_le fun hle=>?_
     have:=K5 x hu hle hc
     omega
    rw [show IntKind.i64.wrap ((((i+j) / 2:Nat):Int)+1)=(((i+j) / 2+1:Nat):Int) by rw [aE (by omega) (by omega)];simp]
    exact ih ((i+j) / 2+1,j) ⟨hlb,h2,h3⟩ (by simp only;omega)
   ·rw [T5 hx]
    have hlb:lb x (o.getD [])≤(i+j) / 2:=by
     refine Nat.le_of_not_lt fun hlt=>?_
     have:=K4 x hlt hc
     omega
    exact ih (i,(i+j) / 2) ⟨h1,hlb,by omega⟩ (by simp only;omega)
  ·rw [T5 (by simp;omega),ao]
   rw [show i=lb x (o.getD []) by omega]
theorem s158 (n:Nat) (o:Option (List Int)) (x:Int) (hl:(o.getD []).length≤4611686018427387904) (hu:Up (o.getD [])):FN (n+3) 158 [dI o,il x]=some (0,[.d (il (lb x (o.getD []):Nat)),.d (bl (decide ((o.getD [])[lb x (o.getD [])]?=some x)))]):=by
 rw [FS,If]
 simp only [G158,cA,ae,aD,l158 n o x hl hu,ab,ac,ag,aC,aa,T4]
 by_cases h:lb x (o.getD []) < (o.getD []).length
 ·have hc:(o.getD [])[lb x (o.getD [])]?=some ((o.getD [])[lb x (o.getD [])]'h):=Tc h
  rw [T1 (by omega),cQ hc]
  simp only [rI,ak,aV,aa,T4,aK,ao]
  rw [hc]
  by_cases he:(o.getD [])[lb x (o.getD [])]'h=x
  ·simp [he]
  ·rw [T5 he,cQ hc]
   simp [rI,s211,he]
 ·have hn:(o.getD [])[lb x (o.getD [])]?=none:=Ve (by omega)
  rw [T5 (by omega),hn]
  simp
end
section
section
variable {Fn:Nat→List D→aq} {FnD:D→List Sh→List D→aq} {m:Nat}
theorem JZ (z:Nat) (rows new:Rr) (k:Rr→aq) (h:z≤rows.length):(af Fn FnD m).ins (il z) rows new k=k (rows.take z++new++rows.drop z):=by
 show (if 0≤(z:Int)∧(z:Int).toNat≤rows.length then k (rows.take (z:Int).toNat++new++rows.drop (z:Int).toNat) else none)=_
 rw [V0,T1 ⟨by omega,h⟩]
end
theorem fJ (x:Int):∀ l:List Int,(ins x l).length≤l.length+1
 | []=>by simp [ins]
 | y::r=>by
  simp only [ins]
  split
  ·simp
  ·split
   ·simp
   ·have:=fJ x r;simp;omega
theorem cG (n:Nat) (l:List Int) (x:Int) (hl:l.length≤1000000000000) (hu:Up l):FN (n+4) 1000075 [.sl 1 (l.map rI),il x]=some (0,[.d (.sl 1 ((ins x l).map rI))]):=by
 rw [FS,xQ]
 have hb:=s158 n (some l) x (by simp;omega) hu
 simp only [dI,Th,dR,T7] at hb
 have hlen:(l.map rI).take (l.map rI).length=l.map rI:=Vf
 simp only [xR,bR,aI,aR,T6,aU,bL,hlen,ah,hb,ab,ac,ag,e7,Vi,Wg,rN,D4,Wj,aa,T4,ao]
 rw [Es x hu]
 by_cases h:l[lb x l]?=some x
 ·rw [T1 h,T1 h]
 ·rw [T5 h,T5 h]
  have hle:lb x l≤(l.map rI).length:=by rw [Tj];exact Ay x l
  have h1:(l.map rI).length=l.length:=Tj _
  simp only [bj,aM,Tb,Td,Tg,Tq,bT,bc,bV]
  simp only [T6]
  rw [JZ _ _ _ _ hle]
  have h2:((l.map rI).take (lb x l)++[[il x]]++(l.map rI).drop (lb x l))=(l.take (lb x l)++x::l.drop (lb x l)).map rI:=by
   simp [rI,Wi,List.map_drop]
  have h3:(l.map rI).length+(0+1)=((l.take (lb x l)++x::l.drop (lb x l)).map rI).length:=by
   have:=Ay x l
   simp;omega
  rw [h2]
  simp only [h3,T6]
  rw [T1 (by rw [←h3,h1];omega)]
theorem tS (x:Int) (n:Nat):FN (n+3) 158 [.lit (.slice none 0 0),il x]=some (0,[.d (il (0:Int)),.d (bl false)]):=by
 have:=s158 n none x (by simp) (by simp)
 simpa [dI,dR,lb] using this
end
section
def pu (x:Int) (d:Bool):List Int→List Int
 | []=>if d then [] else [x]
 | y::r=>(if x≤y∧d=false then [x] else [])++((if y≠x then [y] else [])++pu x (d||decide (x≤y)) r)
theorem tL (x:Int):∀ {r:List Int},(∀ y∈r,x < y)→pu x true r=r
 | [],_=>rfl
 | y::r,h=>by
  have:=h y (by simp)
  simp only [pu,Bool.true_or]
  rw [T5 (by simp),T1 (by omega),tL x fun z hz=>h z (by simp [hz])]
  rfl
theorem DN (x:Int):∀ {l:List Int},Up l→pu x false l=ins x l
 | [],_=>rfl
 | y::r,hu=>by
  rw [Up,Vy] at hu
  simp only [pu,ins,W8]
  by_cases h1:x < y
  ·rw [T1 ⟨by omega,trivial⟩,T1 (by omega:y≠x),T1 h1,Xa (by omega:x≤y),tL x fun z hz=>by have:=hu.1 z hz;omega]
   rfl
  ·by_cases h2:x=y
   ·subst h2
    rw [T1 ⟨by omega,trivial⟩,T5 (by simp),T5 h1,T1 rfl,Xa (by omega:x≤x),tL x fun z hz=>hu.1 z hz]
    rfl
   ·rw [T5 (by omega),T1 (by omega:y≠x),T5 h1,T5 h2,decide_eq_false (by omega:¬ x≤y),DN x hu.2]
    rfl
def yh (o:Option (List Int)) (x:Int) (acc:List Int) (d:Bool) (i:Nat):List Yr:=[.d (dI o),.d (il x),.n acc.length,.n acc.length,.d (bl d),.d (il i),.r (acc.map rI)]
def st0 (o:Option (List Int)) (x:Int) (d:Bool) (i:Nat):List Yr:=[.d (dI o),.d (il x),.d (bl d),.d (il i)]
theorem b92_0 (n:Nat) (o:Option (List Int)) (x y:Int) (d:Bool) (i:Nat) (k:Nat→List Yr→aq) (hi:(o.getD [])[i]?=some y) (hlt:(i:Int) < ((o.getD []).length:Int)) (hw:IntKind.i64.wrap ((i:Int)+1)=((i+1:Nat):Int)) :
  lK (RP n) k (st0 o x d i)=if x≤y∧d=false then (if y=x then k 2 (yh o x [x] true (i+1)) else k 2 (yh o x [x,y] true (i+1))) else (if y=x then k 0 (st0 o x d (i+1)) else k 1 (yh o x [y] d (i+1))):=by
 simp only [st0,yh,lK,ac,ag,cA,aC,aa,hlt,T8,T6,cQ hi,rI,ak,bQ,aP,T4]
 by_cases h1:x≤y<;>cases d<;>by_cases h2:y=x<;>simp [h1,h2,cQ hi,rI,hw]
 all_goals (subst h2;simp [cQ hi,rI,hw] at *)
theorem b92_1 (n:Nat) (o:Option (List Int)) (x y:Int) (acc:List Int) (d:Bool) (i:Nat) (k:Nat→List Yr→aq) (ha:acc.length≤1000000000000) (hi:(o.getD [])[i]?=some y) (hlt:(i:Int) < ((o.getD []).length:Int)) (hw:IntKind.i64.wrap ((i:Int)+1)=((i+1:Nat):Int)) :
  lJ (RP n) k (yh o x acc d i)=k 1 (yh o x (acc++((if x≤y∧d=false then [x] else [])++(if y≠x then [y] else []))) (d||decide (x≤y)) (i+1)):=by
 have f1:(acc.length+1)*8≤140737488355328∧acc.length+1≤9223372036854775807:=by omega
 have f2:(acc.length+1+1)*8≤140737488355328∧acc.length+1+1≤9223372036854775807:=by omega
 simp only [yh,lJ,ac,ag,b8,aZ,aN,b9,cA,aC,aa,hlt,T8,T6,cQ hi,rI,ak,bQ,aP,T4]
 by_cases h1:x≤y<;>cases d<;>by_cases h2:y=x<;>simp [h1,h2,cQ hi,rI,hw,f1,f2]
 all_goals (intros;omega)
theorem b92_2 (n:Nat) (o:Option (List Int)) (x y:Int) (acc:List Int) (d:Bool) (i:Nat) (k:Nat→List Yr→aq) (ha:acc.length≤1000000000000) (hi:(o.getD [])[i]?=some y) (hlt:(i:Int) < ((o.getD []).length:Int)) (hw:IntKind.i64.wrap ((i:Int)+1)=((i+1:Nat):Int)) :
  lI (RP n) k (yh o x acc d i)=k 2 (yh o x (acc++((if x≤y∧d=false then [x] else [])++(if y≠x then [y] else []))) (d||decide (x≤y)) (i+1)):=by
 have f1:(acc.length+1)*8≤140737488355328∧acc.length+1≤9223372036854775807:=by omega
 have f2:(acc.length+1+1)*8≤140737488355328∧acc.length+1+1≤9223372036854775807:=by omega
 simp only [yh,lI,ac,ag,b8,aZ,aN,b9,cA,aC,aa,hlt,T8,T6,cQ hi,rI,ak,bQ,aP,T4]
 by_cases h1:x≤y<;>cases d<;>by_cases h2:y=x<;>simp [h1,h2,cQ hi,rI,hw,f1,f2]
 all_goals (intros;omega)
theorem ex92 (n:Nat) (o:Option (List Int)) (x:Int) (acc:List Int) (d:Bool) (k:Nat→List Yr→aq) :
  lK (RP n) k (st0 o x d (o.getD []).length)=some (0,[.d (il x),.d (bl d)])∧lJ (RP n) k (yh o x acc d (o.getD []).length)=some (1,[.d (il x),.n acc.length,.n acc.length,.d (bl d),.r (acc.map rI)])∧lI (RP n) k (yh o x acc d (o.getD []).length)=some (2,[.d (il x),.n acc.length,.n acc.length,.d (bl d),.r (acc.map rI)]):=by
 refine ⟨?_,?_,?_⟩
 ·simp [lK,st0,cA]
 ·simp [lJ,yh,cA]
 ·simp [lI,yh,cA]
theorem l92 (n:Nat) (o:Option (List Int)) (x:Int) (hl:(o.getD []).length≤100000000000) (T:List Int) (hT:T=pu x false (o.getD [])) :
  ∃ d acc,acc++(if d=true then [] else [x])=T∧acc.length≤1000000000000∧((acc=[]∧ax [lK (RP n),lJ (RP n),lI (RP n)] M0 0 (st0 o x false 0)=some (0,[.d (il x),.d (bl d)]))∨(∃ w,(w=1∨w=2)∧ax [lK (RP n),lJ (RP n),lI (RP n)] M0 0 (st0 o x false 0)=some (w,[.d (il x),.n acc.length,.n acc.length,.d (bl d),.r (acc.map rI)]))):=by
 have:=eZ (σ:=Nat×Nat×Bool×List Int) [lK (RP n),lJ (RP n),lI (RP n)] (fun s=>(s.1,if s.1=0 then st0 o x s.2.2.1 s.2.1 else yh o x s.2.2.2 s.2.2.1 s.2.1)) (fun s=>(o.getD []).length - s.2.1)
  (fun s=>s.1≤2∧(s.1=0→s.2.2.2=[])∧s.2.1≤(o.getD []).length∧s.2.2.2.length≤2*s.2.1∧s.2.2.2++pu x s.2.2.1 ((o.getD []).drop s.2.1)=T)
  (fun r=>∃ d acc,acc++(if d=true then [] else [x])=T∧acc.length≤1000000000000∧((acc=[]∧r=some (0,[.d (il x),.d (bl d)]))∨(∃ w,(w=1∨w=2)∧r=some (w,[.d (il x),.n acc.length,.n acc.length,.d (bl d),.r (acc.map rI)])))) ?_ M0 (0,0,false,[]) ⟨by simp,fun _=>rfl,Y5 _,by simp,by simpa using hT.symm⟩ (by unfold M0;simp only;omega)
 ·exact this
 ·rintro ⟨w,i,d,acc⟩ k ⟨g1,g2,g3,g4,g5⟩ ih
  simp only at g1 g2 g3 g4 g5 ih ⊢
  by_cases hi:i < (o.getD []).length
  ·obtain ⟨y,hy⟩:∃ y,(o.getD [])[i]?=some y:=⟨_,Tc hi⟩
   have hd:(o.getD []).drop i=y::(o.getD []).drop (i+1):=by
    rw [Vt hi]
    congr 1
    rw [Tc hi] at hy
    exact Option.some.inj hy
   rw [hd,pu] at g5
   have hlt:(i:Int) < ((o.getD []).length:Int):=by omega
   have hw:IntKind.i64.wrap ((i:Int)+1)=((i+1:Nat):Int):=by rw [aE (by omega) (by omega)];simp
   match w,g1 with
   | 0,_ =>
    refine ⟨lK (RP n),rfl,?_⟩
    have hacc:=g2 rfl
    subst hacc
    simp only [T6]
    rw [b92_0 n o x y d i k hy hlt hw]
    by_cases h1:x≤y∧d=false
    ·obtain ⟨h1,rfl⟩:=h1
     by_cases h2:y=x
     ·rw [T1 ⟨h1,rfl⟩,T1 h2]
      exact ih (2,i+1,true,[x]) ⟨by simp,by simp,hi,by simp;omega,by simpa [h1,h2] using g5⟩ (by simp only;omega)
     ·rw [T1 ⟨h1,rfl⟩,T5 h2]
      exact ih (2,i+1,true,[x,y]) ⟨by simp,by simp,hi,by simp;omega,by simpa [h1,h2] using g5⟩ (by simp only;omega)
    ·have hdd:(d||decide (x≤y))=d:=by
      cases d with
      | true=>rfl
      | false=>simp at h1;simp;omega
     rw [hdd,T5 h1] at g5
     by_cases h2:y=x
     ·rw [T5 h1,T1 h2]
      exact ih (0,i+1,d,[]) ⟨by simp,by simp,hi,by simp,by simpa [h2] using g5⟩ (by simp only;omega)
     ·rw [T5 h1,T5 h2]
      exact ih (1,i+1,d,[y]) ⟨by simp,by simp,hi,by simp;omega,by simpa [h2] using g5⟩ (by simp only;omega)
   | 1,_ =>
    refine ⟨lJ (RP n),rfl,?_⟩
    simp only [Nat.one_ne_zero,T9]
    rw [b92_1 n o x y acc d i k (by omega) hy hlt hw]
    refine ih (1,i+1,(d||decide (x≤y)),acc++((if x≤y∧d=false then [x] else [])++(if y≠x then [y] else []))) ⟨by simp,by simp,hi,?_,by simp only;rw [To,To];exact g5⟩ (by simp only;omega)
    simp only [Tp]
    split<;>split<;>simp<;>omega
   | 2,_ =>
    refine ⟨lI (RP n),rfl,?_⟩
    simp only [show ¬ ((2:Nat)=0) by decide,T9]
    rw [b92_2 n o x y acc d i k (by omega) hy hlt hw]
    refine ih (2,i+1,(d||decide (x≤y)),acc++((if x≤y∧d=false then [x] else [])++(if y≠x then [y] else []))) ⟨by simp,by simp,hi,?_,by simp only;rw [To,To];exact g5⟩ (by simp only;omega)
    simp only [Tp]
    split<;>split<;>simp<;>omega
  ·have hil:i=(o.getD []).length:=by omega
   subst hil
   obtain ⟨e0,e1,e2⟩:=ex92 n o x acc d k
   rw [Vp,pu] at g5
   match w,g1 with
   | 0,_=>exact ⟨lK (RP n),rfl,d,[],by rw [←g5,g2 rfl],by simp,.inl ⟨rfl,e0⟩⟩
   | 1,_=>exact ⟨lJ (RP n),rfl,d,acc,g5,by omega,.inr ⟨1,.inl rfl,e1⟩⟩
   | 2,_=>exact ⟨lI (RP n),rfl,d,acc,g5,by omega,.inr ⟨2,.inr rfl,e2⟩⟩
theorem Fq (n:Nat) (o:Option (List Int)) (x:Int) (hl:(o.getD []).length≤100000000000) (hu:Up (o.getD [])):FN (n+1) 92 [dI o,il x]=some (0,[.d (dI (some (ins x (o.getD []))))]):=by
 rw [FS,No]
 obtain ⟨d,acc,h1,h2,h3⟩:=l92 n o x hl _ rfl
 rw [DN x hu] at h1
 have f1:(acc.length+1)*8≤140737488355328∧acc.length+1≤9223372036854775807:=by omega
 simp only [st0,V9] at h3
 simp only [G92,aD,ae,aK]
 rcases h3 with ⟨rfl,h3⟩ | ⟨w,hw,h3⟩
 ·rw [h3]
  cases d with
  | true =>
   exfalso
   have:x∈ins x (o.getD []):=(fI x x _).2 (.inl rfl)
   rw [←h1] at this
   simp at this
  | false=>rw [←h1];simp [dI,dR,rI]
 ·rw [h3]
  rcases hw with rfl | rfl
  ·cases d with
   | false=>rw [←h1];simp [dI,dR,rI,f1];exact ⟨by omega,Vc (by simp)⟩
   | true=>rw [←h1];simp [dI,dR];exact Vc (by simp)
  ·cases d with
   | false=>rw [←h1];simp [dI,dR,rI,f1];exact ⟨by omega,Vc (by simp)⟩
   | true=>rw [←h1];simp [dI,dR];exact Vc (by simp)
end
section
theorem s41 (n:Nat) (o:Option (List Int)) (x:Int) (hl:(o.getD []).length≤4611686018427387904):FN (n+1) 41 [dI o,il x]=some (0,[.d (bl (decide (x∈o.getD [])))]):=by
 rw [FS,O2]
 simp only [G41,ae,aD]
 have:=be (β:=Unit) (o.getD []) hl (Bv (RP n)) (fun i _=>[.d (dI o),.d (il x),.d (il i)]) (fun _ _=>True)
  (fun _ r _=>if x∈r then some (0,[.d (bl true)]) else some (1,[]))
  (fun _ k _=>by simp [Bv,cA]) ?_ M0 () trivial (cj hl)
 ·simp only [V9] at this
  rw [this]
  by_cases h:x∈o.getD []<;>simp [h]
 ·intro i e r _ k hi hd hlt hw _ ih
  have ih':=ih () trivial
  have hlt':(i:Int) < ((o.getD []).length:Int):=by omega
  simp only [Bv,ac,ag,cA,aC,aa,hlt',T8,T6,cQ hi,rI,ak,aV,ae,ay,hw,aK,ao,T4]
  by_cases h:e=x
  ·subst h;simp
  ·rw [T5 h]
   refine Eq.trans ih' ?_
   have:(x∈e::r)↔x∈r:=by
    constructor
    ·intro hx
     rcases Ti.1 hx with hx | hx
     ·exact absurd hx.symm h
     ·exact hx
    ·intro hx;exact Ts _ hx
   by_cases h2:x∈r
   ·rw [T1 h2,T1 (this.2 h2)]
   ·rw [T5 h2,T5 fun hx=>h2 (this.1 hx)]
theorem s22 (n:Nat) (a b:Option (List Int)) (ha:(a.getD []).length≤4611686018427387904):FN (n+1) 22 [dI a,dI b]=some (0,[.d (bl (decide (a.getD []=b.getD [])))]):=by
 rw [FS,Oh]
 simp only [G22,cA,aV,ae,aD]
 have:=be (β:=Bool) (a.getD []) ha (xw (RP n)) (fun i s=>[.d (dI a),.d (dI b),.d (bl s),.d (il i)]) (fun _ s=>s=true→(a.getD []).length=(b.getD []).length)
  (fun i r s=>some (0,[.d (bl (s&&decide (r=(b.getD []).drop i)))]))
  (fun s k hs=>?_) ?_ M0 (decide (((a.getD []).length:Int)=((b.getD []).length:Int))) (fun h=>by have:=Vw h;omega) (cj ha)
 ·simp only [V9,Y0] at this
  rw [this]
  simp only [ab,ac,ao]
  by_cases h:(a.getD []).length=(b.getD []).length
  ·simp [h]
  ·have:¬ (a.getD []=b.getD []):=fun e=>h (by rw [e])
   simp [this]
 ·cases s with
  | false=>simp [xw,cA]
  | true =>
   have:List.drop (a.getD []).length (b.getD [])=[]:=by rw [hs rfl,Vp]
   simp [xw,cA,this]
 ·intro i e r s k hi hd hlt hw hs ih
  have hlt':(i:Int) < ((a.getD []).length:Int):=by omega
  simp only [xw,ac,ag,cA,aC,aa,hlt',T8,T6,ao]
  cases s with
  | false=>simp
  | true =>
   have hlb:i < (b.getD []).length:=by rw [←hs rfl];exact hlt
   have hb:(b.getD [])[i]?=some ((b.getD [])[i]'hlb):=Tc hlb
   have hdb:(b.getD []).drop i=(b.getD [])[i]'hlb::(b.getD []).drop (i+1):=Vt hlb
   simp only [T6,cQ hi,cQ hb,rI,ak,aV,ae,ay,hw]
   refine Eq.trans (ih _ fun _=>hs rfl) ?_
   rw [hdb]
   generalize (b.getD [])[i]'hlb=f
   generalize (b.getD []).drop (i+1)=q
   by_cases h:e=f
   ·subst h;simp
   ·simp [h]
end
section
theorem vm (n:Nat) (a b c:Option (List E9)) (o:Option (List E5)) (i:Nat) (e:E9) (who:Int) (hi:(a.getD [])[i]?=some e):FN (n+1) 157 [il i,an a b c o,il who]=some (0,[.d (bl (decide (e.a=who))),.d (il e.f1),.d (il e.f2),.d (il e.t1),.d (il e.t2),.d (il e.b)]):=by
 rw [FS,Ig]
 simp only [G157,an,cW]
 rw [bP _ 4 _ rfl]
 simp only [ak,ar,ct hi,r9,aV,ao]
theorem G3 (n:Nat) (a b c:Option (List E9)) (o:Option (List E5)) (i:Nat) (e:E9) (who:Int) (hi:(b.getD [])[i]?=some e):FN (n+1) 194 [il i,an a b c o,il who]=some (0,[.d (bl (decide (e.a=who))),.d (il e.f1),.d (il e.f2),.d (il e.t1),.d (il e.t2),.d (il e.b)]):=by
 rw [FS,HP]
 simp only [G194,an,cW]
 rw [bP _ 4 _ rfl]
 simp only [ak,ar,ct hi,r9,aV,ao]
theorem G2 (n:Nat) (a b c:Option (List E9)) (o:Option (List E5)) (i:Nat) (e:E9) (who:Int) (hi:(c.getD [])[i]?=some e):FN (n+1) 195 [il i,an a b c o,il who]=some (0,[.d (bl (decide (e.a=who))),.d (il e.f1),.d (il e.f2),.d (il e.t1),.d (il e.t2),.d (il e.b)]):=by
 rw [FS,HO]
 simp only [G195,an,cW]
 rw [bP _ 4 _ rfl]
 simp only [ak,ar,ct hi,r9,aV,ao]
def aG (d who:Int):List E9→List (Option Int)
 | []=>[none]
 | e::r=>if e.a=who∧bh e.f1 e.t2 d=true then some e.b::(if bq e.f2 e.t1 d=true then [] else aG d who r) else aG d who r
def below (l:List E9) (m:Nat):List E9:=(l.take m).reverse
theorem ib (l:List E9):below l 0=[]:=rfl
theorem fF {l:List E9} {m:Nat} {e:E9} (h:l[m]?=some e):below l (m+1)=e::below l m:=by
 unfold below
 rw [Wn,h]
 simp
def cg (f:Option Int→Int) (acc:List Int) (os:List (Option Int)):List Int:=os.foldl (fun acc o=>ins (f o) acc) acc
theorem nO (f:Option Int→Int):∀ (os:List (Option Int)) {acc:List Int},Up acc→Up (cg f acc os)
 | [],_,h=>h
 | _::os,_,h=>nO f os (gc _ h)
theorem lW (f:Option Int→Int) (z:Int):∀ (os:List (Option Int)) (acc:List Int),z∈cg f acc os↔z∈acc∨∃ o∈os,z=f o
 | [],acc=>by simp [cg]
 | o::os,acc=>by
  show z∈cg f (ins (f o) acc) os↔_
  rw [lW f z os,fI]
  constructor
  ·rintro ((h | h) | ⟨q,hq,h⟩)
   ·exact .inr ⟨o,by simp,h⟩
   ·exact .inl h
   ·exact .inr ⟨q,by simp [hq],h⟩
  ·rintro (h | ⟨q,hq,h⟩)
   ·exact .inl (.inr h)
   ·rcases Ti.1 hq with rfl | hq
    ·exact .inl (.inl h)
    ·exact .inr ⟨q,hq,h⟩
end
section
def f0 (o:Option Int):Int:=o.getD 0
def ER (d who:Int) (kin:D) (m:Nat) (acc:List Int):Nat×List Yr:=match acc with
 | []=>(0,[.d (il d),.d (il ((m:Int) - 1)),.d kin,.d (il who)])
 | y::r=>(1,[.d (il d),.d (il ((m:Int) - 1)),.r ((y::r).map rI),.n (y::r).length,.n (y::r).length,.d kin,.d (il who)])
def Q12 (n:Nat) (who:Int) (kin:D) (T:List Int) (r:aq):Prop :=
 (∃ acc:List Int,acc≠[]∧Up acc∧acc.length≤n∧((r=some (1,[.r (acc.map rI),.n acc.length,.n acc.length,.d kin,.d (il who)])∧acc=T)∨(r=some (3,[.r (acc.map rI),.n acc.length,.n acc.length,.d kin,.d (il who)])∧ins 0 acc=T)))∨(r=some (2,[.d kin,.d (il who)])∧ins 0 []=T)
theorem tJ {Fn:Nat→List D→aq} {FnD:D→List Sh→List D→aq} {m:Nat} (new:Rr) (k:Rr→aq):(af Fn FnD m).ins (il 0) [] new k=k new:=by
 have:=JZ (Fn:=Fn) (FnD:=FnD) (m:=m) 0 [] new k (Tf _)
 simpa using this
theorem md (x:Int) (l:List Int):ins x l≠[]:=fun h=>by
 have:x∈ins x l:=(fI x x l).2 (.inl rfl)
 rw [h] at this;simp at this
theorem l12 (n:Nat) (a b c:Option (List E9)) (o:Option (List E5)) (d who:Int) (hl:(a.getD []).length≤1000000) :
  Q12 (a.getD []).length who (an a b c o) (cg f0 [] (aG d who (below (a.getD []) (a.getD []).length))) (ax [rt (RP (n+4)),rq (RP (n+4))] M0 0 [il d,il (((a.getD []).length:Int) - 1),an a b c o,il who]):=by
 have:=eZ (σ:=Nat×List Int) [rt (RP (n+4)),rq (RP (n+4))] (fun s=>ER d who (an a b c o) s.1 s.2) (fun s=>s.1)
  (fun s=>s.1≤(a.getD []).length∧Up s.2∧s.2.length+s.1≤(a.getD []).length∧cg f0 s.2 (aG d who (below (a.getD []) s.1))=cg f0 [] (aG d who (below (a.getD []) (a.getD []).length)))
  (Q12 (a.getD []).length who (an a b c o) (cg f0 [] (aG d who (below (a.getD []) (a.getD []).length)))) ?_ M0 ((a.getD []).length,[]) ⟨Tf _,by simp,by simp,rfl⟩ (by unfold M0;simp only;omega)
 ·exact this
 ·generalize cg f0 [] (aG d who (below (a.getD []) (a.getD []).length))=T
  rintro ⟨m,acc⟩ k ⟨g1,g2,g3,g4⟩ ih
  simp only at g1 g2 g3 g4 ih
  cases m with
  | zero =>
   rw [ib] at g4
   cases acc with
   | nil =>
    refine ⟨rt (RP (n+4)),rfl,.inr ⟨?_,g4⟩⟩
    simp [ER,rt]
   | cons y r =>
    refine ⟨rq (RP (n+4)),rfl,.inl ⟨y::r,by simp,g2,by omega,.inr ⟨?_,g4⟩⟩⟩
    simp [ER,rq]
  | succ m =>
   obtain ⟨e,he⟩:∃ e,(a.getD [])[m]?=some e:=⟨_,Tc (by omega)⟩
   rw [fF he,aG] at g4
   have hm:(((m+1:Nat):Int) - 1)=((m:Nat):Int):=by omega
   have hw:IntKind.i64.wrap (((m:Nat):Int) - 1)=((m:Nat):Int) - 1:=aE (by omega) (by omega)
   have h157:=vm (n+3) a b c o m e who he
   cases acc with
   | nil =>
    refine ⟨rt (RP (n+4)),rfl,?_⟩
    simp only [ER,hm,rt,ac,ag,ae,bQ,aa]
    rw [T1 (by simp)]
    simp only [ah,h157,ab,ac,ag,aP,aa,br,hw]
    by_cases h1:e.a=who
    ·rw [T5 (by simp [h1])]
     simp only [jN,ab,ac,aP,aa]
     by_cases h2:bh e.f1 e.t2 d=true
     ·rw [T5 (by simp [h2])]
      rw [T1 ⟨h1,h2⟩] at g4
      simp only [cc,tS,ab,ac,ag,aa,T0,T6,T9,bj,aM,aI,aU,Tb,Td,aR,Tg,Tq,bT,bc]
      rw [T1 (by simp [])]
      simp only [tJ,ab,dV,ac,aa]
      by_cases h3:bq e.f2 e.t1 d=true
      ·rw [T1 h3] at g4 ⊢
       exact .inl ⟨[e.b],by simp,by simp,by simp;omega,.inl ⟨rfl,g4⟩⟩
      ·rw [T5 h3] at g4 ⊢
       exact ih (m,[e.b]) ⟨by simp only;omega,by simp,by simp only [Wt];omega,g4⟩ (by simp only;omega)
     ·rw [T1 (by simp [h2])]
      rw [T5 fun h=>h2 h.2] at g4
      exact ih (m,[]) ⟨by simp only;omega,g2,by simp only [Td];omega,g4⟩ (by simp only;omega)
    ·rw [T1 (by simp [h1])]
     rw [T5 fun h=>h1 h.1] at g4
     exact ih (m,[]) ⟨by simp only;omega,g2,by simp only [Td];omega,g4⟩ (by simp only;omega)
   | cons y r =>
    refine ⟨rq (RP (n+4)),rfl,?_⟩
    simp only [ER,hm,rq,ac,ag,b8,aZ,aN,b9,ae,bQ,aa]
    rw [T1 (by simp)]
    simp only [ah,h157,ab,ac,ag,aP,aa,br,hw]
    by_cases h1:e.a=who
    ·rw [T5 (by simp [h1])]
     simp only [jN,ab,ac,aP,aa]
     by_cases h2:bh e.f1 e.t2 d=true
     ·rw [T5 (by simp [h2])]
      rw [T1 ⟨h1,h2⟩] at g4
      have hlen:(y::r).length=((y::r).map rI).length:=by simp
      have hput:=cG n (y::r) e.b (by simp only [Tb] at g3 ⊢;omega) g2
      simp only [aI,aR,Tj,T6,bL,hput,ab,ac,bR,dV,aa]
      have hil:=fJ e.b (y::r)
      have hne:=md e.b (y::r)
      have hup:=gc e.b g2
      by_cases h3:bq e.f2 e.t1 d=true
      ·rw [T1 h3] at g4 ⊢
       exact .inl ⟨ins e.b (y::r),hne,hup,by simp only [Tb] at g3 hil ⊢;omega,.inl ⟨rfl,g4⟩⟩
      ·rw [T5 h3] at g4 ⊢
       have:=ih (m,ins e.b (y::r)) ⟨by simp only;omega,hup,by simp only [Tb] at g3 hil ⊢;omega,g4⟩ (by simp only;omega)
       revert this
       generalize ins e.b (y::r)=q at hne
       cases q with
       | nil=>exact absurd rfl hne
       | cons z zs=>intro this;exact this
     ·rw [T1 (by simp [h2])]
      rw [T5 fun h=>h2 h.2] at g4
      exact ih (m,y::r) ⟨by simp only;omega,g2,by simp only at g3 ⊢;omega,g4⟩ (by simp only;omega)
    ·rw [T1 (by simp [h1])]
     rw [T5 fun h=>h1 h.1] at g4
     exact ih (m,y::r) ⟨by simp only;omega,g2,by simp only at g3 ⊢;omega,g4⟩ (by simp only;omega)
end
section
def aY (d who:Int) (l:List E9):List Int:=cg f0 [] (aG d who (below l l.length))
theorem aw (k:Int) (o:Option (List E9)):(bo k o).getD []=au k (o.getD []):=by cases o<;>rfl
theorem cB (k:Int) (o:Option (List E5)):(f7 k o).getD []=dj k (o.getD []):=by cases o<;>rfl
theorem bU {ok ps fs:Bool} {p f:Int} {ds:List Int} (h:aQ ok ps fs p f ds=0):ok=true:=by
 unfold aQ at h
 cases ok with
 | true=>rfl
 | false=>simp at h
theorem iY {a b c:List E9} {o:List E5} (h:aA a b c o=true):a.length≤60∧b.length≤60∧c.length≤60∧o.length≤60:=by
 unfold aA at h
 simp only [Te,T4] at h
 exact h.1.1.1.1
theorem s12 (n:Nat) (p d k:Int) (a b c:Option (List E9)) (o:Option (List E5)) (ha:(a.getD []).length*72≤140737488351232) (hb:(b.getD []).length*72≤140737488351232) (hc:(c.getD []).length*72≤140737488351232) (ho:(o.getD []).length*40≤140737488351232) :
  FN (n+11) 12 [d9 a,d9 b,d9 c,d5 o,il p,il d,il k]=if aQ (aA a b c o) true false p 0 [d,k]=0 then some (0,[.d (dI (some (aY d p (au k (a.getD []))))),.d (il 0)]) else some (0,[.d (dI none),.d (il (aQ (aA a b c o) true false p 0 [d,k]))]):=by
 rw [FS,Ou]
 have h73:=s73 n p 0 true false a b c o [d] k (by simp) ha hb hc ho
 rw [show dI (some ([d]++[k]))=.sl 1 [[il d],[il k]] from rfl] at h73
 simp only [G12,ah,s72,ab,ac,ag,aM,bL,h73]
 simp only [Tr,V5]
 by_cases he:aQ (aA a b c o) true false p 0 [d,k]=0
 ·rw [T1 he]
  have hlen:=(iY (bU he)).1
  have hcl:((bo k a).getD []).length≤60:=by
   rw [aw];exact Vn (We _ _) hlen
  have hl12:=l12 (n+6) (bo k a) (bo k b) (bo k c) (f7 k o) d p (by omega)
  simp only [df,he,T6,ab,ac,ag,ae,aL,X5,Tx,Tk,aa,T0,T9,an,cW]
  rw [bP _ 4 _ rfl]
  simp only [ak,cS,br]
  rw [aE (by omega) (by omega)]
  simp only [aD]
  simp only [an] at hl12
  rw [aw] at hl12
  rw [aw] at hcl
  simp only [aw]
  unfold Q12 at hl12
  rw [show aY d p (au k (a.getD []))=cg f0 [] (aG d p (below (au k (a.getD [])) (au k (a.getD [])).length)) from rfl]
  have ht:∀ q:List Int,(q.map rI).take q.length=q.map rI:=fun q=>Vc (by simp)
  rcases hl12 with ⟨acc,hne,hup,hle,(⟨hr,hT⟩ | ⟨hr,hT⟩)⟩ | ⟨hr,hT⟩
  ·rw [hr,← hT]
   simp [dI,dR,ht]
  ·rw [hr,← hT]
   have hput:=cG (n+6) acc 0 (by omega) hup
   simp [hput,dI,dR]
  ·rw [hr,← hT]
   simp [tS,tJ,dI,dR,ins,rI]
 ·rw [T5 he]
  simp only [df,T5 he,ab,ac,ag,ae,aL,aa]
  rw [T1 (by simpa using he)]
  simp [dI,dR]
end
end Go.VE
