/- The statement FamilyTimes: whatever the kin, the true terms, the person, the family and the days are, CheckTimes, Truly and Count agree with the specification; Show and Attain return true terms that do what is asked, or the error that is due. -/
import Derived.Test.YtobeabinccohlaaGreatMg7
import Derived.Test.YtobeabinccohlaaGreatMg4
set_option maxRecDepth 20000
namespace Go.VE
open Go.RowKit Go.Proofs
section
section
variable {Fn:Nat→List D→aq} {FnD:D→List Sh→List D→aq} {m:Nat}
theorem a11_e (A B C O:D) (p f d k E lo hi:Int) (i:Nat) (hE:E≠0) (h66:∀ b,Fn 66 [A,B,C,O,il f,il d,il k,bl b]=some (0,[.d (dT none),.d (dT none),.d (dT none),.d (il E)])) (hi2:i < 2) (K:Nat→List Yr→aq) :
  nC (af Fn FnD m) K [A,B,C,O,il p,il f,il d,il k,il E,il i,il lo,il hi]=K 0 [A,B,C,O,il p,il f,il d,il k,il E,il ((i:Int)+1),il lo,il hi]:=by
 have hw:IntKind.i64.wrap ((i:Int)+1)=(i:Int)+1:=aE (by omega) (by omega)
 have hw0:IntKind.i64.wrap ((0:Int)+0)=0:=rfl
 simp only [nC,ac,ag,ae,aC,aa,T4]
 rw [T1 (by omega)]
 simp only [aV,ah,h66,ab,ac,ag,aL,aa,T4]
 rw [T1 hE,T5 (by simp)]
 simp only [Cm,Vu,Td,V9,ay,hw0,ck,aa,hw]
 simp
theorem a11_f (A B C O X Y Z L:D) (p f d k lo hi:Int) (i:Nat) (h66:Fn 66 [A,B,C,O,il f,il d,il k,bl (decide ((i:Int)=1))]=some (0,[.d X,.d Y,.d Z,.d (il 0)])) (h69:Fn 69 [A,B,C,O,X,Y,Z,il p,il f,il d,il k]=some (0,[.d L,.d (il 0)]))
  (hL:∀ q:D→aq,(af Fn FnD m).lenD L q=q (il (if i=1 then hi else lo))) (hi2:i < 2) (K:Nat→List Yr→aq) :
  nC (af Fn FnD m) K [A,B,C,O,il p,il f,il d,il k,il 0,il i,il lo,il hi]=K 0 [A,B,C,O,il p,il f,il d,il k,il 0,il ((i:Int)+1),il lo,il hi]:=by
 have hw:IntKind.i64.wrap ((i:Int)+1)=(i:Int)+1:=aE (by omega) (by omega)
 simp only [nC,ac,ag,ae,aC,aa,T4]
 rw [T1 (by omega)]
 simp only [aV,ah,h66,h69,ab,ac,ag,aL,aa,T4,X5,Tx,T9]
 by_cases h1:i=1
 ·subst h1
  simp only [T6] at hL
  simp [hL,aK]
  rfl
 ·have h0:i=0:=by omega
  subst h0
  simp only [h1,T9] at hL
  simp [hL,aK]
  rfl
theorem Kf (A B C O TA TB TC L M X Y Z:D) (p f d k z e1 e2 e3 E E4 lo hi:Int)
  (h50:Fn 50 [A,B,C,O,TA,TB,TC,il p,il d,il k]=some (0,[.d (il z),.d (il e1)])) (h68:Fn 68 [A,B,C,O,TA,TB,TC,il p,il f,il d,il k]=some (0,[.d (il z),.d (il e1)]))
  (h48:Fn 48 [A,B,C,O,TA,TB,TC,il f,il d,il k]=some (0,[.d L,.d (il e2)])) (h69:Fn 69 [A,B,C,O,TA,TB,TC,il p,il f,il d,il k]=some (0,[.d M,.d (il e2)]))
  (h22:Fn 22 [L,M]=some (0,[.d (bl true)])) (h47:Fn 47 [A,B,C,O,il k,TA,TB,TC]=some (0,[.d (il e3)])) (h70:Fn 70 [A,B,C,O,il k,TA,TB,TC]=some (0,[.d (il e3)]))
  (h71:Fn 71 [A,B,C,O,il p,il f,il d,il k]=some (0,[.d (il E)]))
  (h67:Fn 67 [A,B,C,O,il p,il f,il d,il k]=some (0,[.d X,.d Y,.d Z,.d (il E)]))
  (hE:(E≠0∧X=dT none∧Y=dT none∧Z=dT none)∨(E=0∧Fn 68 [A,B,C,O,X,Y,Z,il p,il f,il d,il k]=some (0,[.d (il f),.d (il 0)])))
  (h36:Fn 36 [A,B,C,O,il p,il f,il d,il k]=some (0,[.d (il lo),.d (il hi),.d (il E4)]))
  (hl:ax [nC (af Fn FnD m)] m 0 [A,B,C,O,il p,il f,il d,il k,il E4,il 0,il lo,il hi]=some (1,[]))
  (h23:Fn 23 []=some (0,[.d (bl true)])) :
  G11 (af Fn FnD m) A B C O (il p) (il f) (il d) (il k) TA TB TC=some (0,[.d (bl true)]):=by
 have hl':ax [Km (af Fn FnD m)] m 0 [A,B,C,O,il p,il f,il d,il k,il E4,il 0,il lo,il hi]=some (1,[]):=hl
 have hw0:IntKind.i64.wrap ((0:Int)+0)=0:=rfl
 simp only [G11,ah,h50,h68,h48,h69,h22,h47,h70,h71,h67,ab,ac,ag,aL,X5,Tx,Tk,aa,T0,T9,aP,Tu,ae,T4]
 rcases hE with ⟨h0,rfl,rfl,rfl⟩ | ⟨rfl,h6⟩
 ·simp only [h0,Xf,T6,Cm,Vu,Td,V9,ay,hw0,ck,ao,ab,ac,ag,aa,aK,Int.lt_irrefl,Tk,T0,T9,aV,h0,bY,ah,h36,aD,hl,h23]
 ·simp only [Tx,T9,aV,T8,aa,T6,ah,h6,ab,ac,ag,aL,X5,Tk,T0,ao,bY,h36,aD,hl',h23]
end
end
section
section
variable (n:Nat) (p f d k:Int) (a b c:Option (List E9)) (o:Option (List E5)) (ha:(a.getD []).length*72≤140737488351232) (hb:(b.getD []).length*72≤140737488351232) (hc:(c.getD []).length*72≤140737488351232) (ho:(o.getD []).length*40≤140737488351232)
theorem zc {k:Int} {a b c:Option (List E9)} {o:Option (List E5)} {ta tb tc:Option (List T2)} {d f:Int}:(zb k a b c o ta tb tc d f).getD []=MW k a b c o ta tb tc d f:=qg
theorem CL {ok:Bool} {p f:Int} {ds:List Int} (h:aQ ok true true p f ds=0):aQ ok true true p 1 ds=0:=by
 unfold aQ at h ⊢
 split at h
 ·cases h
 ·split at h
  ·cases h
  ·split at h
   ·cases h
   ·rename_i h1 h2 h3
    rw [T5 h1,T5 h2,T5 (by simp)]
    exact h
include ha hb hc ho
theorem N2 (most:Bool) (he:aQ (aA a b c o) false true 0 f [d,k]=0) (hf:1≤f):∃ X Y Z:D,FN (n+208) 66 [d9 a,d9 b,d9 c,d5 o,il f,il d,il k,bl most]=some (0,[.d X,.d Y,.d Z,.d (il 0)]) ∧
  FN (n+208) 69 [d9 a,d9 b,d9 c,d5 o,X,Y,Z,il p,il f,il d,il k]=some (0,[.d (dI (bx (if most=true then vW k a b c o d f else pP k a b c o d f))),.d (il 0)]):=by
 obtain ⟨S,B,W,h1,h2,h3⟩:=Lo (n+101) f d k most a b c o ha hb hc ho he
 have g:=(eC (bU he)).cnt k
 have hk:=yu (bU he) k
 refine ⟨_,_,_,h3,?_⟩
 have h69:=s69 (n+103) p f d k a b c o (tP d (bM S) (au k (a.getD []))) (tP d (bM B) (au k (b.getD []))) (tP d (bM W) (au k (c.getD []))) ha hb hc ho
 rw [wT,T1 he,T1 (wW hk),← zc] at h69
 cases most with
 | true =>
  rw [EZ g hk (by omega) (Gs (o:=dj k (o.getD [])) (f:=f) g hk h1 h2),M3] at h69
  exact h69
 | false =>
  rw [He g hk (by omega) (MP (o:=dj k (o.getD [])) (f:=f) g hk h1 h2),G0] at h69
  exact h69
theorem l11 (hf:aQ (aA a b c o) false true 0 f [d,k]=0→1≤f) :
  ax [nC (RP (n+208))] M0 0 [d9 a,d9 b,d9 c,d5 o,il p,il f,il d,il k,il (aQ (aA a b c o) false true 0 f [d,k]),il 0,il (if aQ (aA a b c o) false true 0 f [d,k]=0 then ((pP k a b c o d f).length:Int) else 0),il (if aQ (aA a b c o) false true 0 f [d,k]=0 then ((vW k a b c o d f).length:Int) else 0)]=some (1,[]):=by
 refine e9 (σ:=Nat) [nC (RP (n+208))] (fun m=>(0,[.d (d9 a),.d (d9 b),.d (d9 c),.d (d5 o),.d (il p),.d (il f),.d (il d),.d (il k),.d (il (aQ (aA a b c o) false true 0 f [d,k])),.d (il ((2 - m:Nat):Int)),.d (il (if aQ (aA a b c o) false true 0 f [d,k]=0 then ((pP k a b c o d f).length:Int) else 0)),.d (il (if aQ (aA a b c o) false true 0 f [d,k]=0 then ((vW k a b c o d f).length:Int) else 0))])) (fun m=>m) (fun m=>m≤2) (fun _=>some (1,[])) ?_ M0 2 (by omega) (by unfold M0;omega)
 intro m q hm ih
 refine ⟨_,rfl,?_⟩
 cases m with
 | zero=>simp [nC]
 | succ m =>
  have ih':=ih m (by omega) (by omega)
  simp only at ih' ⊢
  have e2:((2 - m:Nat):Int)=((2 - (m+1):Nat):Int)+1:=by omega
  have hi2:2 - (m+1) < 2:=by omega
  rw [e2] at ih'
  generalize 2 - (m+1)=i at ih' hi2 ⊢
  by_cases he:aQ (aA a b c o) false true 0 f [d,k]=0
  ·rw [T1 he,T1 he,he] at ih' ⊢
   obtain ⟨X,Y,Z,h66,h69⟩:=N2 n p f d k a b c o ha hb hc ho (decide ((i:Int)=1)) he (hf he)
   rw [a11_f (d9 a) (d9 b) (d9 c) (d5 o) X Y Z _ p f d k _ _ i h66 h69 (fun q=>by
    rw [cA,aJ]
    by_cases h1:i=1
    ·subst h1;simp
    ·have:¬ (i:Int)=1:=by omega
     simp [h1,this]) hi2 q]
   exact ih'
  ·rw [a11_e (d9 a) (d9 b) (d9 c) (d5 o) p f d k _ _ _ i he (fun most=>Lp (n+101) f d k most a b c o ha hb hc ho he) hi2 q]
   exact ih'
theorem s11 (ta tb tc:Option (List T2)):G11 (RP (n+208)) (d9 a) (d9 b) (d9 c) (d5 o) (il p) (il f) (il d) (il k) (dT ta) (dT tb) (dT tc)=some (0,[.d (bl true)]):=by
 have h50:=s50 (n+101) p d k a b c o ta tb tc ha hb hc ho
 have h68:=s68 (n+103) p f d k a b c o ta tb tc ha hb hc ho
 have h48:=s48 (n+99) f d k a b c o ta tb tc ha hb hc ho
 have h69:=s69 (n+103) p f d k a b c o ta tb tc ha hb hc ho
 have h47:=s47 (n+196) k a b c o ta tb tc ha hb hc ho
 have h70:=s70 (n+103) k a b c o ta tb tc ha hb hc ho
 have h71:=s71 (n+198) p f d k a b c o ha hb hc ho
 have h36:=s36 (n+198) p f d k a b c o ha hb hc ho
 rw [F5] at h68
 rw [wT] at h69 h36
 have hk:aQ (aA a b c o) true true 1 1 [0,k]=aQ (aA a b c o) false false 0 0 [k]:=by
  unfold aQ;simp
 rw [hk] at h70
 obtain ⟨z,e1,h50,h68⟩:∃ z e1,FN (n+208) 50 [d9 a,d9 b,d9 c,d5 o,dT ta,dT tb,dT tc,il p,il d,il k]=some (0,[.d (il z),.d (il e1)])∧FN (n+208) 68 [d9 a,d9 b,d9 c,d5 o,dT ta,dT tb,dT tc,il p,il f,il d,il k]=some (0,[.d (il z),.d (il e1)]):=by
  by_cases he:aQ (aA a b c o) true false p 0 [d,k]=0
  ·rw [T1 he] at h50 h68
   by_cases ht:kP k a b c ta tb tc=true
   ·rw [T1 ht] at h50 h68;exact ⟨_,_,h50,h68⟩
   ·rw [T5 ht] at h50 h68;exact ⟨_,_,h50,h68⟩
  ·rw [T5 he] at h50 h68;exact ⟨_,_,h50,h68⟩
 obtain ⟨L,M,e2,h48,h69,hLM,hlen⟩:∃ (L M:Option (List Int)) (e2:Int),FN (n+208) 48 [d9 a,d9 b,d9 c,d5 o,dT ta,dT tb,dT tc,il f,il d,il k]=some (0,[.d (dI L),.d (il e2)])∧FN (n+208) 69 [d9 a,d9 b,d9 c,d5 o,dT ta,dT tb,dT tc,il p,il f,il d,il k]=some (0,[.d (dI M),.d (il e2)])∧L.getD []=M.getD []∧(L.getD []).length≤4611686018427387904:=by
  by_cases he:aQ (aA a b c o) false true 0 f [d,k]=0
  ·rw [T1 he] at h48 h69
   by_cases ht:kP k a b c ta tb tc=true
   ·rw [T1 ht] at h48 h69
    refine ⟨_,_,_,h48,h69,by rw [aJ,zc],?_⟩
    rw [zc]
    have h1:=We (fun p=>decide (nQ k a b c o ta tb tc d p=f)) (cy (au k (a.getD [])))
    have h2:=eb (au k (a.getD []))
    have h3:=ey k (a.getD [])
    unfold MW
    omega
   ·rw [T5 ht] at h48 h69;exact ⟨_,_,_,h48,h69,rfl,by simp⟩
  ·rw [T5 he] at h48 h69;exact ⟨_,_,_,h48,h69,rfl,by simp⟩
 have h22:=s22 (n+207) L M hlen
 rw [Xa hLM] at h22
 have h36':FN (n+208) 36 [d9 a,d9 b,d9 c,d5 o,il p,il f,il d,il k]=some (0,[.d (il (if aQ (aA a b c o) false true 0 f [d,k]=0 then ((pP k a b c o d f).length:Int) else 0)),.d (il (if aQ (aA a b c o) false true 0 f [d,k]=0 then ((vW k a b c o d f).length:Int) else 0)),.d (il (aQ (aA a b c o) false true 0 f [d,k]))]):=by
  by_cases he:aQ (aA a b c o) false true 0 f [d,k]=0
  ·rw [T1 he] at h36
   rw [T1 he,T1 he,he]
   exact h36
  ·rw [T5 he] at h36
   rw [T5 he,T5 he]
   exact h36
 have hloop:=l11 n p f d k a b c o ha hb hc ho fun he=>by
  unfold aQ at he
  split at he
  ·cases he
  ·split at he
   ·cases he
   ·split at he
    ·cases he
    ·rename_i h2
     have h3:1≤f∧f≤99:=by simpa using h2
     exact h3.1
 by_cases he:aQ (aA a b c o) true true p f [d,k]=0
 ·by_cases hw:d0 (dn k a b c o d p) f=0
  ·have h67:=Dq (n+1) a b c o d f p k ha hb hc ho he hw
   rw [he,hw,show yi 0 0=3 from rfl] at h71
   exact Kf (d9 a) (d9 b) (d9 c) (d5 o) (dT ta) (dT tb) (dT tc) (dI L) (dI M) _ _ _ p f d k z e1 e2 _ 3 _ _ _ h50 h68 h48 h69 h22 h47 h70 h71 h67 (.inl ⟨by omega,rfl,rfl,rfl⟩) h36' hloop (s23 (n+97))
  ·obtain ⟨S,B,W,hS,h67⟩:=Lm (n+1) a b c o d f p k ha hb hc ho he hw
   have g:=(eC (bU he)).cnt k
   have hkk:=yu (bU he) k
   have h68':=s68 (n+103) p f d k a b c o (tP d (bM S) (au k (a.getD []))) (tP d (bM B) (au k (b.getD []))) (tP d (bM W) (au k (c.getD []))) ha hb hc ho
   rw [T1 (CL he),T1 (wW hkk),pN,Df g hkk hS] at h68'
   rw [he,show yi 0 (d0 (dn k a b c o d p) f)=0 from by unfold yi;rw [T1 rfl,T5 hw]] at h71
   exact Kf (d9 a) (d9 b) (d9 c) (d5 o) (dT ta) (dT tb) (dT tc) (dI L) (dI M) _ _ _ p f d k z e1 e2 _ 0 _ _ _ h50 h68 h48 h69 h22 h47 h70 h71 h67 (.inr ⟨rfl,h68'⟩) h36' hloop (s23 (n+97))
 ·have h67:=Ln (n+1) a b c o d f p k ha hb hc ho he
  rw [show yi (aQ (aA a b c o) true true p f [d,k]) (d0 (dn k a b c o d p) f)=aQ (aA a b c o) true true p f [d,k] from by unfold yi;rw [T5 he]] at h71
  exact Kf (d9 a) (d9 b) (d9 c) (d5 o) (dT ta) (dT tb) (dT tc) (dI L) (dI M) _ _ _ p f d k z e1 e2 _ _ _ _ _ h50 h68 h48 h69 h22 h47 h70 h71 h67 (.inl ⟨he,rfl,rfl,rfl⟩) h36' hloop (s23 (n+97))
end
end
section
open Go.Proofs.YtobeabinccohlaaGreat
set_option maxRecDepth 100000
theorem o144 {n:Nat} {ds:List D} (h:HasT Tryz.prog (n+2) 144 ds):∃ t:T2,ds=rT t:=by
 obtain ⟨a,b,rfl,h1,c,d,rfl,h2,rfl⟩:=h.struct Tryz.underlying144 rfl
 obtain ⟨x,rfl,_⟩:=o3 h1
 obtain ⟨y,rfl,_⟩:=o3 h2
 exact ⟨⟨x,y⟩,rfl⟩
theorem o72 {n:Nat} {ds:List D} (h:HasT Tryz.prog (n+3) 72 ds):∃ o:Option (List T2),ds=[dT o]:=by
 obtain ⟨o,rfl,_,h2⟩:=h.sl (c:=2) (b:=16) Tryz.underlying72 (by kernel_rfl) (by kernel_rfl)
 obtain ⟨q,rfl⟩:=qb (f:=rT) fun r hr=>o144 (h2 r hr)
 exact ⟨q,rfl⟩
theorem o74 {n:Nat} {ds:List D} (h:HasT Tryz.prog (n+4) 74 ds):∃ a b c:Option (List T2),ds=[dT a,dT b,dT c]:=by
 obtain ⟨a1,b1,rfl,h1,a2,b2,rfl,h2,a3,b3,rfl,h3,rfl⟩:=h.struct Tryz.underlying74 rfl
 obtain ⟨a,rfl⟩:=o72 h1
 obtain ⟨b,rfl⟩:=o72 h2
 obtain ⟨c,rfl⟩:=o72 h3
 exact ⟨a,b,c,rfl⟩
theorem qF (vds:List VD) (h:N5 Tryz.prog 8 [27,29,74] vds):SC Tryz.prog 11 vds (.one (.d (bl true))):=by
 obtain ⟨_,_,rfl,h1,h⟩:=qQ h
 obtain ⟨_,_,rfl,h2,h⟩:=qQ h
 obtain ⟨_,_,rfl,h3,h⟩:=qQ h
 cases Ho h
 obtain ⟨_,rfl,k1⟩:=h1.agg_ Tryz.underlying27
 obtain ⟨_,rfl,k2⟩:=h2.agg_ Tryz.underlying29
 obtain ⟨_,rfl,k3⟩:=h3.agg_ Tryz.underlying74
 obtain ⟨a,b,c,o,rfl,ha,hb,hc,ho⟩:=o27 k1
 obtain ⟨p,f,d,k,rfl⟩:=o29 k2
 obtain ⟨ta,tb',tc,rfl⟩:=o74 k3
 refine lawSC (T:=tb) (fuel:=400) (m0:=M0) (xs:=[d9 a,d9 b,d9 c,d5 o,il p,il f,il d,il k,dT ta,dT tb',dT tc]) M2 (FN_ok 208) (Oy 208) Lk (by decide) (sh:=[.agg 4,.agg 4,.agg 3]) rfl rfl rfl ?_
 show zz _ _ _=_
 rw [Ov]
 exact s11 0 p f d k a b c o ha hb hc ho ta tb' tc
end
end Go.VE
namespace Go.Proofs.YtobeabinccohlaaGreat
open Go.VE Go.RowKit
set_option maxRecDepth 100000
theorem ml (os:Os) (started:os.Started) (H:Type) (enc:TypeId×Value→H) :
  ReturnsInHanded {} Tryz.checked os 11 .any (Rows.familyTimesSpec.pre6 enc Tryz.prog Tryz.f11 Rows.familyTimesRow.domain false) (Rows.familyTimesSpec.post enc Tryz.prog Tryz.f11 false true false false) :=
 lawIn (C:=Tryz.checked) (n:=8) (tb:=4) own started (by kernel_rfl) Tryz.func11
  (ChangeSpec.witness6 (enc:=enc) (C:=Tryz.checked) false ⟨#[],#[.agg #[.slice none 0 0,.slice none 0 0,.slice none 0 0,.slice none 0 0],.agg #[.int .i64 0,.int .i64 0,.int .i64 0,.int .i64 0],.agg #[.slice none 0 0,.slice none 0 0,.slice none 0 0]],[]⟩ 8 (by kernel_rfl) (by kernel_rfl) (by kernel_rfl) (by kernel_rfl))
  GB (by kernel_rfl) (by kernel_rfl) Tryz.underlying4 rfl
  (fun ds hd=>by
   rw [show Tryz.f11.params.toList=[27,29,74] by kernel_rfl] at hd
   match ds,hd with
   | [a,b,c],_=>rfl)
  (fun vds h=>qF vds h)
theorem ol:Rows.familyTimesRow.holds Tryz.pinned (OpenSpec.ofChange Rows.familyTimesSpec) :=
 OpenClaim.holds_of_wide 11 Tryz.f11 rfl rfl rfl rfl rfl rfl rfl ⟨rfl,rfl,rfl,rfl,rfl⟩ rfl rfl rfl rfl rfl (by kernel_rfl) Tryz.func11 (by kernel_rfl)
  (Vw (by kernel_rfl)) (by unfold Func.isWrapper;first | (rw [T1 (by decide +kernel)];kernel_rfl) | (rw [T5 (by decide +kernel)];exact ⟨rfl,rfl⟩))
  (fun os started H enc _=>ml os started H enc)
theorem familyTimes_holds:Rows.FamilyTimesSaid:=ol
#print axioms familyTimes_holds
end Go.Proofs.YtobeabinccohlaaGreat
