/- Family: the best of all is a plan by which the most, or the fewest, glean (plain law). -/
import Derived.Test.YtobeabinccohlaaGreatMg6
import Derived.Test.YtobeabinccohlaaGreatMg5
import Derived.Test.YtobeabinccohlaaGreatMg4
set_option maxRecDepth 20000
namespace Go.VE
open Go.RowKit Go.Proofs
section
theorem yu {a b c:List E9} {o:List E5} (h:aA a b c o=true) (k:Int):OkK (au k a) (au k b) (au k c):=by
 obtain ⟨p1,p2,p3,_⟩:=kj h
 have hs:∀ {e:E9},eo e.f1 e.f2 e.t1 e.t2→pt e:=fun h=>⟨h.2.1,h.2.2.1,h.2.2.2.1⟩
 exact ⟨fun e he=>hs (p1 e (gT he)).2.2.2.1,fun e he=>hs (p2 e (gT he)).2.2.2.1,fun e he=>hs (p3 e (gT he)).2.2.2.2.1⟩
theorem j7 {d who:Int} {S:Int→Option Int} {l:List E9} {rate:Option Int→Int} {Q:Option Int→Prop} (h0:∀ x,0≤rate x) (hok:∀ e∈l,pt e)
  (hS:S who=some (sV rate (bF d who (jc l)))∨∀ e∈l,e.a≠who)
  (hQ:∀ x,x∈aG d who (below l l.length)→(∀ y∈aG d who (below l l.length),rate y≤rate x)→Q x):du d who S l Q:=by
 obtain ⟨x,hx,hm⟩:=Hi (os:=bF d who (jc l)) h0 (vQ d who _)
 have hq:Q x:=hQ x (fv hx) fun y hy=>by
  obtain ⟨j,hj⟩:=fu hy
  exact hm _ hj
 by_cases hn:∃ e∈l,e.a=who
 ·refine qJ hok ?_ (.inr hn)
  rcases hS with h | h
  ·exact .inr ⟨_,x,h,hx,hq⟩
  ·exact .inl h
 ·have hno:∀ e∈l,e.a≠who:=fun e he hw=>hn ⟨e,he,hw⟩
  have hx':=fv hx
  rw [Ah hno,Tw] at hx'
  subst hx'
  exact qJ hok (.inl hno) (.inl hq)
theorem Ab (W:Int→Bool×Bool) (most:Bool) (x:Option Int):0≤vK W most x:=by
 cases x<;>cases most<;>simp only [vK]<;>(repeat' split)<;>omega
theorem Aa (L:Int→List Int) (f:Int) (most:Bool) (z:Int):0≤Fs L f most z:=by
 unfold Fs;(repeat' split)<;>omega
theorem tK (L:Int→List Int) (f:Int) (most:Bool) (g:Int) (x:Option Int):0≤mz L f most g x:=by
 unfold mz;(repeat' split)<;>omega
section
variable {a b c:List E9} {o:List E5} {d f:Int} {S B W:Int→Option Int}
theorem Gs (g:GoodK a b c o) (k:OkK a b c)
  (hS:∀ p∈j5 a c,S p=some (bH a b d f true p)∧W p=some (bA a c o d true p)) (hB:∀ h,1≤h→h≤99→B h=some (bB b d f true h)):Most a b c o d f S B W where
 ha p:=by
  refine j7 (rate:=rH (aj d b) f true) (fun x=>Aa ..) k.a ?_ fun x hx hm=>?_
  ·by_cases hp:p∈j5 a c
   ·exact .inl (hS p hp).1
   ·exact .inr fun e he hw=>hp ((kr ..).2 (.inl ⟨e,he,hw⟩))
  ·simp only [rH,Fs,T6] at hm
   constructor
   ·rintro ⟨h,hh,h0⟩ hx0
    obtain ⟨y,hy,rfl⟩:=(bb ..).1 hh
    have:=hm y hy
    rw [T5 h0,T1 hx0] at this
    split at this<;>omega
   ·rintro ⟨h,hh,h0,hl⟩
    obtain ⟨y,hy,rfl⟩:=(bb ..).1 hh
    have:=hm y hy
    rw [T5 h0,T1 hl] at this
    split at this
    ·omega
    ·split at this
     ·assumption
     ·omega
 hb h h1 h2:=by
  refine j7 (rate:=mz (aj d b) f true h) (fun x=>tK ..) k.b (.inl (hB h h1 h2)) fun x hx hm hl=>?_
  have hx1:mz (aj d b) f true h x=1:=by
   have hle:∀ y,mz (aj d b) f true h y≤1:=fun y=>by simp only [mz,T6];split<;>omega
   have hy:∃ y∈aG d h (below b b.length),mz (aj d b) f true h y=1:=by
    rcases (cv g.less h1).1 hl with ⟨h3,h4⟩ | ⟨w,h3,h4⟩
    ·exact ⟨none,h3,by simp [mz,h4]⟩
    ·exact ⟨some w,h3,by simp [mz,h4]⟩
   obtain ⟨y,hy,hy1⟩:=hy
   have h3:=hm y hy
   have h4:=hle x
   omega
  cases x with
  | none =>
   left
   simp only [mz,T6,Tw] at hx1
   split at hx1
   ·rename_i h3;exact ⟨rfl,h3.symm⟩
   ·omega
  | some w =>
   right
   simp only [mz,T6] at hx1
   split at hx1
   ·rename_i h3;exact ⟨w,rfl,h3⟩
   ·omega
 hc p:=by
  refine j7 (rate:=vK (bm a c o d) true) (fun x=>Ab ..) k.c ?_ fun x hx hm=>?_
  ·by_cases hp:p∈j5 a c
   ·exact .inl (hS p hp).2
   ·exact .inr fun e he hw=>hp ((kr ..).2 (.inr ⟨e,he,hw⟩))
  ·constructor
   ·intro hn
    have:=hm none hn
    cases x with
    | none=>rfl
    | some z =>
     simp only [vK,T6] at this
     split at this<;>omega
   ·rintro ⟨y,hy,hy1⟩
    have:=hm y hy
    cases x with
    | none=>rfl
    | some z =>
     cases y with
     | none =>
      simp only [vK,T6] at this
      split at this<;>omega
     | some w =>
      simp only [vK,T6,hy1] at this
      split at this
      ·assumption
      ·omega
theorem MP (g:GoodK a b c o) (k:OkK a b c)
  (hS:∀ p∈j5 a c,S p=some (bH a b d f false p)∧W p=some (bA a c o d false p)) (hB:∀ h,1≤h→h≤99→B h=some (bB b d f false h)):Few a b c o d f S B W where
 ha p:=by
  refine j7 (rate:=rH (aj d b) f false) (fun x=>Aa ..) k.a ?_ fun x hx hm=>?_
  ·by_cases hp:p∈j5 a c
   ·exact .inl (hS p hp).1
   ·exact .inr fun e he hw=>hp ((kr ..).2 (.inl ⟨e,he,hw⟩))
  ·simp only [rH,Fs,T0,T9] at hm
   constructor
   ·intro hh
    obtain ⟨y,hy,hy0⟩:=(bb ..).1 hh
    have:=hm y hy
    rw [T1 hy0.symm] at this
    split at this
    ·assumption
    ·split at this<;>omega
   ·rintro ⟨h,hh,h0⟩
    obtain ⟨y,hy,rfl⟩:=(bb ..).1 hh
    have:=hm y hy
    by_cases hx0:f0 x=0
    ·exact .inl hx0
    ·right
     intro hl
     rw [T5 hx0,T1 hl] at this
     split at this
     ·omega
     ·rename_i h3
      rw [T5 (h0.resolve_left h3)] at this
      omega
 hb h h1 h2:=by
  refine j7 (rate:=mz (aj d b) f false h) (fun x=>tK ..) k.b (.inl (hB h h1 h2)) fun x hx hm hl=>?_
  have hx1:mz (aj d b) f false h x≠0:=by
   intro hx0
   have hall:∀ y∈aG d h (below b b.length),mz (aj d b) f false h y=0:=fun y hy=>by
    have h3:=hm y hy
    have h4:=tK (aj d b) f false h y
    omega
   apply hl
   refine (tQ (gE ..) (eK g.less _ h (Tf _) h1)).2 fun z hz=>?_
   rcases (cv g.less h1).1 hz with ⟨h3,h4⟩ | ⟨w,h3,h4⟩
   ·have:=hall none h3
    simp only [mz,T0,T9] at this
    split at this
    ·rename_i h5
     cases h5
     exact h4
    ·omega
   ·have:=hall (some w) h3
    simp only [mz,T0,T9] at this
    split at this
    ·rename_i h5
     rw [h5,Tw] at h4
     exact h4
    ·omega
  cases x with
  | none =>
   left
   refine ⟨rfl,fun h3=>hx1 ?_⟩
   simp [mz,h3]
  | some w =>
   right
   refine ⟨w,rfl,fun h3=>hx1 ?_⟩
   simp [mz,h3]
 hc p:=by
  refine j7 (rate:=vK (bm a c o d) false) (fun x=>Ab ..) k.c ?_ fun x hx hm=>?_
  ·by_cases hp:p∈j5 a c
   ·exact .inl (hS p hp).2
   ·exact .inr fun e he hw=>hp ((kr ..).2 (.inr ⟨e,he,hw⟩))
  ·constructor
   ·rintro ⟨w,hw⟩ rfl
    have:=hm (some w) hw
    simp only [vK,T0,T9] at this
    split at this<;>omega
   ·rintro ⟨y,hy,hy1⟩
    have:=hm y hy
    cases y with
    | none=>cases hy1
    | some w =>
     cases x with
     | none =>
      simp only [vK,T0,T9,hy1,T6] at this
      omega
     | some z =>
      simp only [vK,T0,T9,hy1,T6] at this
      split at this
      ·assumption
      ·omega
end
end
section
theorem JY (q:cT):(.mp false (mq q).1 (mq q).2:D)=dM q:=rfl
section
variable (n:Nat) (f d k:Int) (most:Bool) (a b c:Option (List E9)) (o:Option (List E5)) (ha:(a.getD []).length*72≤140737488351232) (hb:(b.getD []).length*72≤140737488351232) (hc:(c.getD []).length*72≤140737488351232) (ho:(o.getD []).length*40≤140737488351232)
include ha hb hc ho
theorem Lp (he:aQ (aA a b c o) false true 0 f [d,k]≠0):FN (n+107) 66 [d9 a,d9 b,d9 c,d5 o,il f,il d,il k,bl most]=some (0,[.d (dT none),.d (dT none),.d (dT none),.d (il (aQ (aA a b c o) false true 0 f [d,k]))]):=by
 rw [FS,Fj]
 simp only [G66,ah,s79,ab,ac,ag,aM,bL,ja (n+96) 0 f d k a b c o ha hb hc ho false true]
 simp only [df,T5 he,ab,ac,ag,ae,aL,aa]
 rw [T1 (by simpa using he)]
 simp [dT,dR]
theorem Lo (he:aQ (aA a b c o) false true 0 f [d,k]=0) :
  ∃ S B W:cT,(∀ p∈j5 (au k (a.getD [])) (au k (c.getD [])),bM S p=some (bH (au k (a.getD [])) (au k (b.getD [])) d f most p)∧bM W p=some (bA (au k (a.getD [])) (au k (c.getD [])) (dj k (o.getD [])) d most p)) ∧
   (∀ h,1≤h→h≤99→bM B h=some (bB (au k (b.getD [])) d f most h)) ∧
   FN (n+107) 66 [d9 a,d9 b,d9 c,d5 o,il f,il d,il k,bl most]=some (0,[.d (dT (bx (aS d (bM S) (au k (a.getD []))))),.d (dT (bx (aS d (bM B) (au k (b.getD []))))),.d (dT (bx (aS d (bM W) (au k (c.getD []))))),.d (il 0)]):=by
 have g:=f8 k he
 have la:=g.la;have lb:=g.lb;have lc:=g.lc;have lo:=g.lo
 have hp:∀ q:List D→aq,(RP (n+106)).ptrW 4 (an (bo k a) (bo k b) (bo k c) (f7 k o)) q=q [d9 (bo k a),d9 (bo k b),d9 (bo k c),d5 (f7 k o)]:=fun q=>bP _ 4 q rfl
 obtain ⟨B,q,hq,hB,h1⟩:=l66_1 n (bo k a) (bo k b) (bo k c) (f7 k o) d f most g.less (by omega) ([],[]) ([],[])
 have hlen:((bx (j5 ((bo k a).getD []) ((bo k c).getD []))).getD []).length≤1000000:=by
  rw [aJ]
  have:=E7 ((bo k a).getD []) ((bo k c).getD [])
  omega
 obtain ⟨S,W,hS,h6⟩:=l66_6 n (bo k a) (bo k b) (bo k c) (f7 k o) d f most g.less (by omega) g.fam (c5 he).1 (by omega) (by omega) (by omega) (bx (j5 ((bo k a).getD []) ((bo k c).getD []))) hlen (mq B) q hq
 rw [aJ] at hS
 simp only [aw,cB] at hS hB
 refine ⟨S,B,W,hS,hB,?_⟩
 have h142:=s142 (n+100) (bo k a) (bo k b) (bo k c) (d5 (f7 k o)) (by omega) (by omega)
 have h148:=s148 (n+104) d S B W (bo k a) (bo k b) (bo k c) (f7 k o) la lb lc
 simp only [aw] at h148
 rw [FS,Fj]
 simp only [G66,ah,s79,ab,ac,ag,aM,bL,ja (n+96) 0 f d k a b c o ha hb hc ho false true]
 simp only [df,he,T6,ab,ac,ag,ae,aL,X5,Tx,Tk,aa,T0,T9,sj,aD,h1]
 simp only [ab,ac,ag,bu,bt,hp,ak,ar,h142,cA,aD,h6,ao,lF,h148]
end
end
section
theorem lU {d who:Int}:∀ {l:List (E9×Nat)} {j:Int},(j,none)∈bF d who l→j=-1
 | [],j,h=>by
  simp only [bF,Tw,Ty] at h
  exact h.1
 | (e,i)::r,j,h=>by
  simp only [bF] at h
  split at h
  ·rcases Ti.1 h with h | h
   ·cases h
   ·split at h
    ·cases h
    ·exact lU h
  ·exact lU h
theorem ju {d who:Int} {l:List E9} (h:none∈aG d who (below l l.length)):((-1:Int),none)∈bF d who (jc l):=by
 obtain ⟨j,hj⟩:=fu h
 have:=lU hj
 subst this
 exact hj
theorem kI {d who:Int} {S:Int→Option Int} {l:List E9} {j:Int} {x:Option Int} {Q:Option Int→Prop} (hok:∀ e∈l,pt e) (hS:S who=some j) (h:(j,x)∈bF d who (jc l)) (hq:Q x):du d who S l Q:=⟨x,sm hok hS h,fv h,hq⟩
def RecB (d f:Int) (b:List E9) (B:cT) (g w:Int) (B':cT):Prop:=(∀ h,w < h→bM B' h=bM B h)∧Chain d f b (bM B') w
section
variable (a b c:Option (List E9)) (o:Option (List E5)) (d f:Int) (S W:cT) (hb:dh (b.getD [])) (hl:(b.getD []).length≤1000000)
def Q150 (B:cT) (g:Int) (os:List (Int×Option Int)) (r:aq):Prop :=
 (∃ j w B' q,(j,some w)∈os∧RecB d f (b.getD []) (dx B g j) g w B'∧r=some (1,[.d (an a b c o),.d (il d),.m q,.d (an a b c o),.d (il d),.m (mq W),.m (mq B'),.m (mq S),.d (an a b c o),.d (il g)])) ∨
 ((∀ p∈os,∀ w,p.2=some w→f∉aj d (b.getD []) w) ∧
  ((∃ q,r=some (2,[.d (an a b c o),.d (il d),.m q,.d (an a b c o),.d (il d),.m (mq W),.m (mq B),.m (mq S),.d (an a b c o),.d (il g)])∧∀ p∈os,p.2≠none) ∨
   (∃ q,r=some (0,[.d (an a b c o),.d (il d),.m q,.d (an a b c o),.d (il d),.m (mq W),.m (mq B),.m (mq S),.d (an a b c o),.d (il g)]))))
include hb hl
theorem l150 (n:Nat) (g:Int) (hg:g≤99) (B:cT)
  (ih:∀ j w,1≤w→w < g→f∈aj d (b.getD []) w→∃ B',RecB d f (b.getD []) (dx B g j) g w B'∧FN (n+106) 1000150 [dM S,dM (dx B g j),dM W,an a b c o,il w,il f,il d]=some (0,[.d (dM S),.d (dM B'),.d (dM W)])) :
  Q150 a b c o d f S W B g (bF d g (jc (b.getD []))) (ax [ii (RP (n+106)) (il g) (il f) (an a b c o) (il d)] M0 0 [il d,il (((b.getD []).length:Int) - 1),an a b c o,il d,.m ([],[]),an a b c o,il d,.m (mq W),.m (mq B),.m (mq S),an a b c o,il g]):=by
 refine mS (σ:=Mr) (b.getD []) hl d g [ii (RP (n+106)) (il g) (il f) (an a b c o) (il d)] (fun m q=>(0,[.d (il d),.d (il ((m:Int) - 1)),.d (an a b c o),.d (il d),.m q,.d (an a b c o),.d (il d),.m (mq W),.m (mq B),.m (mq S),.d (an a b c o),.d (il g)])) (fun _ q=>ci d (b.getD []) q) (fun os _ r=>Q150 a b c o d f S W B g os r) ?_ ?_ ([],[]) (kq _ _)
 ·intro q k _
  refine ⟨_,rfl,.inr ⟨fun p hp w hw=>?_,.inr ⟨q,by simp [ii]⟩⟩⟩
  rw [Tw] at hp
  subst hp;cases hw
 ·intro m e q k he _ hw hm1 hq
  refine ⟨_,rfl,?_⟩
  have ho:=G3 (n+105) a b c o m e g he
  have hbe:=hb e (Vb he)
  obtain ⟨q',hq',h161⟩:=C2 a b c o d hb hl 100 (n+1) e.b q hbe.1 (by omega) (by omega) hq
  have hlen:(aj d (b.getD []) e.b).length≤1000000:=by
   have:=gD (gE d (b.getD []) e.b) fun x hx=>by
    have:=bK hb _ e.b x (Tf _) hbe.1 hx
    omega
   omega
  have h149:=C4 (n+104) (some (aj d (b.getD []) e.b)) f (by simp only [T7];omega)
  simp only [T7] at h149
  have h161':FN (n+106) 1000161 [an a b c o,il d,.mp false q.1 q.2,il e.b,an a b c o,il d]=some (0,[.d (dI (some (aj d (b.getD []) e.b))),.d (an a b c o),.d (il d),.d (.mp false q'.1 q'.2)]):=h161
  have hnn:¬ ((m:Nat):Int) < 0:=by omega
  have hnn':(0:Int)≤((m:Nat):Int):=by omega
  simp only [hm1,ii,ac,ag,bu,bt,ae,bQ,aa]
  rw [T1 (by simp)]
  simp only [ah,ho,ab,ac,ag,aP,aa,br,hw,jN,aK,ao,ca,h161',cd,h149,aC,cu]
  refine ⟨fun hc=>?_,fun hc=>⟨hq,?_⟩⟩
  ·obtain ⟨h2,h3⟩:=hc
   by_cases hx:f∈aj d (b.getD []) e.b
   ·left
    intro os
    obtain ⟨B',hB,hr⟩:=ih m e.b hbe.1 (by omega) hx
    refine .inl ⟨m,e.b,B',q',by simp,hB,?_⟩
    simp [h2,h3,hx,hnn,h161',h149,ca,cd,cu,JY,oL,hr]
   ·right
    refine ⟨q',hq',fun os r h=>?_,fun hs=>?_,fun hs=>?_⟩
    ·rcases h with ⟨j,w,B',q,h4,h5,h6⟩ | ⟨h4,h5⟩
     ·exact .inl ⟨j,w,B',q,by simp [h4],h5,h6⟩
     ·refine .inr ⟨fun p hp w hw=>?_,?_⟩
      ·rcases Ti.1 hp with rfl | hp
       ·cases hw;exact hx
       ·exact h4 p hp w hw
      ·rcases h5 with ⟨q,h6,h7⟩ | h5
       ·refine .inl ⟨q,h6,fun p hp=>?_⟩
        rcases Ti.1 hp with rfl | hp
        ·simp
        ·exact h7 p hp
       ·exact .inr h5
    ·refine .inr ⟨(fun p hp=>by cases hp),.inl ⟨q',?_,fun p hp=>by cases hp⟩⟩
     simp [h2,h3,hx,hnn,h161',h149,ca,cd,dV,hs]
    ·simp [h2,h3,hx,hnn,h161',h149,ca,cd,dV,hs]
  ·by_cases h2:e.a=g
   ·have h3:¬ bh e.f1 e.t2 d=true:=fun h=>hc ⟨h2,h⟩
    simp [h2,h3]
   ·simp [h2]
theorem s150 (hk:∀ e∈b.getD [],pt e):∀ (N n:Nat) (g:Int) (B:cT),1≤g→g.toNat≤N→g≤99→f∈aj d (b.getD []) g →
  ∃ B',(∀ h,g < h→bM B' h=bM B h)∧Chain d f (b.getD []) (bM B') g∧FN (n+N+106) 1000150 [dM S,dM B,dM W,an a b c o,il g,il f,il d]=some (0,[.d (dM S),.d (dM B'),.d (dM W)]):=by
 intro N
 induction N with
 | zero=>intro n g B h1 h2;omega
 | succ N ih =>
  intro n g B h1 h2 h3 h4
  have hp:∀ q:List D→aq,(RP (n+N+106)).ptrW 4 (an a b c o) q=q [d9 a,d9 b,d9 c,d5 o]:=fun q=>bP _ 4 q rfl
  have hpi:∀ k:aq,(RP (n+N+106)).isPtr (an a b c o) k=k:=fun k=>cW _ _ k
  have hw0:IntKind.i64.wrap (((b.getD []).length:Int) - 1)=((b.getD []).length:Int) - 1:=aE (by omega) (by omega)
  have hl150:=l150 a b c o d f S W hb hl (n+N) g h3 B fun j w hw1 hw2 hw3=>by
   obtain ⟨B',i1,i2,i3⟩:=ih n w (dx B g j) hw1 (by omega) (by omega) hw3
   exact ⟨B',⟨i1,i2⟩,i3⟩
  rw [show n+(N+1)+106=(n+N+106)+1 by omega,FS,xF]
  simp only [xG,oL,hpi,hp,ak,ar,cS,ae,br,hw0,aD,sj]
  rcases hl150 with ⟨j,w,B',q,h5,⟨h6,h7⟩,h8⟩ | ⟨h5,h6⟩
  ·rw [h8]
   have hwg:=co hb (fv h5)
   refine ⟨B',fun h hh=>?_,?_,?_⟩
   ·rw [h6 h (by omega),cJ,T5 (by omega)]
   ·exact .step (kI hk (by rw [h6 g (by omega),cJ,T1 rfl]) h5 rfl) h7
   ·simp only [bY,bu,bt,lF,ao]
  ·have hn:none∈aG d g (below (b.getD []) (b.getD []).length)∧f=g:=by
    rcases (cv hb h1).1 h4 with h | ⟨w,h7,h8⟩
    ·exact h
    ·obtain ⟨j,hj⟩:=fu h7
     exact absurd h8 (h5 _ hj w rfl)
   obtain ⟨hn,rfl⟩:=hn
   rcases h6 with ⟨q,_,h7⟩ | ⟨q,h7⟩
   ·exact absurd rfl (h7 _ (ju hn))
   ·rw [h7]
    refine ⟨dx B f (-1),fun h hh=>by rw [cJ,T5 (by omega)],.stop (kI hk (by rw [cJ,T1 rfl]) (ju hn) rfl) rfl,?_⟩
    simp [cu,lF]
end
end
section
section
variable (n:Nat) (a b c:Option (List E9)) (o:Option (List E5)) (d p:Int) (S B W:cT)
def Q200 (os:List (Int×Option Int)) (r:aq):Prop :=
 (∃ j x,(j,x)∈os∧f0 x≠0∧r=some (0,[.m (mq (dx S p j)),.m (mq B),.m (mq W),.d (an a b c o),.d (il p)])) ∨
 ((∀ q∈os,f0 q.2=0)∧(r=some (1,[.m (mq S),.m (mq B),.m (mq W),.d (an a b c o),.d (il p)])∨r=some (2,[.m (mq S),.m (mq B),.m (mq W),.d (an a b c o),.d (il p)])))
theorem l200 (ha:(a.getD []).length≤1000000):Q200 a b c o p S B W (bF d p (jc (a.getD [])))
  (ax [ie (RP (n+1)) (il p)] M0 0 [il d,il (((a.getD []).length:Int) - 1),.m (mq S),.m (mq B),.m (mq W),an a b c o,il p]):=by
 refine mS (σ:=Unit) (a.getD []) ha d p [ie (RP (n+1)) (il p)] (fun m _=>(0,[.d (il d),.d (il ((m:Int) - 1)),.m (mq S),.m (mq B),.m (mq W),.d (an a b c o),.d (il p)])) (fun _ _=>True) (fun os _ r=>Q200 a b c o p S B W os r) ?_ ?_ () trivial
 ·intro _ k _
  refine ⟨_,rfl,.inr ⟨fun q hq=>?_,.inr (by simp [ie])⟩⟩
  rw [Tw] at hq
  subst hq;rfl
 ·intro m e _ k he _ hw hm1 _
  refine ⟨_,rfl,?_⟩
  have ho:=vm n a b c o m e p he
  simp only [hm1,ie,ac,ag,bu,bt,ae,bQ,aa]
  rw [T1 (by simp)]
  simp only [ah,ho,ab,ac,ag,aP,aa,br,hw,jN,aK,ao,aL,cu]
  refine ⟨fun hc=>?_,fun hc=>⟨trivial,?_⟩⟩
  ·obtain ⟨h2,h3⟩:=hc
   by_cases hx:e.b=0
   ·right
    refine ⟨(),trivial,fun os r h=>?_,fun hs=>?_,fun hs=>?_⟩
    ·rcases h with ⟨j,x,h4,h5,h6⟩ | ⟨h4,h5⟩
     ·exact .inl ⟨j,x,by simp [h4],h5,h6⟩
     ·refine .inr ⟨fun q hq=>?_,h5⟩
      rcases Ti.1 hq with rfl | hq
      ·exact hx
      ·exact h4 q hq
    ·refine .inr ⟨(fun q hq=>by cases hq),.inl ?_⟩
     simp [h2,h3,hx,dV,hs]
    ·simp [h2,h3,hx,dV,hs]
   ·left
    intro os
    refine .inl ⟨m,some e.b,by simp,hx,?_⟩
    simp [h2,h3,hx,cu]
  ·by_cases h2:e.a=p
   ·have h3:¬ bh e.f1 e.t2 d=true:=fun h=>hc ⟨h2,h⟩
    simp [h2,h3]
   ·simp [h2]
def Kg (d p:Int) (a:List E9) (S S':cT):Prop :=
 (∀ q,q≠p→bM S' q=bM S q)∧(bM S p≠none→S'=S)∧(bM S p=none→(∃ x∈aG d p (below a a.length),f0 x≠0)→∃ j x,bM S' p=some j∧(j,x)∈bF d p (jc a)∧f0 x≠0)
theorem s200 (ha:(a.getD []).length≤1000000):∃ S',Kg d p (a.getD []) S S'∧FN (n+2) 1000200 [dM S,dM B,dM W,an a b c o,il p,il d]=some (0,[.d (dM S'),.d (dM B),.d (dM (dx W p (-1)))]):=by
 have hp:∀ q:List D→aq,(RP (n+1)).ptrW 4 (an a b c o) q=q [d9 a,d9 b,d9 c,d5 o]:=fun q=>bP _ 4 q rfl
 have hpi:∀ k:aq,(RP (n+1)).isPtr (an a b c o) k=k:=fun k=>cW _ _ k
 have hw0:IntKind.i64.wrap (((a.getD []).length:Int) - 1)=((a.getD []).length:Int) - 1:=aE (by omega) (by omega)
 rw [FS,xz]
 simp only [xA,oL,A9,ae]
 cases hS:bM S p with
 | some j =>
  refine ⟨S,⟨fun _ _=>rfl,fun _=>rfl,fun h=>by rw [hS] at h;cases h⟩,?_⟩
  simp [aP,cu,lF]
 | none =>
  simp only [aP,aa,V1,T6,hpi,hp,ak,cS,br,hw0,aD]
  rcases l200 n a b c o d p S B W ha with ⟨j,x,h1,h2,h3⟩ | ⟨h1,h2⟩
  ·refine ⟨dx S p j,⟨fun q hq=>by rw [cJ,T5 hq],fun h=>absurd hS h,fun _ _=>⟨j,x,by rw [cJ,T1 rfl],h1,h2⟩⟩,?_⟩
   rw [h3]
   simp [cu,lF]
  ·refine ⟨S,⟨fun _ _=>rfl,fun h=>absurd hS h,fun _ h=>?_⟩,?_⟩
   ·obtain ⟨x,hx,hx0⟩:=h
    obtain ⟨j,hj⟩:=fu hx
    exact absurd (h1 _ hj) hx0
   ·rcases h2 with h2 | h2
    ·rw [h2];simp [cu,lF]
    ·rw [h2];simp [cu,lF,aL]
end
end
section
def AY (W:Int→Bool×Bool):Int×Int→List (Int×Option Int)→Int×Int
 | s,[]=>s
 | s,(_,none)::os=>AY W s os
 | s,(j,some z)::os=>AY W (if (ba W (some z)).1=true∧s.1 < 0 then (j,z) else s) os
theorem uf {W:Int→Bool×Bool}:∀ {os:List (Int×Option Int)} {s:Int×Int},0≤s.1→AY W s os=s
 | [],_,_=>rfl
 | (_,none)::os,s,h=>uf (os:=os) h
 | (j,some z)::os,s,h=>by
  rw [AY,T5 (fun e=>by omega)]
  exact uf h
theorem ug {W:Int→Bool×Bool}:∀ {os:List (Int×Option Int)} {s:Int×Int},(∀ q∈os,q.2≠none→0≤q.1)→s.1 < 0→(∃ j z,(j,some z)∈os∧(ba W (some z)).1=true) →
  ((AY W s os).1,some (AY W s os).2)∈os∧(ba W (some (AY W s os).2)).1=true
 | [],s,_,_,⟨_,_,h,_⟩=>by cases h
 | (i,none)::os,s,h0,hs,⟨j,z,h,hz⟩=>by
  have h':(j,some z)∈os:=by
   rcases Ti.1 h with h | h
   ·cases h
   ·exact h
  obtain ⟨h1,h2⟩:=ug (W:=W) (os:=os) (s:=s) (fun q hq=>h0 q (by simp [hq])) hs ⟨j,z,h',hz⟩
  exact ⟨Ts _ h1,h2⟩
 | (i,some y)::os,s,h0,hs,⟨j,z,h,hz⟩=>by
  rw [AY]
  by_cases hy:(ba W (some y)).1=true
  ·rw [T1 ⟨hy,hs⟩]
   have hi:0≤i:=h0 (i,some y) (by simp) (by simp)
   rw [uf (s:=(i,y)) hi]
   exact ⟨by simp,hy⟩
  ·rw [T5 (fun e=>hy e.1)]
   have h':(j,some z)∈os:=by
    rcases Ti.1 h with h | h
    ·cases h;exact absurd hz hy
    ·exact h
   obtain ⟨h1,h2⟩:=ug (W:=W) (os:=os) (s:=s) (fun q hq=>h0 q (by simp [hq])) hs ⟨j,z,h',hz⟩
   exact ⟨Ts _ h1,h2⟩
theorem nW {d who:Int}:∀ {l:List (E9×Nat)} {q:Int×Option Int},q∈bF d who l→q.2≠none→0≤q.1
 | [],q,h,hn=>by
  simp only [bF,Tw] at h
  subst h;exact absurd rfl hn
 | (e,i)::r,q,h,hn=>by
  simp only [bF] at h
  split at h
  ·rcases Ti.1 h with h | h
   ·subst h;simp only;omega
   ·split at h
    ·cases h
    ·exact nW h hn
  ·exact nW h hn
section
variable (n:Nat) (a b c:Option (List E9)) (o:Option (List E5)) (d p:Int) (S B W:cT) (hd:0≤d∧d≤4166) (ha:(a.getD []).length≤1000000) (hc:(c.getD []).length≤1000000) (ho:(o.getD []).length≤1000000)
def oo (s:Int×Int):List Yr:=[.d (il s.1),.d (il s.2),.m (mq S),.m (mq B),.m (mq W),.d (an a b c o),.d (il p)]
def Q151 (os:List (Int×Option Int)) (s:Int×Int) (r:aq):Prop :=
 (r=some (1,oo a b c o p S B W (AY (bm (a.getD []) (c.getD []) (o.getD []) d) s os))∧∀ q∈os,q.2≠none)∨((∃ s',r=some (2,oo a b c o p S B W s'))∧∃ q∈os,q.2=none)
include hd ha hc ho
theorem l151 (s:Int×Int):Q151 a b c o d p S B W (bF d p (jc (c.getD []))) s
  (ax [ig (RP (n+6)) (il p) (an a b c o) (il d)] M0 0 (.d (il d)::.d (il (((c.getD []).length:Int) - 1))::oo a b c o p S B W s)):=by
 refine mS (σ:=Int×Int) (c.getD []) hc d p [ig (RP (n+6)) (il p) (an a b c o) (il d)] (fun m s=>(0,.d (il d)::.d (il ((m:Int) - 1))::oo a b c o p S B W s)) (fun _ _=>True) (fun os s r=>Q151 a b c o d p S B W os s r) ?_ ?_ s trivial
 ·intro s k _
  refine ⟨_,rfl,.inr ⟨⟨s,by simp [ig,oo]⟩,(-1,none),by simp,rfl⟩⟩
 ·intro m e s k he _ hw hm1 _
  refine ⟨_,rfl,?_⟩
  have ho':=G2 (n+5) a b c o m e p he
  have h196:=Ls n a b c o d e.b hd ha hc ho
  have hp:∀ q:List D→aq,(RP (n+6)).ptrW 4 (an a b c o) q=q [d9 a,d9 b,d9 c,d5 o]:=fun q=>bP _ 4 q rfl
  have hnn:¬ ((m:Nat):Int) < 0:=by omega
  simp only [hm1,ig,oo,ac,ag,bu,bt,ae,bQ,aa]
  rw [T1 (by simp)]
  simp only [ah,ho',ab,ac,ag,aP,aa,br,hw,jN,aK,ao,aC,aV,hp,h196]
  refine ⟨fun hc=>.inr ?_,fun hc=>⟨trivial,?_⟩⟩
  ·obtain ⟨h2,h3⟩:=hc
   refine ⟨if (ba (bm (a.getD []) (c.getD []) (o.getD []) d) (some e.b)).1=true∧s.1 < 0 then ((m:Int),e.b) else s,trivial,fun os r h=>?_,fun hs=>.inl ⟨?_,fun q hq=>by cases hq⟩,fun hs=>?_⟩
   ·rcases h with ⟨h4,h5⟩ | ⟨h4,q,h5,h6⟩
    ·refine .inl ⟨h4,fun q hq=>?_⟩
     rcases Ti.1 hq with rfl | hq
     ·simp
     ·exact h5 q hq
    ·exact .inr ⟨h4,q,by simp [h5],h6⟩
   all_goals
    by_cases hx:e.b=0
    ·simp [h2,h3,hnn,hx,dV,hs,ba,AY,oo]
    ·by_cases hx1:(bm (a.getD []) (c.getD []) (o.getD []) d e.b).1=true
     ·by_cases hx2:s.1 < 0
      ·simp [h2,h3,hnn,hx,hx1,hx2,hp,h196,dV,hs,ba,AY,oo]
      ·simp [h2,h3,hnn,hx,hx1,hx2,hp,h196,dV,hs,ba,AY,oo]
     ·simp [h2,h3,hnn,hx,hx1,hp,h196,dV,hs,ba,AY,oo]
  ·by_cases h2:e.a=p
   ·have h3:¬ bh e.f1 e.t2 d=true:=fun h=>hc ⟨h2,h⟩
    simp [h2,h3]
   ·simp [h2]
def GoS (S' W':cT):Prop :=
 (S'=S∧W'=dx W p (-1)∧none∈aG d p (below (c.getD []) (c.getD []).length)) ∨
 ∃ j z,(j,some z)∈bF d p (jc (c.getD []))∧(ba (bm (a.getD []) (c.getD []) (o.getD []) d) (some z)).1=true∧W'=dx (dx W p j) z (-1)∧Kg d z (a.getD []) S S'
theorem s151 (hy:∃ y∈aG d p (below (c.getD []) (c.getD []).length),(ba (bm (a.getD []) (c.getD []) (o.getD []) d) y).1=true) :
  ∃ S' W',GoS a c o d p S W S' W'∧FN (n+7) 1000151 [dM S,dM B,dM W,an a b c o,il p,il d]=some (0,[.d (dM S'),.d (dM B),.d (dM W')]):=by
 have hp:∀ q:List D→aq,(RP (n+6)).ptrW 4 (an a b c o) q=q [d9 a,d9 b,d9 c,d5 o]:=fun q=>bP _ 4 q rfl
 have hpi:∀ k:aq,(RP (n+6)).isPtr (an a b c o) k=k:=fun k=>cW _ _ k
 have hw0:IntKind.i64.wrap (((c.getD []).length:Int) - 1)=((c.getD []).length:Int) - 1:=aE (by omega) (by omega)
 rw [FS,xD]
 simp only [xE,oL,ae,hpi,hp,ak,ar,cS,br,hw0,aD]
 have hl:=l151 n a b c o d p S B W hd ha hc ho (-1,0)
 simp only [oo] at hl
 rcases hl with ⟨h1,h2⟩ | ⟨⟨s',h1⟩,q,h2,h3⟩
 ·rw [h1]
  have hz:∃ j z,(j,some z)∈bF d p (jc (c.getD []))∧(ba (bm (a.getD []) (c.getD []) (o.getD []) d) (some z)).1=true:=by
   obtain ⟨y,hy,hy1⟩:=hy
   obtain ⟨j,hj⟩:=fu hy
   cases y with
   | none=>exact absurd rfl (h2 _ hj)
   | some z=>exact ⟨j,z,hj,hy1⟩
  obtain ⟨h4,h5⟩:=ug (s:=(-1,0)) (fun q hq hn=>nW hq hn) (by decide) hz
  generalize AY (bm (a.getD []) (c.getD []) (o.getD []) d) (-1,0) (bF d p (jc (c.getD [])))=s at h1 h4 h5
  obtain ⟨S',hS,h6⟩:=s200 (n+4) a b c o d s.2 S B (dx W p s.1) ha
  refine ⟨S',_,.inr ⟨s.1,s.2,h4,h5,rfl,hS⟩,?_⟩
  simp only [oo,bY,ac,ag,bu,bt,cu,lF,ah,h6,ab,oL,ao]
 ·rw [h1]
  refine ⟨S,dx W p (-1),.inl ⟨rfl,rfl,?_⟩,?_⟩
  ·obtain ⟨j,x⟩:=q
   simp only at h3
   subst h3
   exact fv h2
  ·simp [oo,cu,lF]
end
end
section
theorem D5 {a c:List E9} {o:List E5} {d z:Int} (h:(bm a c o d z).1=true):dJ d z o=false∧(∃ x∈aG d z (below a a.length),f0 x≠0)∧none∈aG d z (below c c.length):=by
 unfold bm at h
 by_cases hb:dJ d z o=true
 ·rw [T1 hb] at h;cases h
 ·rw [T5 hb] at h
  simp only [Te,cN,T4,mc] at h
  obtain ⟨h1,x,h2,h3⟩:=h
  cases x with
  | none=>exact ⟨by simpa using hb,h1,h2⟩
  | some w=>cases h3
theorem MG {a c:List E9} {o:List E5} {d p:Int} (h:(fy a c o d p).1=true):dJ d p o=false∧∃ y∈aG d p (below c c.length),(ba (bm a c o d) y).1=true:=by
 unfold fy at h
 by_cases hb:dJ d p o=true
 ·rw [T1 hb] at h;cases h
 ·rw [T5 hb] at h
  simp only [cN] at h
  exact ⟨by simpa using hb,h⟩
section
variable (n:Nat) (a b c:Option (List E9)) (o:Option (List E5)) (d f p:Int)
def Q67 (os:List (Int×Option Int)) (r:aq):Prop :=
 (∃ j w B' q,(j,some w)∈os∧w≠0∧Chain d f (b.getD []) (bM B') w∧r=some (2,[.m (mq []),.m (mq B'),.m (mq (dx [] p j)),.d (an a b c o),.d (an a b c o),.d (il d),.m q,.d (an a b c o),.d (il d),.d (an a b c o),.d (il p)])) ∨
 ∀ q∈os,∀ w,q.2=some w→f∉aj d (b.getD []) w
theorem l67 (hb:dh (b.getD [])) (hl:(b.getD []).length≤1000000) (hk:∀ e∈b.getD [],pt e) (ha:(a.getD []).length≤1000000) (hf:my (a.getD [])) :
  Q67 a b c o d f p (bF d p (jc (a.getD []))) (ax [Bm (RP (n+206)) (il f) (il p) (il d)] M0 0 [il d,il (((a.getD []).length:Int) - 1),.m ([],[]),.m ([],[]),.m ([],[]),an a b c o,an a b c o,il d,.m ([],[]),an a b c o,il d,an a b c o,il p]):=by
 refine mS (σ:=Mr) (a.getD []) ha d p [Bm (RP (n+206)) (il f) (il p) (il d)] (fun m q=>(0,[.d (il d),.d (il ((m:Int) - 1)),.m (mq []),.m (mq []),.m (mq []),.d (an a b c o),.d (an a b c o),.d (il d),.m q,.d (an a b c o),.d (il d),.d (an a b c o),.d (il p)])) (fun _ q=>ci d (b.getD []) q) (fun os _ r=>Q67 a b c o d f p os r) ?_ ?_ ([],[]) (kq _ _)
 ·intro q k _
  refine ⟨_,rfl,.inr fun q hq w hw=>?_⟩
  rw [Tw] at hq
  subst hq;cases hw
 ·intro m e q k he _ hw hm1 hq
  refine ⟨_,rfl,?_⟩
  have ho:=vm (n+205) a b c o m e p he
  have hfe:=hf e (Vb he)
  obtain ⟨q',hq',h161⟩:=C2 a b c o d hb hl 100 (n+101) e.b q hfe.1 (by omega) (by omega) hq
  have hlen:(aj d (b.getD []) e.b).length≤1000000:=by
   have:=gD (gE d (b.getD []) e.b) fun x hx=>by
    have:=bK hb _ e.b x (Tf _) hfe.1 hx
    omega
   omega
  have h149:=C4 (n+204) (some (aj d (b.getD []) e.b)) f (by simp only [T7];omega)
  simp only [T7] at h149
  have h161':FN (n+206) 1000161 [an a b c o,il d,.mp false q.1 q.2,il e.b,an a b c o,il d]=some (0,[.d (dI (some (aj d (b.getD []) e.b))),.d (an a b c o),.d (il d),.d (.mp false q'.1 q'.2)]):=h161
  have hb0:e.b≠0:=by omega
  simp only [hm1,Bm,ac,ag,bu,bt,ae,bQ,aa]
  rw [T1 (by simp)]
  simp only [ah,ho,ab,ac,ag,aP,aa,br,hw,jN,aK,ao,aL,cu]
  refine ⟨fun hc=>?_,fun hc=>⟨hq,?_⟩⟩
  ·obtain ⟨h2,h3⟩:=hc
   by_cases hx:f∈aj d (b.getD []) e.b
   ·left
    intro os
    obtain ⟨B',_,h5,h6⟩:=s150 a b c o d f (dx [] p m) [] hb hl hk 100 n e.b [] hfe.1 (by omega) hfe.2 hx
    have h6':FN (n+206) 1000150 [dM (dx [] p m),dM [],dM [],an a b c o,il e.b,il f,il d]=_:=h6
    refine .inl ⟨m,e.b,B',q',by simp,hb0,h5,?_⟩
    simp [h2,h3,hb0,hx,h161',h149,ca,cd,cu,JY,oL,h6']
   ·right
    refine ⟨q',hq',fun os r h=>?_,fun hs=>.inr (fun p hp=>by cases hp),fun hs=>?_⟩
    ·rcases h with ⟨j,w,B',q,h4,h5⟩ | h4
     ·exact .inl ⟨j,w,B',q,by simp [h4],h5⟩
     ·refine .inr fun p hp w hw=>?_
      rcases Ti.1 hp with rfl | hp
      ·cases hw;exact hx
      ·exact h4 p hp w hw
    ·simp [h2,h3,hb0,hx,h161',h149,ca,cd,dV,hs]
  ·by_cases h2:e.a=p
   ·have h3:¬ bh e.f1 e.t2 d=true:=fun h=>hc ⟨h2,h⟩
    simp [h2,h3]
   ·simp [h2]
variable (k:Int) (ha:(a.getD []).length*72≤140737488351232) (hb:(b.getD []).length*72≤140737488351232) (hc:(c.getD []).length*72≤140737488351232) (ho:(o.getD []).length*40≤140737488351232)
include ha hb hc ho
theorem Ln (he:aQ (aA a b c o) true true p f [d,k]≠0):FN (n+207) 67 [d9 a,d9 b,d9 c,d5 o,il p,il f,il d,il k]=some (0,[.d (dT none),.d (dT none),.d (dT none),.d (il (aQ (aA a b c o) true true p f [d,k]))]):=by
 rw [FS,zJ]
 simp only [G67,ah,aK,aM,bL,ja (n+196) p f d k a b c o ha hb hc ho true true]
 simp only [df,T5 he,ab,ac,ag,ae,aL,aa]
 rw [T1 (by simpa using he)]
 simp [dT,dR]
theorem Dq (he:aQ (aA a b c o) true true p f [d,k]=0) (hf:d0 (dn k a b c o d p) f=0):FN (n+207) 67 [d9 a,d9 b,d9 c,d5 o,il p,il f,il d,il k]=some (0,[.d (dT none),.d (dT none),.d (dT none),.d (il 3)]):=by
 have g:=f8 k he
 have hp:∀ q:List D→aq,(RP (n+206)).ptrW 4 (an (bo k a) (bo k b) (bo k c) (f7 k o)) q=q [d9 (bo k a),d9 (bo k b),d9 (bo k c),d5 (f7 k o)]:=fun q=>bP _ 4 q rfl
 have h86:=k86 (n+100) d p f (c5 he).1 g
 simp only [aw,cB] at h86
 rw [show bC (au k (a.getD [])) (au k (b.getD [])) (au k (c.getD [])) (dj k (o.getD [])) d p=dn k a b c o d p from rfl,hf] at h86
 rw [FS,zJ]
 simp only [G67,ah,aK,aM,bL,ja (n+196) p f d k a b c o ha hb hc ho true true]
 simp only [df,he,T6,ab,ac,ag,ae,aL,X5,Tx,Tk,aa,T0,T9,hp,ak,ar,h86,aV,T8,T6,ao]
 simp [dT,dR]
theorem Lm (he:aQ (aA a b c o) true true p f [d,k]=0) (hf:d0 (dn k a b c o d p) f≠0) :
  ∃ S B W:cT,ShowP (au k (a.getD [])) (au k (b.getD [])) (au k (c.getD [])) (dj k (o.getD [])) d f p (bM S) (bM B) (bM W) ∧
   FN (n+207) 67 [d9 a,d9 b,d9 c,d5 o,il p,il f,il d,il k]=some (0,[.d (dT (bx (aS d (bM S) (au k (a.getD []))))),.d (dT (bx (aS d (bM B) (au k (b.getD []))))),.d (dT (bx (aS d (bM W) (au k (c.getD []))))),.d (il 0)]):=by
 have g:=f8 k he
 have la:=g.la;have lb:=g.lb;have lc:=g.lc;have lo:=g.lo
 have hk:=yu (bU he) k
 have hf1:1≤f:=by
  unfold aQ at he
  split at he
  ·simp at he
  ·split at he
   ·simp at he
   ·split at he
    ·simp at he
    ·split at he
     ·simp at he
     ·rename_i h2 _
      have h3:1≤f∧f≤99:=by simpa using h2
      exact h3.1
 have hne:∀ e∈au k (c.getD []),e.b≠e.a:=fun e h=>((kj (bU he)).2.2.1 e (gT h)).2.2.2.1
 have hmem:f∈dn k a b c o d p:=by
  unfold d0 at hf
  by_cases h:f∈dn k a b c o d p
  ·exact h
  ·rw [T5 h] at hf;exact absurd rfl hf
 have hmem':f∈bC (au k (a.getD [])) (au k (b.getD [])) (au k (c.getD [])) (dj k (o.getD [])) d p:=hmem
 rw [cz] at hmem'
 obtain ⟨hgo,h,hh,h0,hlead⟩:=hmem'.resolve_left fun e=>by omega
 obtain ⟨hbar,hy⟩:=MG hgo
 have hp:∀ q:List D→aq,(RP (n+206)).ptrW 4 (an (bo k a) (bo k b) (bo k c) (f7 k o)) q=q [d9 (bo k a),d9 (bo k b),d9 (bo k c),d5 (f7 k o)]:=fun q=>bP _ 4 q rfl
 have hpi:∀ q:aq,(RP (n+206)).isPtr (an (bo k a) (bo k b) (bo k c) (f7 k o)) q=q:=fun q=>cW _ _ q
 have h86:=k86 (n+100) d p f (c5 he).1 g
 simp only [aw,cB] at h86
 rw [show bC (au k (a.getD [])) (au k (b.getD [])) (au k (c.getD [])) (dj k (o.getD [])) d p=dn k a b c o d p from rfl] at h86
 have hw0:IntKind.i64.wrap ((((bo k a).getD []).length:Int) - 1)=(((bo k a).getD []).length:Int) - 1:=aE (by omega) (by omega)
 have hl:=l67 n (bo k a) (bo k b) (bo k c) (f7 k o) d f p g.less (by omega) (by rw [aw];exact hk.b) (by omega) g.fam
 rw [Q67] at hl
 rcases hl with ⟨j,w,B,q,h1,h2,h3,h4⟩ | h1
 ·rw [aw] at h1 h3
  obtain ⟨S',W',hG,h5⟩:=s151 (n+199) (bo k a) (bo k b) (bo k c) (f7 k o) d p (dx [] p j) B [] (c5 he).1 (by omega) (by omega) (by omega) (by simp only [aw,cB];exact hy)
  have h148:=s148 (n+204) d S' B W' (bo k a) (bo k b) (bo k c) (f7 k o) la lb lc
  simp only [aw] at h148
  refine ⟨S',B,W',?_,?_⟩
  ·unfold GoS at hG
   simp only [aw,cB] at hG
   have hS0:bM (dx [] p j) p=some j:=by rw [cJ,T1 rfl]
   rcases hG with ⟨rfl,rfl,hn⟩ | ⟨i,z,h6,h7,rfl,h8,h9,h10⟩
   ·exact ⟨hbar,kI hk.a hS0 h1 ⟨h2,h3⟩,kI hk.c (by rw [cJ,T1 rfl]) (ju hn) (.inl rfl)⟩
   ·have hz0:z≠0:=by
     rintro rfl
     simp [ba] at h7
    have h7':(bm (au k (a.getD [])) (au k (c.getD [])) (dj k (o.getD [])) d z).1=true:=by
     simpa [ba,hz0] using h7
    obtain ⟨hb1,hb2,hb3⟩:=D5 h7'
    have hzp:z≠p:=by
     obtain ⟨e,he1,he2,he3,_⟩:=iW _ _ _ _ (fv h6)
     have:=hne e (e8 he1)
     rw [he2,he3] at this
     exact this
    have hSz:bM (dx [] p j) z=none:=by rw [cJ,T5 hzp];rfl
    obtain ⟨j',x,h11,h12,h13⟩:=h10 hSz hb2
    refine ⟨hbar,kI hk.a (by rw [h8 p (Ne.symm hzp),hS0]) h1 ⟨h2,h3⟩,kI hk.c (by rw [cJ,T5 (Ne.symm hzp),cJ,T1 rfl]) h6 (.inr ⟨z,rfl,hz0,hb1,kI hk.a h11 h12 h13,kI hk.c (by rw [cJ,T1 rfl]) (ju hb3) rfl⟩)⟩
  ·rw [FS,zJ]
   simp only [G67,ah,aK,aM,bL,ja (n+196) p f d k a b c o ha hb hc ho true true]
   simp only [df,he,T6,ab,ac,ag,ae,aL,X5,Tx,Tk,aa,T0,T9,hp,ak,ar,h86,aV,hf,hpi,cS,br,hw0,sj,aD,h4]
   have h5':FN (n+206) 1000151 [dM (dx [] p j),dM B,dM [],an (bo k a) (bo k b) (bo k c) (f7 k o),il p,il d]=_:=h5
   simp only [ab,cI,Xk,Vj,ac,ag,bu,bt,lF,ao,h5',oL,hp,ak,ar,h148]
 ·obtain ⟨x,hx,rfl⟩:=(bb ..).1 hh
  obtain ⟨j,hj⟩:=fu hx
  cases x with
  | none=>exact absurd rfl h0
  | some w =>
   rw [aw] at h1
   have:=h1 _ hj w rfl
   rw [aw] at this
   exact absurd hlead this
end
end
section
section
variable {Fn:Nat→List D→aq} {FnD:D→List Sh→List D→aq} {m:Nat}
end
end
section
section
variable {k:Int} {a b c:Option (List E9)} {o:Option (List E5)} {d f:Int} {S B W:Int→Option Int}
abbrev tP (d:Int) (S:Int→Option Int) (l:List E9):Option (List T2):=bx (aS d S l)
theorem pN (p:Int):nQ k a b c o (tP d S (au k (a.getD []))) (tP d B (au k (b.getD []))) (tP d W (au k (c.getD []))) d p=jM (au k (a.getD [])) (au k (b.getD [])) (au k (c.getD [])) (dj k (o.getD [])) (aS d S (au k (a.getD []))) (aS d B (au k (b.getD []))) (aS d W (au k (c.getD []))) d p:=by
 unfold nQ
 rw [aJ,aJ,aJ]
theorem wW (hk:OkK (au k (a.getD [])) (au k (b.getD [])) (au k (c.getD []))):kP k a b c (tP d S (au k (a.getD []))) (tP d B (au k (b.getD []))) (tP d W (au k (c.getD [])))=true:=by
 refine jb.2 ?_
 rw [aJ,aJ,aJ]
 exact hk.true d S B W
theorem EZ (g:GoodK (au k (a.getD [])) (au k (b.getD [])) (au k (c.getD [])) (dj k (o.getD []))) (hk:OkK (au k (a.getD [])) (au k (b.getD [])) (au k (c.getD []))) (hf:f≠0)
  (m:Most (au k (a.getD [])) (au k (b.getD [])) (au k (c.getD [])) (dj k (o.getD [])) d f S B W) :
  zb k a b c o (tP d S (au k (a.getD []))) (tP d B (au k (b.getD []))) (tP d W (au k (c.getD []))) d f=vX k a b c o d f:=by
 unfold zb vX
 congr 1
 funext l
 refine List.filter_congr fun p _=>?_
 rw [pN,X2,Wv,Wv]
 constructor
 ·intro h h0
  exact (A0 g (hk.true d S B W) f).2 h0 h
 ·intro h
  refine Dg g hk m hf ?_
  unfold d0 at h
  by_cases hm:f∈dn k a b c o d p
  ·exact hm
  ·rw [T5 hm] at h;exact absurd rfl h
theorem He (g:GoodK (au k (a.getD [])) (au k (b.getD [])) (au k (c.getD [])) (dj k (o.getD []))) (hk:OkK (au k (a.getD [])) (au k (b.getD [])) (au k (c.getD []))) (hf:f≠0)
  (m:Few (au k (a.getD [])) (au k (b.getD [])) (au k (c.getD [])) (dj k (o.getD [])) d f S B W) :
  zb k a b c o (tP d S (au k (a.getD []))) (tP d B (au k (b.getD []))) (tP d W (au k (c.getD []))) d f=mI k a b c o d f:=by
 unfold zb mI
 congr 1
 funext l
 refine List.filter_congr fun p _=>?_
 rw [pN,X2,Wv,Wv]
 constructor
 ·intro h
  have:=FZ g hk m hf h
  show d0 (bC (au k (a.getD [])) (au k (b.getD [])) (au k (c.getD [])) (dj k (o.getD [])) d p) f=1
  rw [this]
  simp [d0]
 ·intro h
  exact (A0 g (hk.true d S B W) f).1 h
end
section
variable (n:Nat) (p f d k:Int) (a b c:Option (List E9)) (o:Option (List E5)) (ha:(a.getD []).length*72≤140737488351232) (hb:(b.getD []).length*72≤140737488351232) (hc:(c.getD []).length*72≤140737488351232) (ho:(o.getD []).length*40≤140737488351232)
include ha hb hc ho
end
end
section
def iL (d who:Int):List T2→List E9→Option Int→Option Int
 | t::ts,e::l,acc=>iL d who ts l (if e.a=who∧bh t.b t.e d=true then some e.b else acc)
 | _,_,acc=>acc
theorem vP (d who:Int):∀ (ts:List T2) (l:List E9) (acc:Option Int) (R:List E9),ts.length=l.length→aG d who R=[acc]→aG d who ((bi ts l).reverse++R)=[iL d who ts l acc]
 | [],[],acc,R,_,h=>h
 | t::ts,e::l,acc,R,hl,h=>by
  rw [bi,Xp,To,List.singleton_append,iL]
  refine vP d who ts l _ _ (by simpa using hl) ?_
  have h1:(qB t e).a=e.a:=rfl
  have h2:(qB t e).b=e.b:=rfl
  have h3:bh (qB t e).f1 (qB t e).t2 d=bh t.b t.e d:=rfl
  have h4:bq (qB t e).f2 (qB t e).t1 d=bh t.b t.e d:=rfl
  rw [aG,h1,h2,h3,h4]
  by_cases hc:e.a=who∧bh t.b t.e d=true
  ·rw [T1 hc,T1 hc,T1 hc.2]
  ·rw [T5 hc,T5 hc,h]
 | [],_::_,_,_,hl,_=>by simp at hl
 | _::_,[],_,_,hl,_=>by simp at hl
theorem fP {d who:Int} {ts:List T2} {l:List E9} (hl:ts.length=l.length):aG d who (below (bi ts l) (bi ts l).length)=[iL d who ts l none]:=by
 rw [j9,← Tt (bi ts l).reverse]
 exact vP d who ts l none [] hl rfl
def K2 (d:Int) (tb:List T2) (b:List E9):Nat→Int→Int
 | 0,g=>g
 | n+1,g=>match iL d g tb b none with
  | none=>g
  | some w=>K2 d tb b n w
theorem M8 {d:Int} {tb:List T2} {b:List E9} (ht:gV tb b=true) (hl:dh b):∀ (n:Nat) (g:Int),g.toNat≤n→1≤g→K2 d tb b n g∈aj d (bi tb b) g:=by
 intro n
 induction n with
 | zero=>intro g h1 h2;omega
 | succ n ih =>
  intro g h1 h2
  have ho:=fP (d:=d) (who:=g) (da ht)
  have hl':=ky (c9 ht) hl
  rw [cv hl' h2,ho,K2]
  cases hx:iL d g tb b none with
  | none=>exact .inl ⟨by simp,rfl⟩
  | some w =>
   have hw:=co (d:=d) (f:=g) (m:=(bi tb b).length) hl' (w:=w) (by rw [ho,hx];simp)
   exact .inr ⟨w,by simp,ih w (by omega) (by omega)⟩
def L5 (a c:List E9) (o:List E5) (ta tc:List T2) (d p:Int):Bool:=decide (f0 (iL d p ta a none)≠0)&&!dJ d p o&&(iL d p tc c none).isNone
def Gf (a b c:List E9) (o:List E5) (ta tb tc:List T2) (d p:Int):Int :=
 if f0 (iL d p ta a none)=0 then 0 else if dJ d p o=true then 0 else match iL d p tc c none with
  | none=>K2 d tb b 99 (f0 (iL d p ta a none))
  | some z=>if z=0∨L5 a c o ta tc d z=false then 0 else K2 d tb b 99 (f0 (iL d p ta a none))
section
variable {a b c:List E9} {o:List E5} {ta tb tc:List T2} {d:Int}
theorem JP (t:TrueT a b c ta tb tc) (p:Int):(bm (bi ta a) (bi tc c) o d p).1=L5 a c o ta tc d p:=by
 unfold bm L5
 rw [fP (da t.a),fP (da t.c)]
 cases dJ d p o with
 | true=>simp
 | false=>simp
theorem Ge (g:GoodK a b c o) (t:TrueT a b c ta tb tc) (p:Int):Gf a b c o ta tb tc d p=jM a b c o ta tb tc d p:=by
 have g':=g.nar (c9 t.a) (c9 t.b) (c9 t.c)
 have e:bC (bi ta a) (bi tb b) (bi tc c) o d p=[jM a b c o ta tb tc d p]:=yb (fc _ a) (fc _ b) (fc _ c) g'.less g'.fam
 have hm:Gf a b c o ta tb tc d p∈bC (bi ta a) (bi tb b) (bi tc c) o d p:=by
  have ha:=fP (d:=d) (who:=p) (da t.a)
  have hc:=fP (d:=d) (who:=p) (da t.c)
  have hh:f0 (iL d p ta a none)∈aY d p (bi ta a):=(bb ..).2 ⟨_,by rw [ha];simp,rfl⟩
  have hr:=cl g'.fam hh
  rw [cz]
  unfold Gf
  by_cases h0:f0 (iL d p ta a none)=0
  ·rw [T1 h0]
   rw [h0] at hh
   exact .inl ⟨rfl,.inl hh⟩
  ·rw [T5 h0]
   have hld:=M8 (d:=d) t.b g.less 99 (f0 (iL d p ta a none)) (by omega) (by omega)
   by_cases hb:dJ d p o=true
   ·rw [T1 hb]
    exact .inl ⟨rfl,.inr (by unfold fy;rw [T1 hb])⟩
   ·rw [T5 hb]
    have hgo:fy (bi ta a) (bi tc c) o d p=((ba (bm (bi ta a) (bi tc c) o d) (iL d p tc c none)).1,(ba (bm (bi ta a) (bi tc c) o d) (iL d p tc c none)).2):=by
     unfold fy
     rw [T5 hb,hc]
     simp
    cases hy:iL d p tc c none with
    | none =>
     refine .inr ⟨by rw [hgo,hy];rfl,_,hh,h0,hld⟩
    | some z =>
     simp only
     rw [hy] at hgo
     by_cases hz:z=0
     ·rw [T1 (.inl hz)]
      refine .inl ⟨rfl,.inr ?_⟩
      rw [hgo]
      simp [ba,hz]
     ·by_cases hw:L5 a c o ta tc d z=false
      ·rw [T1 (.inr hw)]
       refine .inl ⟨rfl,.inr ?_⟩
       rw [hgo]
       have:=zW (o:=o) (d:=d) (fc ta a) (fc tc c) z
       rw [JP t z,hw] at this
       simp [ba,hz,this]
      ·rw [T5 (by simp [hz,hw])]
       refine .inr ⟨?_,_,hh,h0,hld⟩
       rw [hgo]
       have:=JP (o:=o) (d:=d) t z
       simp only [ba,T5 hz,this]
       simpa using hw
 rw [e,Tw] at hm
 exact hm
end
theorem Lq (n:Nat) (t:T2) (d:Int):FN (n+1) 216 [il t.b,il t.e,il d]=some (0,[.d (bl (bh t.b t.e d))]):=by
 rw [FS,Hy]
 simp only [G216,gM,aa,aC,ao,aK,bh]
 by_cases h:t.b≤d<;>simp [h]
theorem Lr (n:Nat) (t:T2) (e:E9):FN (n+2) 201 [il t.b,il t.e,il e.f1,il e.f2,il e.t1,il e.t2]=some (0,[.d (bl (Cu t e))]):=by
 rw [FS,HJ]
 simp only [G201,ah,JR,ab,ac,aa,aK,ao,Cu]
 by_cases h:e.f1≤t.b∧t.b≤e.f2
 ·simp [h]
 ·have:¬ (e.f1≤t.b∧t.b≤e.f2∧e.t1≤t.e∧t.e≤e.t2):=fun h'=>h ⟨h'.1,h'.2.1⟩
  simp only [h,Tk,T0,T9,this]
theorem qI {α:Type} {l:List α} {i:Nat} (h:i < l.length):∃ t,l[i]?=some t∧l.drop i=t::l.drop (i+1):=⟨l[i],Tc h,Vt h⟩
theorem l202 (n:Nat) (ts:Option (List T2)) (l:Option (List E9)) (hl:(l.getD []).length≤1000000) (he:(ts.getD []).length=(l.getD []).length) (p d:Int) (x1 x2:D) :
  ax [qY (RP (n+1))] M0 0 [dT ts,x1,x2,il p,il d,il (0),d9 l,il (l.getD []).length,il 0]=some (0,[.d (il (f0 (iL d p (ts.getD []) (l.getD []) none)))]):=by
 have:=be (β:=Option Int) (l.getD []) (by omega) (qY (RP (n+1))) (fun i x=>[.d (dT ts),.d x1,.d x2,.d (il p),.d (il d),.d (il (f0 x)),.d (d9 l),.d (il (l.getD []).length),.d (il (i:Nat))]) (fun _ _=>True)
  (fun i r x=>some (0,[.d (il (f0 (iL d p ((ts.getD []).drop i) r x)))])) (fun x q _=>by rw [←he,Vp];simp [qY,iL,he]) ?_ M0 none trivial (cj (by omega))
 ·have h0:f0 none=0:=rfl
  simpa [h0] using this
 ·intro i e r x q hi hd hlt hw _ ih
  have hlt':(i:Int) < ((l.getD []).length:Int):=by omega
  obtain ⟨t,ht,hdt⟩:=qI (l:=ts.getD []) (i:=i) (by omega)
  rw [hdt,iL]
  have ih':=ih (if e.a=p∧bh t.b t.e d=true then some e.b else x) trivial
  simp only [qY,ac,ag,aC,aa,hlt',T8,T6,ct hi,lB ht,rT,r9,ak,ar,aV,ah,Lq n t d,ab,ae,ay,hw,T4]
  rw [←ih']
  by_cases h1:e.a=p
  ·by_cases h2:bh t.b t.e d=true
   ·simp [h1,h2,f0]
   ·simp [h1,h2]
  ·simp [h1]
theorem l203 (n:Nat) (ts:Option (List T2)) (l:Option (List E9)) (hl:(l.getD []).length≤1000000) (he:(ts.getD []).length=(l.getD []).length) (p d:Int) (x1 x2:D) :
  ax [qX (RP (n+1))] M0 0 [x1,x2,dT ts,il p,il d,il (-1),d9 l,il (l.getD []).length,il 0]=some (0,[.d (il (fm (iL d p (ts.getD []) (l.getD []) none)))]):=by
 have:=be (β:=Option Int) (l.getD []) (by omega) (qX (RP (n+1))) (fun i x=>[.d x1,.d x2,.d (dT ts),.d (il p),.d (il d),.d (il (fm x)),.d (d9 l),.d (il (l.getD []).length),.d (il (i:Nat))]) (fun _ _=>True)
  (fun i r x=>some (0,[.d (il (fm (iL d p ((ts.getD []).drop i) r x)))])) (fun x q _=>by rw [←he,Vp];simp [qX,iL,he]) ?_ M0 none trivial (cj (by omega))
 ·have h0:fm none=-1:=rfl
  simpa [h0] using this
 ·intro i e r x q hi hd hlt hw _ ih
  have hlt':(i:Int) < ((l.getD []).length:Int):=by omega
  obtain ⟨t,ht,hdt⟩:=qI (l:=ts.getD []) (i:=i) (by omega)
  rw [hdt,iL]
  have ih':=ih (if e.a=p∧bh t.b t.e d=true then some e.b else x) trivial
  simp only [qX,ac,ag,aC,aa,hlt',T8,T6,ct hi,lB ht,rT,r9,ak,ar,aV,ah,Lq n t d,ab,ae,ay,hw,T4]
  rw [←ih']
  by_cases h1:e.a=p
  ·by_cases h2:bh t.b t.e d=true
   ·simp [h1,h2,fm]
   ·simp [h1,h2]
  ·simp [h1]
section
variable (n:Nat) (a b c:Option (List E9)) (o:Option (List E5)) (ta tb tc:Option (List T2)) (p d:Int) (t:TrueT (a.getD []) (b.getD []) (c.getD []) (ta.getD []) (tb.getD []) (tc.getD [])) (g:GoodK a b c o) (hd:0≤d∧d≤4166)
include t g
theorem s202:FN (n+2) 202 [d9 a,d9 b,d9 c,d5 o,dT ta,dT tb,dT tc,il p,il d]=some (0,[.d (il (f0 (iL d p (ta.getD []) (a.getD []) none)))]):=by
 have la:=g.la
 rw [FS,HI]
 simp only [G202,cS,ae,aD,l202 n ta a (by omega) (da t.a),ab,ac,ao]
theorem s203:FN (n+2) 203 [d9 a,d9 b,d9 c,d5 o,dT ta,dT tb,dT tc,il p,il d]=some (0,[.d (il (fm (iL d p (tc.getD []) (c.getD []) none)))]):=by
 have lc:=g.lc
 rw [FS,HH]
 simp only [G203,cS,ae,aD,l203 n tc c (by omega) (da t.c),ab,ac,ao]
end
end
section
theorem Md (n:Nat) (ts:Option (List T2)) (o:Option (List E9)) (hl:(o.getD []).length≤4611686018427387904) (he:(ts.getD []).length=(o.getD []).length) (x1 x2 x3 x5 x6:D) :
  ax [re (RP (n+2))] M0 0 [d9 o,x1,x2,x3,dT ts,x5,x6,d9 o,il (o.getD []).length,il 0]=if gV (ts.getD []) (o.getD [])=true then some (1,[.d (d9 o),.d x1,.d x2,.d x3,.d (dT ts),.d x5,.d x6]) else some (0,[.d (bl false)]):=by
 have:=be (β:=Unit) (o.getD []) hl (re (RP (n+2))) (fun i _=>[.d (d9 o),.d x1,.d x2,.d x3,.d (dT ts),.d x5,.d x6,.d (d9 o),.d (il (o.getD []).length),.d (il (i:Nat))]) (fun _ _=>True)
  (fun i r _=>if gV ((ts.getD []).drop i) r=true then some (1,[.d (d9 o),.d x1,.d x2,.d x3,.d (dT ts),.d x5,.d x6]) else some (0,[.d (bl false)]))
  (fun _ q _=>by rw [←he,Vp];simp [re,gV,he]) ?_ M0 () trivial (cj hl)
 ·simpa using this
 ·intro i e r _ q hi hd hlt hw _ ih
  have ih':=ih () trivial
  have hlt':(i:Int) < ((o.getD []).length:Int):=by omega
  obtain ⟨t,ht,hdt⟩:=lq (l:=ts.getD []) (i:=i) (by omega)
  rw [hdt,gV]
  simp only [re,ac,ag,aC,aa,hlt',T8,T6,ct hi,lB ht,rT,r9,ak,ar,ah,Lr n t e,ab,aP,aK,ao,ae,ay,hw]
  cases hq:Cu t e with
  | false=>simp
  | true =>
   simp only [Tu,T0,T9,V7]
   exact ih'
theorem Mc (n:Nat) (ts:Option (List T2)) (o:Option (List E9)) (hl:(o.getD []).length≤4611686018427387904) (he:(ts.getD []).length=(o.getD []).length) (x0 x2 x3 x4 x6:D) :
  ax [rb (RP (n+2))] M0 0 [x0,d9 o,x2,x3,x4,dT ts,x6,d9 o,il (o.getD []).length,il 0]=if gV (ts.getD []) (o.getD [])=true then some (1,[.d x0,.d (d9 o),.d x2,.d x3,.d x4,.d (dT ts),.d x6]) else some (0,[.d (bl false)]):=by
 have:=be (β:=Unit) (o.getD []) hl (rb (RP (n+2))) (fun i _=>[.d x0,.d (d9 o),.d x2,.d x3,.d x4,.d (dT ts),.d x6,.d (d9 o),.d (il (o.getD []).length),.d (il (i:Nat))]) (fun _ _=>True)
  (fun i r _=>if gV ((ts.getD []).drop i) r=true then some (1,[.d x0,.d (d9 o),.d x2,.d x3,.d x4,.d (dT ts),.d x6]) else some (0,[.d (bl false)]))
  (fun _ q _=>by rw [←he,Vp];simp [rb,gV,he]) ?_ M0 () trivial (cj hl)
 ·simpa using this
 ·intro i e r _ q hi hd hlt hw _ ih
  have ih':=ih () trivial
  have hlt':(i:Int) < ((o.getD []).length:Int):=by omega
  obtain ⟨t,ht,hdt⟩:=lq (l:=ts.getD []) (i:=i) (by omega)
  rw [hdt,gV]
  simp only [rb,ac,ag,aC,aa,hlt',T8,T6,ct hi,lB ht,rT,r9,ak,ar,ah,Lr n t e,ab,aP,aK,ao,ae,ay,hw]
  cases hq:Cu t e with
  | false=>simp
  | true =>
   simp only [Tu,T0,T9,V7]
   exact ih'
theorem Mb (n:Nat) (ts:Option (List T2)) (o:Option (List E9)) (hl:(o.getD []).length≤4611686018427387904) (he:(ts.getD []).length=(o.getD []).length) (x0 x1:D) :
  ax [ra (RP (n+2))] M0 0 [x0,x1,dT ts,d9 o,il (o.getD []).length,il 0]=if gV (ts.getD []) (o.getD [])=true then some (1,[]) else some (0,[.d (bl false)]):=by
 have:=be (β:=Unit) (o.getD []) hl (ra (RP (n+2))) (fun i _=>[.d x0,.d x1,.d (dT ts),.d (d9 o),.d (il (o.getD []).length),.d (il (i:Nat))]) (fun _ _=>True)
  (fun i r _=>if gV ((ts.getD []).drop i) r=true then some (1,[]) else some (0,[.d (bl false)]))
  (fun _ q _=>by rw [←he,Vp];simp [ra,gV,he]) ?_ M0 () trivial (cj hl)
 ·simpa using this
 ·intro i e r _ q hi hd hlt hw _ ih
  have ih':=ih () trivial
  have hlt':(i:Int) < ((o.getD []).length:Int):=by omega
  obtain ⟨t,ht,hdt⟩:=lq (l:=ts.getD []) (i:=i) (by omega)
  rw [hdt,gV]
  simp only [ra,ac,ag,aC,aa,hlt',T8,T6,ct hi,lB ht,rT,r9,ak,ar,ah,Lr n t e,ab,aP,aK,ao,ae,ay,hw]
  cases hq:Cu t e with
  | false=>simp
  | true =>
   simp only [Tu,T0,T9,V7]
   exact ih'
theorem s152 (n:Nat) (a b c:Option (List E9)) (O:D) (ta tb tc:Option (List T2)) (ha:(a.getD []).length≤4611686018427387904) (hb:(b.getD []).length≤4611686018427387904) (hc:(c.getD []).length≤4611686018427387904) :
  FN (n+3) 152 [d9 a,d9 b,d9 c,O,dT ta,dT tb,dT tc]=some (0,[.d (bl (zq (a.getD []) (b.getD []) (c.getD []) (ta.getD []) (tb.getD []) (tc.getD [])))]):=by
 rw [FS,Ik]
 have nn:∀ {x y:Nat},¬ x=y→(x:Int)≠(y:Int):=fun h h'=>h (by omega)
 simp only [G152,Cm,cS,aL,aa,aK,ao,T4,zq]
 by_cases h1:(ta.getD []).length=(a.getD []).length
 ·rw [T5 (by simp [h1])]
  by_cases h2:(tb.getD []).length=(b.getD []).length
  ·rw [T5 (by simp [h2])]
   by_cases h3:(tc.getD []).length=(c.getD []).length
   ·rw [T5 (by simp [h3])]
    simp only [ae,aD,Md n ta a ha h1]
    cases gV (ta.getD []) (a.getD []) with
    | false=>simp
    | true =>
     simp only [T6,bY,ac,ag,cS,Mc n tb b hb h2]
     cases gV (tb.getD []) (b.getD []) with
     | false=>simp
     | true =>
      simp only [T6,bY,ac,ag,cS,Mb n tc c hc h3]
      cases gV (tc.getD []) (c.getD [])<;>simp
   ·rw [T1 (nn h3),o9 h3];simp
  ·rw [T1 (nn h2),o9 h2];simp
 ·rw [T1 (nn h1),o9 h1];simp
section
variable (n:Nat) (a b c:Option (List E9)) (o:Option (List E5)) (ta tb tc:Option (List T2)) (p d:Int) (t:TrueT (a.getD []) (b.getD []) (c.getD []) (ta.getD []) (tb.getD []) (tc.getD [])) (g:GoodK a b c o) (hd:0≤d∧d≤4166)
include t g
theorem Ao {z:Int} (h:iL d p (tc.getD []) (c.getD []) none=some z):0≤z:=by
 have ho:=fP (d:=d) (who:=p) (da t.c)
 have g':=g.nar (c9 t.a) (c9 t.b) (c9 t.c)
 exact pD (d:=d) (p:=p) (m:=(bi (tc.getD []) (c.getD [])).length) g'.by0 (w:=z) (by rw [ho,h];simp)
theorem DY {g0 w:Int} (h:iL d g0 (tb.getD []) (b.getD []) none=some w):1≤w∧w < g0∧g0≤99:=by
 have ho:=fP (d:=d) (who:=g0) (da t.b)
 exact co (d:=d) (f:=g0) (m:=(bi (tb.getD []) (b.getD [])).length) (ky (c9 t.b) g.less) (w:=w) (by rw [ho,h];simp)
include hd
theorem s204:FN (n+3) 204 [d9 a,d9 b,d9 c,d5 o,dT ta,dT tb,dT tc,il p,il d]=some (0,[.d (bl (L5 (a.getD []) (c.getD []) (o.getD []) (ta.getD []) (tc.getD []) d p))]):=by
 have lo:=g.lo
 rw [FS,HG]
 simp only [G204,ah,s202 n a b c o ta tb tc p d t g,s203 n a b c o ta tb tc p d t g,G6 (n+1) (d9 a) (d9 b) (d9 c) o d p hd (by omega),ab,ac,ae,aL,aa,aP,aC,ao,aK,L5]
 by_cases h0:f0 (iL d p (ta.getD []) (a.getD []) none)=0
 ·simp [h0]
 ·cases dJ d p (o.getD []) with
  | true=>simp [h0]
  | false =>
   cases hy:iL d p (tc.getD []) (c.getD []) none with
   | none=>simp [h0,fm]
   | some z =>
    have:=Ao a b c o ta tb tc p d t g hy
    have hz:¬ z < 0:=by omega
    simp [h0,fm,hz]
omit hd in
theorem l205 (x4 x6:D) (q:Int) :
  ax [qW (RP (n+1))] M0 0 [d9 a,d9 b,d9 c,d5 o,x4,dT tb,x6,il q,il d,il 0,d9 b,il (b.getD []).length,il 0]=some (0,[.d (d9 a),.d (d9 b),.d (d9 c),.d (d5 o),.d x4,.d (dT tb),.d x6,.d (il q),.d (il d),.d (il (f0 (iL d q (tb.getD []) (b.getD []) none)))]):=by
 have lb:=g.lb
 have he:=da t.b
 have:=be (β:=Option Int) (b.getD []) (by omega) (qW (RP (n+1))) (fun i x=>[.d (d9 a),.d (d9 b),.d (d9 c),.d (d5 o),.d x4,.d (dT tb),.d x6,.d (il q),.d (il d),.d (il (f0 x)),.d (d9 b),.d (il (b.getD []).length),.d (il (i:Nat))]) (fun _ _=>True)
  (fun i r x=>some (0,[.d (d9 a),.d (d9 b),.d (d9 c),.d (d5 o),.d x4,.d (dT tb),.d x6,.d (il q),.d (il d),.d (il (f0 (iL d q ((tb.getD []).drop i) r x)))])) (fun x k _=>by rw [←he,Vp];simp [qW,iL,he]) ?_ M0 none trivial (cj (by omega))
 ·have h0:f0 none=0:=rfl
  simpa [h0] using this
 ·intro i e r x k hi hd hlt hw _ ih
  have hlt':(i:Int) < ((b.getD []).length:Int):=by omega
  obtain ⟨t,ht,hdt⟩:=qI (l:=tb.getD []) (i:=i) (by omega)
  rw [hdt,iL]
  have ih':=ih (if e.a=q∧bh t.b t.e d=true then some e.b else x) trivial
  simp only [qW,ac,ag,aC,aa,hlt',T8,T6,ct hi,lB ht,rT,r9,ak,ar,aV,ah,Lq n t d,ab,ae,ay,hw,T4]
  rw [←ih']
  by_cases h1:e.a=q
  ·by_cases h2:bh t.b t.e d=true
   ·simp [h1,h2,f0]
   ·simp [h1,h2]
  ·simp [h1]
omit hd in
theorem s205:∀ (N n:Nat) (q:Int),1≤q→q.toNat≤N→FN (n+N+2) 205 [d9 a,d9 b,d9 c,d5 o,dT ta,dT tb,dT tc,il q,il d]=some (0,[.d (il (K2 d (tb.getD []) (b.getD []) N q))]):=by
 intro N
 induction N with
 | zero=>intro n q h1 h2;omega
 | succ N ih =>
  intro n q h1 h2
  rw [show n+(N+1)+2=(n+N+2)+1 by omega,FS,HF]
  simp only [G205,cS,ae,aD,l205 (n+N+1) a b c o ta tb tc d t g,ab,ac,ag,aV,aa,T4,ao,ah]
  cases hx:iL d q (tb.getD []) (b.getD []) none with
  | none=>simp [f0,K2,hx]
  | some w =>
   have hw:=DY a b c o ta tb tc d t g hx
   rw [T5 (by simp only [f0,T7];omega)]
   have:=ih n w hw.1 (by omega)
   simp only [f0,T7,this,ab,ac,K2,hx]
theorem s153:FN (n+104) 153 [d9 a,d9 b,d9 c,d5 o,dT ta,dT tb,dT tc,il p,il d]=some (0,[.d (il (jM a b c o (ta.getD []) (tb.getD []) (tc.getD []) d p))]):=by
 have lo:=g.lo
 rw [←Ge g t p,FS,Ij]
 have g':=g.nar (c9 t.a) (c9 t.b) (c9 t.c)
 have hr:=cl g'.fam ((bb (d:=d) (p:=p) (a:=bi (ta.getD []) (a.getD [])) (z:=f0 (iL d p (ta.getD []) (a.getD []) none))).2 ⟨_,by rw [fP (da t.a)];simp,rfl⟩)
 simp only [G153,ah,s202 (n+101) a b c o ta tb tc p d t g,s203 (n+101) a b c o ta tb tc p d t g,G6 (n+102) (d9 a) (d9 b) (d9 c) o d p hd (by omega),ab,ac,ae,aV,aa,ck,ao,T4,Gf]
 by_cases h0:f0 (iL d p (ta.getD []) (a.getD []) none)=0
 ·rw [T1 h0,T1 h0]
 ·rw [T5 h0,T5 h0]
  have h205:=s205 a b c o ta tb tc d t g 99 (n+2) (f0 (iL d p (ta.getD []) (a.getD []) none)) (by omega) (by omega)
  have h205':FN (n+103) 205 [d9 a,d9 b,d9 c,d5 o,dT ta,dT tb,dT tc,il (f0 (iL d p (ta.getD []) (a.getD []) none)),il d]=_:=h205
  by_cases hb:dJ d p (o.getD [])=true
  ·rw [T1 hb,T1 hb]
  ·rw [T5 hb,T5 hb]
   cases hy:iL d p (tc.getD []) (c.getD []) none with
   | none=>simp [fm,aK,h205']
   | some z =>
    have hz:=Ao a b c o ta tb tc p d t g hy
    have h204:=s204 (n+100) a b c o ta tb tc z d t g hd
    by_cases hz0:z=0
    ·subst hz0;simp [fm]
    ·have hz1:0 < z:=by omega
     cases hw:L5 (a.getD []) (c.getD []) (o.getD []) (ta.getD []) (tc.getD []) d z with
     | false =>
      rw [hw] at h204
      simp [fm,hz0,hz1,h204,aP,hw]
     | true =>
      rw [hw] at h204
      simp [fm,hz0,hz1,h204,aP,hw,h205']
end
end
section
section
variable (n:Nat) (a b c:List E9) (o:List E5) (ta tb tc:Option (List T2)) (d f:Int) (t:TrueT a b c (ta.getD []) (tb.getD []) (tc.getD [])) (g:GoodK a b c o) (hd:0≤d∧d≤4166) (P:List Int) (hP:P.length≤1000000) (x3 x6:D)
include t g hd hP
omit hP in
theorem k153 (p:Int):FN (n+104) 153 [d9 (bx a),d9 (bx b),d9 (bx c),d5 (bx o),dT ta,dT tb,dT tc,il p,il d]=some (0,[.d (il (jM a b c o (ta.getD []) (tb.getD []) (tc.getD []) d p))]):=by
 have h:=s153 n (bx a) (bx b) (bx c) (bx o) ta tb tc p d (by simp only [aJ];exact t) (by simp only [aJ];exact g) hd
 simp only [aJ] at h
 exact h
theorem l69:ax [Bl (RP (n+104)),Bk (RP (n+104))] M0 0 [dT ta,dT tb,dT tc,x3,il f,il d,x6,dI (bx P),il P.length,il 0,d9 (bx a),d9 (bx b),d9 (bx c),d5 (bx o)] =
  ff [] (fun rs=>[.n rs.length,.n rs.length,.r rs]) ((P.filter fun q=>decide (jM a b c o (ta.getD []) (tb.getD []) (tc.getD []) d q=f)).map rI):=by
 have hk:=k153 n a b c o ta tb tc d t g hd
 rw [←fD]
 refine cq P (by omega) (fun q=>if decide (jM a b c o (ta.getD []) (tb.getD []) (tc.getD []) d q=f) then some (rI q) else none) _ _ (fun i=>[.d (dT ta),.d (dT tb),.d (dT tc),.d x3,.d (il f),.d (il d),.d x6,.d (dI (bx P)),.d (il P.length),.d (il (i:Nat)),.d (d9 (bx a)),.d (d9 (bx b)),.d (d9 (bx c)),.d (d5 (bx o))])
  (fun i rs=>[.d (dT ta),.d (dT tb),.d (dT tc),.d x3,.d (il f),.d (il d),.d x6,.n rs.length,.n rs.length,.d (dI (bx P)),.d (il P.length),.d (il (i:Nat)),.r rs,.d (d9 (bx a)),.d (d9 (bx b)),.d (d9 (bx c)),.d (d5 (bx o))]) [] (fun rs=>[.n rs.length,.n rs.length,.r rs]) ?_ ?_ ?_ ?_
 ·intro k;simp [Bl]
 ·intro rs k;simp [Bk]
 ·intro i q k hi hlt hw
  have hi':((bx P).getD [])[i]?=some q:=by rw [aJ];exact hi
  simp only [Bl,ac,ag,aC,aa,hlt,T8,T6,cQ hi',rI,ak,ah,hk,ab,aV,ae,bj,aI,aM,aR,aU,Tb,Td,Tg,Tq,bT,bc,ay,hw]
  by_cases hc:jM a b c o (ta.getD []) (tb.getD []) (tc.getD []) d q=f
  ·simp only [hc,T8,T6]
   rw [T1 (by simp [])]
  ·simp only [hc,Tk,T9,T0]
 ·intro i q rs k hi hlt hw hrs
  have hi':((bx P).getD [])[i]?=some q:=by rw [aJ];exact hi
  simp only [Bk,ac,ag,b8,aZ,aN,b9,aC,aa,hlt,T8,T6,cQ hi',rI,ak,ah,hk,ab,aV,ae,bj,aI,aM,aR,aU,Tb,Td,Tg,Tq,bc,ay,hw,bV,cX,Tp]
  by_cases hc:jM a b c o (ta.getD []) (tb.getD []) (tc.getD []) d q=f
  ·simp only [hc,T8,T6]
   rw [T1 (by simp [];omega)]
  ·simp only [hc,Tk,T9,T0]
end
section
variable (n:Nat) (p f d k:Int) (a b c:Option (List E9)) (o:Option (List E5)) (ta tb tc:Option (List T2)) (ha:(a.getD []).length*72≤140737488351232) (hb:(b.getD []).length*72≤140737488351232) (hc:(c.getD []).length*72≤140737488351232) (ho:(o.getD []).length*40≤140737488351232)
include ha hb hc ho
omit ha hb hc ho in
theorem MB (he:aQ (aA a b c o) true true p f [d,k]=0):FN (n+3) 152 [d9 (bx (au k (a.getD []))),d9 (bx (au k (b.getD []))),d9 (bx (au k (c.getD []))),d5 (bx (dj k (o.getD []))),dT ta,dT tb,dT tc]=some (0,[.d (bl (kP k a b c ta tb tc))]):=by
 have l:=wc k (bU he)
 have h:=s152 n (bx (au k (a.getD []))) (bx (au k (b.getD []))) (bx (au k (c.getD []))) (d5 (bx (dj k (o.getD [])))) ta tb tc (by rw [aJ];omega) (by rw [aJ];omega) (by rw [aJ];omega)
 simp only [aJ] at h
 exact h
theorem s68:FN (n+105) 68 [d9 a,d9 b,d9 c,d5 o,dT ta,dT tb,dT tc,il p,il f,il d,il k]=if aQ (aA a b c o) true true p 1 [d,k]=0 then (if kP k a b c ta tb tc=true then some (0,[.d (il (nQ k a b c o ta tb tc d p)),.d (il 0)]) else some (0,[.d (il 0),.d (il 37)])) else some (0,[.d (il 0),.d (il (aQ (aA a b c o) true true p 1 [d,k]))]):=by
 rw [FS,NK]
 have h76:=s76 (n+98) p 1 d k a b c o ha hb hc ho
 simp only [G68,ah,aK,s77,ab,ac,ag,T6,T0,T9,h76]
 by_cases he:aQ (aA a b c o) true true p 1 [d,k]=0
 ·have g:=(eC (bU he)).cnt k
  rw [T1 he,T1 he]
  simp only [ab,ac,ag,ae,aL,X5,Tx,Tk,aa,T0,T9,MB (n+101) p 1 d k a b c o ta tb tc he,aP]
  cases ht:kP k a b c ta tb tc with
  | false=>simp
  | true =>
   have t:=jb.1 ht
   simp only [Tu,T0,T9,T6,k153 n _ _ _ _ ta tb tc d t g (c5 he).1 p,ab,ac,ao]
   rfl
 ·rw [T5 he,T5 he]
  simp only [pf,ab,ac,ag,ae,aL,aa]
  rw [T1 (by simpa using he)]
  simp
def MW (k:Int) (a b c:Option (List E9)) (o:Option (List E5)) (ta tb tc:Option (List T2)) (d f:Int):List Int:=(cy (au k (a.getD []))).filter fun p=>decide (nQ k a b c o ta tb tc d p=f)
theorem s69:FN (n+105) 69 [d9 a,d9 b,d9 c,d5 o,dT ta,dT tb,dT tc,il p,il f,il d,il k]=if aQ (aA a b c o) true true 1 f [d,k]=0 then (if kP k a b c ta tb tc=true then some (0,[.d (dI (bx (MW k a b c o ta tb tc d f))),.d (il 0)]) else some (0,[.d (dI none),.d (il 37)])) else some (0,[.d (dI none),.d (il (aQ (aA a b c o) true true 1 f [d,k]))]):=by
 rw [FS,NJ]
 have h76:=s76 (n+98) 1 f d k a b c o ha hb hc ho
 simp only [G69,ah,aK,s77,ab,ac,ag,T6,T0,T9,h76]
 by_cases he:aQ (aA a b c o) true true 1 f [d,k]=0
 ·have g:=(eC (bU he)).cnt k
  have l:=wc k (bU he)
  have lp:=eb (au k (a.getD []))
  have h31:=s31 (n+102) (bx (au k (a.getD []))) (d9 (bx (au k (b.getD [])))) (d9 (bx (au k (c.getD [])))) (d5 (bx (dj k (o.getD [])))) (by rw [aJ];omega)
  rw [aJ] at h31
  rw [T1 he,T1 he]
  simp only [ab,ac,ag,ae,aL,X5,Tx,Tk,aa,T0,T9,MB (n+101) 1 f d k a b c o ta tb tc he,aP]
  cases ht:kP k a b c ta tb tc with
  | false=>simp [dI,dR]
  | true =>
   have t:=jb.1 ht
   simp only [Tu,T0,T9,T6,h31,ab,ac,cA,aJ,aD,l69 n _ _ _ _ ta tb tc d f t g (c5 he).1 (cy (au k (a.getD []))) (by omega)]
   exact EY (R:=fun t=>some (0,[.d t,.d (il 0)])) (by simp) (by intros;simp)
 ·rw [T5 he,T5 he]
  simp only [pf,ab,ac,ag,ae,aL,aa]
  rw [T1 (by simpa using he)]
  simp [dI,dR]
theorem s70:FN (n+105) 70 [d9 a,d9 b,d9 c,d5 o,il k,dT ta,dT tb,dT tc]=some (0,[.d (il (if aQ (aA a b c o) true true 1 1 [0,k]=0 then (if kP k a b c ta tb tc=true then 0 else 37) else aQ (aA a b c o) true true 1 1 [0,k]))]):=by
 rw [FS,NI]
 have h76:=s76 (n+98) 1 1 0 k a b c o ha hb hc ho
 simp only [G70,ah,ae,h76]
 by_cases he:aQ (aA a b c o) true true 1 1 [0,k]=0
 ·rw [T1 he,T1 he]
  simp only [ab,ac,ag,aL,X5,Tx,Tk,aa,T0,T9,MB (n+101) 1 1 0 k a b c o ta tb tc he,aP]
  cases kP k a b c ta tb tc<;>simp
 ·rw [T5 he,T5 he]
  simp only [pf,ab,ac,ag,aL,aa]
  rw [T1 (by simpa using he)]
  simp
def yi (E:Int) (w:Int):Int:=if E=0 then (if w=0 then 3 else 0) else E
theorem s71:FN (n+10) 71 [d9 a,d9 b,d9 c,d5 o,il p,il f,il d,il k]=some (0,[.d (il (yi (aQ (aA a b c o) true true p f [d,k]) (d0 (dn k a b c o d p) f)))]):=by
 rw [FS,NH]
 have h21:=s21 n p f d k a b c o ha hb hc ho
 simp only [G71,ah,h21,yi]
 by_cases he:aQ (aA a b c o) true true p f [d,k]=0
 ·rw [T1 he,T1 he]
  by_cases hw:d0 (dn k a b c o d p) f=0
  ·simp [hw]
  ·simp [hw]
 ·rw [T5 he,T5 he]
  simp [he]
end
end
end Go.VE
