/- Family: loops that put numbers into a list; maps of what is known. -/
import Derived.Test.YtobeabinccohlaaGreatMg2
set_option maxRecDepth 20000
namespace Go.VE
open Go.RowKit Go.Proofs
section
theorem jz (l:List Int) (hl:l.length≤1000000) (body:(Nat→List Yr→aq)→List Yr→aq) (st:Nat→List Int→List Yr) (ex:List Int→aq) (N:Nat)
  (h0:∀ acc k,body k (st l.length acc)=ex acc)
  (h1:∀ (i:Nat) c acc (k:Nat→List Yr→aq),l[i]?=some c→(i:Int) < (l.length:Int)→IntKind.i64.wrap ((i:Int)+1)=((i+1:Nat):Int)→Up acc→acc.length≤N+1000000→body k (st i acc)=k 0 (st (i+1) (ins c acc)))
  (acc:List Int) (hu:Up acc) (hN:acc.length≤N):ax [body] M0 0 (st 0 acc)=ex (aW acc l):=by
 refine be l (by omega) body st (fun i acc=>Up acc∧acc.length≤N+i) (fun _ r acc=>ex (aW acc r)) (fun b k _=>h0 b k) ?_ M0 acc ⟨hu,by omega⟩ (by unfold M0;omega)
 intro i c r acc k hi hd hlt hw hI ih
 obtain ⟨g1,g2⟩:=hI
 rw [h1 i c acc k hi (by omega) (by rw [hw];simp) g1 (by omega)]
 have:=fJ c acc
 rw [ih (ins c acc) ⟨gc c g1,by omega⟩]
 rfl
def enI (z:Nat→List Yr) (st:Nat→List Int→List Yr) (s:Nat×List Int):Nat×List Yr:=match s.2 with
 | []=>(0,z s.1)
 | y::r=>(1,st s.1 (y::r))
theorem yZ (z:Nat→List Yr) (st:Nat→List Int→List Yr) {i:Nat} {acc:List Int} (h:acc≠[]):enI z st (i,acc)=(1,st i acc):=by
 cases acc with
 | nil=>exact absurd rfl h
 | cons _ _=>rfl
theorem lh (l:List Int) (hl:l.length≤1000000) (hne:l≠[]) (b0 b1:(Nat→List Yr→aq)→List Yr→aq) (z:Nat→List Yr) (st:Nat→List Int→List Yr) (ex:List Int→aq)
  (h0:∀ acc k,b1 k (st l.length acc)=ex acc)
  (hz:∀ c (k:Nat→List Yr→aq),l[0]?=some c→(0:Int) < (l.length:Int)→b0 k (z 0)=k 1 (st 1 [c]))
  (h1:∀ (i:Nat) c acc (k:Nat→List Yr→aq),l[i]?=some c→(i:Int) < (l.length:Int)→IntKind.i64.wrap ((i:Int)+1)=((i+1:Nat):Int)→Up acc→acc.length≤1000000→b1 k (st i acc)=k 1 (st (i+1) (ins c acc))) :
  ax [b0,b1] M0 0 (z 0)=ex (aW [] l):=by
 refine e9 (σ:=Nat×List Int) [b0,b1] (enI z st) (fun s=>l.length - s.1) (fun s=>s.1≤l.length∧Up s.2∧s.2.length≤s.1∧(s.2=[]→s.1=0)) (fun s=>ex (aW s.2 (l.drop s.1))) ?_ M0 (0,[]) ⟨by simp,by simp,by simp,fun _=>rfl⟩ (by unfold M0;simp only;omega)
 rintro ⟨i,acc⟩ k ⟨g1,g2,g3,g4⟩ ih
 simp only at g1 g2 g3 g4 ih ⊢
 by_cases h:i < l.length
 ·have hd:=Vt h
  have hi:l[i]?=some l[i]:=Tc h
  have ih':=ih (i+1,ins l[i] acc) ⟨by simp only;omega,gc _ g2,by have:=fJ l[i] acc;simp only;omega,fun h=>absurd h (md _ _)⟩ (by simp only;omega)
  rw [hd,kE]
  rw [yZ _ _ (md _ _)] at ih'
  by_cases ha:acc=[]
  ·subst ha
   have hi0:=g4 rfl
   subst hi0
   exact ⟨b0,rfl,by rw [show (enI z st (0,[])).2=z 0 from rfl,hz _ k hi (by omega)];exact ih'⟩
  ·rw [yZ _ _ ha]
   exact ⟨b1,rfl,by simp only;rw [h1 i _ acc k hi (by omega) (by rw [aE (by omega) (by omega)];simp) g2 (by omega)];exact ih'⟩
 ·have hil:i=l.length:=by omega
  subst hil
  have ha:acc≠[]:=fun h=>hne (Wd (g4 h))
  rw [yZ _ _ ha]
  exact ⟨b1,rfl,by simp only [Vp];exact h0 acc k⟩
section
variable {Fn:Nat→List D→aq} {FnD:D→List Sh→List D→aq} {m:Nat}
theorem cd (q:Mr) (k:Mr→aq):(af Fn FnD m).asM false (.mp false q.1 q.2) k=k q:=rfl
theorem ca (q:Mr):(af Fn FnD m).mpD false q=.mp false q.1 q.2:=rfl
theorem yn (kd:Nat) (mm:Mr) (key:D) (ds:List D) (k:Mr→aq):(af Fn FnD m).upd kd mm key ds k=match rO kd mm key ds with
  | some p=>k p
  | none=>none:=rfl
end
def ci (d:Int) (b:List E9) (q:Mr):Prop:=q.1.length=q.2.length∧∀ (j:Nat) v,q.1[j]?=some v→∃ f:Int,v=.int .i64 f∧q.2[j]?=some [dI (some (aj d b f))]
theorem kq (d:Int) (b:List E9):ci d b ([],[]):=⟨rfl,fun j v h=>by simp at h⟩
theorem oh (f:Int):∀ (keys:List Value) (i:Nat),(∀ v∈keys,∃ g:Int,v=.int .i64 g)→(dY 0 (.int .i64 f) keys i=some none∨∃ j,dY 0 (.int .i64 f) keys i=some (some (i+j))∧keys[j]?=some (.int .i64 f))
 | [],i,_=>.inl rfl
 | x::r,i,h=>by
  obtain ⟨g,rfl⟩:=h x (by simp)
  have ih:=oh f r (i+1) fun v hv=>h v (Ts _ hv)
  have e:dY 0 (.int .i64 f) (.int .i64 g::r) i=if f=g then some (some i) else dY 0 (.int .i64 f) r (i+1):=by
   simp only [dY,Fv,T6]
   by_cases hfg:f=g
   ·subst hfg;simp
   ·have:(f==g)=false:=by simp [hfg]
    simp [this,hfg]
  rw [e]
  by_cases hfg:f=g
  ·subst hfg;exact .inr ⟨0,by simp⟩
  ·rw [T5 hfg]
   rcases ih with ih | ⟨j,h1,h2⟩
   ·exact .inl ih
   ·exact .inr ⟨j+1,by rw [h1];congr 2;omega,by simpa using h2⟩
theorem sv {d:Int} {b:List E9} {q:Mr} (h:ci d b q):∀ v∈q.1,∃ g:Int,v=.int .i64 g:=fun v hv=>by
 obtain ⟨j,hj⟩:=List.getElem?_of_mem hv
 obtain ⟨f,hf,_⟩:=h.2 j v hj
 exact ⟨f,hf⟩
theorem Ck {d:Int} {b:List E9} {q:Mr} (h:ci d b q) (f:Int):jI 0 [.slice none 0 0] q (il f)=some ([dI (some (aj d b f))],bl true)∨jI 0 [.slice none 0 0] q (il f)=some ([.lit (.slice none 0 0)],bl false):=by
 rcases oh f q.1 0 (sv h) with e | ⟨j,e,hj⟩
 ·right;simp only [jI,rU,il,j0,T6,e];rfl
 ·left
  obtain ⟨g,hg,h2⟩:=h.2 j _ hj
  cases hg
  rw [Tz] at e
  simp only [jI,rU,il,j0,T6,e,h2];rfl
theorem DW {d:Int} {b:List E9} {q:Mr} (h:ci d b q) (f:Int):∃ q',rO 0 q (il f) [dI (some (aj d b f))]=some q'∧ci d b q':=by
 rcases oh f q.1 0 (sv h) with e | ⟨j,e,hj⟩
 ·refine ⟨(q.1++[.int .i64 f],q.2++[[dI (some (aj d b f))]]),by simp only [rO,rU,il,j0,T6,e],by simp [h.1],?_⟩
  intro j v hv
  simp only at hv ⊢
  by_cases hj:j < q.1.length
  ·rw [V2 hj] at hv
   obtain ⟨g,h1,h2⟩:=h.2 j v hv
   exact ⟨g,h1,by rw [V2 (by rw [←h.1];exact hj)];exact h2⟩
  ·have hj2:j=q.1.length:=by
    have:=Tn.1 hv
    obtain ⟨h3,_⟩:=this
    simp at h3;omega
   subst hj2
   simp at hv
   exact ⟨f,hv.symm,by rw [h.1];simp⟩
 ·rw [Tz] at e
  refine ⟨(q.1,q.2.set j [dI (some (aj d b f))]),by simp only [rO,rU,il,j0,T6,e],by simp [h.1],?_⟩
  intro i v hv
  simp only at hv ⊢
  obtain ⟨g,h1,h2⟩:=h.2 i v hv
  refine ⟨g,h1,?_⟩
  by_cases hij:j=i
  ·subst hij
   rw [hj] at hv
   cases hv
   have:f=g:=by cases h1;rfl
   subst this
   have hjl:j < q.2.length:=by
    obtain ⟨h3,_⟩:=Tn.1 h2
    exact h3
   simp [hjl]
  ·rw [List.getElem?_set_ne hij];exact h2
end
section
attribute [local simp] cd ca
theorem Cc {m:Nat} {Fn:Nat→List D→aq} {FnD:D→List Sh→List D→aq} (c:Int) (k:Rr→aq) (e:aq):((af Fn FnD m).eqN ((af Fn FnD m).natN 1) ((af Fn FnD m).len ((af Fn FnD m).rows [[il c]])) ((af Fn FnD m).isNil ((af Fn FnD m).seg ((af Fn FnD m).rows [[il c]]) none ((af Fn FnD m).natN 1)) e ((af Fn FnD m).fits 8 ((af Fn FnD m).len ((af Fn FnD m).seg ((af Fn FnD m).rows [[il c]]) none ((af Fn FnD m).natN 1))) ((af Fn FnD m).ins (il 0) ((af Fn FnD m).rows []) ((af Fn FnD m).seg ((af Fn FnD m).rows [[il c]]) none ((af Fn FnD m).natN 1)) k))))=k ([c].map rI):=by
 simp only [bj,aM,aI,aU,Tb,Td,aR,Tg,Tq,bT,bc]
 rw [T1 (by simp),T1 (by simp []),tJ];rfl
theorem tA (q:List Int):(q.map rI).take q.length=q.map rI:=Vc (by simp)
theorem li01 (n:Nat) (L:List Int) (hL:L.length≤1000000) (hne:L≠[]) (q:Mr) (x3 x4 x6 x7 x8 x9 bn x11 x12 x13:D) :
  ax [mw (RP (n+4)),jH (RP (n+4))] M0 0 [dI (some L),il L.length,il 0,x3,x4,.m q,x6,x7,x8,x9,bn,x11,x12,x13] =
   some (1,[.r ((aW [] L).map rI),.d x3,.d x4,.m q,.d x6,.d x7,.n (aW [] L).length,.n (aW [] L).length,.d x8,.d x9,.d bn,.d x11,.d x12,.d x13]):=by
 refine lh L hL hne _ _ (fun i=>[.d (dI (some L)),.d (il L.length),.d (il (i:Nat)),.d x3,.d x4,.m q,.d x6,.d x7,.d x8,.d x9,.d bn,.d x11,.d x12,.d x13])
  (fun i acc=>[.d (dI (some L)),.d (il L.length),.d (il (i:Nat)),.r (acc.map rI),.d x3,.d x4,.m q,.d x6,.d x7,.n acc.length,.n acc.length,.d x8,.d x9,.d bn,.d x11,.d x12,.d x13])
  (fun acc=>some (1,[.r (acc.map rI),.d x3,.d x4,.m q,.d x6,.d x7,.n acc.length,.n acc.length,.d x8,.d x9,.d bn,.d x11,.d x12,.d x13])) ?_ ?_ ?_
 ·intro acc k;simp [jH]
 ·intro c k hi hlt
  have h0:=cQ (Fn:=FN (n+4)) (FnD:=c6 Tryz.prog (di tb Tryz.prog) (FN (n+4))) (m:=M0) (o:=some L) (i:=0) (c:=c) hi
  simp only [mw,ac,ag,aC,aa,V9,hlt,T8,T6]
  rw [show ((il 0):D)=il ((0:Nat):Int) from rfl,h0]
  simp only [rI,ak,ah,cc,tS,ab,ac,ag,aa,T0,T9]
  rw [Cc]
  simp only [ae,ay,bj,aM,aI,aU,Tb,Td,Tg,Tq,V9]
  rw [show IntKind.i64.wrap (0+1)=((1:Nat):Int) from rfl]
  rfl
 ·intro i c acc k hi hlt hw hu hl
  have hi':((some L).getD [])[i]?=some c:=hi
  have hput:=cG n acc c (by omega) hu
  simp only [jH,ac,ag,b8,aZ,aN,b9,aC,aa,hlt,T8,T6,cQ hi',rI,ak,aI,aR,Tj,bL,ah]
  simp only [hput,ab,ac,bR,ae,ay,hw,Tj,bt,bu]
theorem li5 (n:Nat) (L:List Int) (hL:L.length≤1000000) (q:Mr) (x3 x4 x6 x7 x11 x12 x13 x14 x15 x16:D) (acc:List Int) (hu:Up acc) (ha:acc.length≤1000) :
  ax [jG (RP (n+4))] M0 0 [dI (some L),il L.length,il 0,x3,x4,.m q,x6,x7,.n acc.length,.n acc.length,.r (acc.map rI),x11,x12,x13,x14,x15,x16] =
   some (0,[.d x3,.d x4,.m q,.d x6,.d x7,.n (aW acc L).length,.n (aW acc L).length,.r ((aW acc L).map rI),.d x11,.d x12,.d x13,.d x14,.d x15,.d x16]):=by
 refine jz L hL _ (fun i acc=>[.d (dI (some L)),.d (il L.length),.d (il (i:Nat)),.d x3,.d x4,.m q,.d x6,.d x7,.n acc.length,.n acc.length,.r (acc.map rI),.d x11,.d x12,.d x13,.d x14,.d x15,.d x16])
  (fun acc=>some (0,[.d x3,.d x4,.m q,.d x6,.d x7,.n acc.length,.n acc.length,.r (acc.map rI),.d x11,.d x12,.d x13,.d x14,.d x15,.d x16])) 1000 ?_ ?_ acc hu ha
 ·intro acc k;simp [jG]
 ·intro i c acc k hi hlt hw hu hl
  have hi':((some L).getD [])[i]?=some c:=hi
  have hput:=cG n acc c (by omega) hu
  simp only [jG,ac,ag,b8,aZ,aN,b9,aC,aa,hlt,T8,T6,cQ hi',rI,ak,aI,aR,Tj,bL,ah]
  simp only [hput,ab,ac,bR,ae,ay,hw,Tj,bt,bu]
def sT (d f:Int) (kin:D) (s:Nat×List Int×Mr):Nat×List Yr:=match s.2.1 with
 | []=>(0,[.d (il d),.d (il ((s.1:Int) - 1)),.d kin,.d (il d),.m s.2.2,.d kin,.d (il f)])
 | y::r=>(2,[.d (il d),.d (il ((s.1:Int) - 1)),.r ((y::r).map rI),.n (y::r).length,.n (y::r).length,.d kin,.d (il d),.m s.2.2,.d kin,.d (il f)])
theorem wI (d f:Int) (kin:D) (m:Nat) {acc:List Int} (q:Mr) (h:acc≠[]):sT d f kin (m,acc,q)=(2,[.d (il d),.d (il ((m:Int) - 1)),.r (acc.map rI),.n acc.length,.n acc.length,.d kin,.d (il d),.m q,.d kin,.d (il f)]):=by
 cases acc with
 | nil=>exact absurd rfl h
 | cons _ _=>rfl
def Q161 (d f:Int) (b:List E9) (kin:D) (T:List Int) (r:aq):Prop:=∃ (acc:List Int) (q:Mr),ci d b q∧Up acc∧acc.length≤1000 ∧
 ((acc≠[]∧((r=some (4,[.r (acc.map rI),.n acc.length,.n acc.length,.d kin,.d (il d),.m q,.d kin,.d (il f)])∧acc=T)∨(r=some (5,[.r (acc.map rI),.n acc.length,.n acc.length,.d kin,.d (il d),.m q,.d kin,.d (il f)])∧ins f acc=T))) ∨
  (r=some (2,[.d kin,.d (il d),.m q,.d kin,.d (il f)])∧ins f []=T))
theorem gD {acc:List Int} (hu:Up acc) (h:∀ z∈acc,1≤z∧z≤99):acc.length≤99:=by
 have:=tq acc 1 99 hu h
 omega
theorem fx (acc:List Int) {l:List Int} (h:l≠[]):aW acc l≠[]:=fun e=>by
 cases l with
 | nil=>exact h rfl
 | cons x r =>
  have:x∈aW acc (x::r):=(ch x _ _).2 (.inr (by simp))
  rw [e] at this;simp at this
theorem l161 (n:Nat) (a b c:Option (List E9)) (o:Option (List E5)) (d f:Int) (hb:dh (b.getD [])) (hl:(b.getD []).length≤1000000) (hf:f≤99)
  (hrec:∀ (w:Int) (q:Mr),1≤w→w < f→ci d (b.getD []) q→∃ q':Mr,ci d (b.getD []) q'∧FN (n+4) 1000161 [an a b c o,il d,.mp false q.1 q.2,il w,an a b c o,il d]=some (0,[.d (dI (some (aj d (b.getD []) w))),.d (an a b c o),.d (il d),.d (.mp false q'.1 q'.2)]))
  (q:Mr) (hq:ci d (b.getD []) q) :
  Q161 d f (b.getD []) (an a b c o) (eh (aj d (b.getD [])) f (aG d f (below (b.getD []) (b.getD []).length)) []) (ax [eG (RP (n+4)) (il f),mv (RP (n+4)) (il f),eF (RP (n+4)) (il f)] M0 0 [il d,il (((b.getD []).length:Int) - 1),an a b c o,il d,.m q,an a b c o,il f]):=by
 generalize hT:eh (aj d (b.getD [])) f (aG d f (below (b.getD []) (b.getD []).length)) []=T
 refine eZ (σ:=Nat×List Int×Mr) [eG (RP (n+4)) (il f),mv (RP (n+4)) (il f),eF (RP (n+4)) (il f)] (sT d f (an a b c o)) (fun s=>s.1)
  (fun s=>s.1≤(b.getD []).length∧Up s.2.1∧(∀ z∈s.2.1,1≤z∧z≤99)∧ci d (b.getD []) s.2.2∧eh (aj d (b.getD [])) f (aG d f (below (b.getD []) s.1)) s.2.1=T)
  (Q161 d f (b.getD []) (an a b c o) T) ?_ M0 ((b.getD []).length,[],q) ⟨Tf _,by simp,by simp,hq,hT⟩ (by unfold M0;simp only;omega)
 clear hT hq q
 rintro ⟨m,acc,q⟩ k ⟨g1,g2,g3,g4,g5⟩ ih
 simp only at g1 g2 g3 g4 g5 ih
 have gl:=gD g2 g3
 cases m with
 | zero =>
  rw [ib] at g5
  cases acc with
  | nil =>
   refine ⟨eG (RP (n+4)) (il f),rfl,[],q,g4,g2,by simp,.inr ⟨?_,g5⟩⟩
   simp [sT,eG]
  | cons y r =>
   refine ⟨eF (RP (n+4)) (il f),rfl,y::r,q,g4,g2,by omega,.inl ⟨by simp,.inr ⟨?_,g5⟩⟩⟩
   simp [sT,eF]
 | succ m =>
  obtain ⟨e,he⟩:∃ e,(b.getD [])[m]?=some e:=⟨_,Tc (by omega)⟩
  rw [fF he,aG] at g5
  have hm:(((m+1:Nat):Int) - 1)=((m:Nat):Int):=by omega
  have hw:IntKind.i64.wrap (((m:Nat):Int) - 1)=((m:Nat):Int) - 1:=aE (by omega) (by omega)
  have h194:=G3 (n+3) a b c o m e f he
  have hnn:¬ ((m:Nat):Int) < 0:=by omega
  have hmem:e∈b.getD []:=Vb he
  cases acc with
  | nil =>
   refine ⟨eG (RP (n+4)) (il f),rfl,?_⟩
   simp only [sT,hm,eG,ac,ag,ae,bQ,aa]
   rw [T1 (by simp)]
   simp only [ah,h194,ab,ac,ag,aP,aa,br,hw,bu,bt]
   by_cases h1:e.a=f
   ·rw [T5 (by simp [h1])]
    simp only [jN,ab,ac,aP,aa]
    by_cases h2:bh e.f1 e.t2 d=true
    ·rw [T5 (by simp [h2])]
     rw [T1 ⟨h1,h2⟩] at g5
     have hbe:=hb e hmem
     obtain ⟨q',hq',hcall⟩:=hrec e.b q hbe.1 (by omega) g4
     have hne:aj d (b.getD []) e.b≠[]:=fun h=>by
      obtain ⟨z,hz⟩:=eK hb (d:=d) _ e.b (Tf _) hbe.1
      rw [h] at hz;simp at hz
     have hlen:=gU (d:=d) hb hbe.1
     simp only [aC,hnn,Tk,aa,T0,T9,ca,hcall,ab,ac,ag,cd,cA,T7,aD]
     rw [li01 n _ (by omega) hne]
     have hin:=fx [] hne
     have hiu:=dz (aj d (b.getD []) e.b) (acc:=[]) (by simp)
     have hir:∀ z∈aW [] (aj d (b.getD []) e.b),1≤z∧z≤99:=fun z hz=>by
      rw [ch] at hz
      rcases hz with hz | hz
      ·simp at hz
      ·have:=bK hb _ e.b z (Tf _) hbe.1 hz;omega
     have hil:=gD hiu hir
     simp only [cI,ab,dV,ac,ag,bu,bt,aN,b8,aZ,aa,ao]
     rw [eh] at g5
     by_cases h3:bq e.f2 e.t1 d=true
     ·rw [T1 h3] at g5 ⊢
      exact ⟨aW [] (aj d (b.getD []) e.b),q',hq',hiu,by omega,.inl ⟨hin,.inl ⟨rfl,g5⟩⟩⟩
     ·rw [T5 h3] at g5 ⊢
      have:=ih (m,aW [] (aj d (b.getD []) e.b),q') ⟨by simp only;omega,hiu,hir,hq',g5⟩ (by simp only;omega)
      rw [wI _ _ _ _ _ hin] at this
      exact this
    ·rw [T1 (by simp [h2])]
     rw [T5 fun h=>h2 h.2] at g5
     exact ih (m,[],q) ⟨by simp only;omega,g2,g3,g4,g5⟩ (by simp only;omega)
   ·rw [T1 (by simp [h1])]
    rw [T5 fun h=>h1 h.1] at g5
    exact ih (m,[],q) ⟨by simp only;omega,g2,g3,g4,g5⟩ (by simp only;omega)
  | cons y r =>
   refine ⟨eF (RP (n+4)) (il f),rfl,?_⟩
   simp only [sT,hm,eF,ac,ag,ae,bQ,aa]
   rw [T1 (by simp)]
   simp only [ah,h194,ab,ac,ag,aP,aa,br,hw,bu,bt,aN,b9,b8,aZ]
   by_cases h1:e.a=f
   ·rw [T5 (by simp [h1])]
    simp only [jN,ab,ac,aP,aa]
    by_cases h2:bh e.f1 e.t2 d=true
    ·rw [T5 (by simp [h2])]
     rw [T1 ⟨h1,h2⟩] at g5
     have hbe:=hb e hmem
     obtain ⟨q',hq',hcall⟩:=hrec e.b q hbe.1 (by omega) g4
     have hne:aj d (b.getD []) e.b≠[]:=fun h=>by
      obtain ⟨z,hz⟩:=eK hb (d:=d) _ e.b (Tf _) hbe.1
      rw [h] at hz;simp at hz
     have hlen:=gU (d:=d) hb hbe.1
     simp only [aC,hnn,Tk,aa,T0,T9,ca,hcall,ab,ac,ag,cd,cA,T7,aD]
     rw [li5 n _ (by omega) _ _ _ _ _ _ _ _ _ _ _ (y::r) g2 (by omega)]
     have hin:=fx (y::r) hne
     have hiu:=dz (aj d (b.getD []) e.b) g2
     have hir:∀ z∈aW (y::r) (aj d (b.getD []) e.b),1≤z∧z≤99:=fun z hz=>by
      rw [ch] at hz
      rcases hz with hz | hz
      ·exact g3 z hz
      ·have:=bK hb _ e.b z (Tf _) hbe.1 hz;omega
     have hil:=gD hiu hir
     simp only [ab,dV,ac,ag,bu,bt,aN,b9,b8,aZ,aa,ao]
     rw [eh] at g5
     by_cases h3:bq e.f2 e.t1 d=true
     ·rw [T1 h3] at g5 ⊢
      exact ⟨aW (y::r) (aj d (b.getD []) e.b),q',hq',hiu,by omega,.inl ⟨hin,.inl ⟨rfl,g5⟩⟩⟩
     ·rw [T5 h3] at g5 ⊢
      have:=ih (m,aW (y::r) (aj d (b.getD []) e.b),q') ⟨by simp only;omega,hiu,hir,hq',g5⟩ (by simp only;omega)
      rw [wI _ _ _ _ _ hin] at this
      exact this
    ·rw [T1 (by simp [h2])]
     rw [T5 fun h=>h2 h.2] at g5
     exact ih (m,y::r,q) ⟨by simp only;omega,g2,g3,g4,g5⟩ (by simp only;omega)
   ·rw [T1 (by simp [h1])]
    rw [T5 fun h=>h1 h.1] at g5
    exact ih (m,y::r,q) ⟨by simp only;omega,g2,g3,g4,g5⟩ (by simp only;omega)
end
section
attribute [local simp] cd ca
theorem np (q:List Int):(.sl 1 ((q.map rI).take q.length):D)=dI (some q):=by rw [tA];rfl
theorem C2 (a b c:Option (List E9)) (o:Option (List E5)) (d:Int) (hb:dh (b.getD [])) (hl:(b.getD []).length≤1000000):∀ (N n:Nat) (f:Int) (q:Mr),1≤f→f.toNat≤N→f≤99→ci d (b.getD []) q →
  ∃ q':Mr,ci d (b.getD []) q'∧FN (n+5+N) 1000161 [an a b c o,il d,.mp false q.1 q.2,il f,an a b c o,il d]=some (0,[.d (dI (some (aj d (b.getD []) f))),.d (an a b c o),.d (il d),.d (.mp false q'.1 q'.2)]):=by
 intro N
 induction N with
 | zero=>intro n f q h1 h2;omega
 | succ N ih =>
  intro n f q h1 h2 h3 hq
  have hrec:∀ (w:Int) (q:Mr),1≤w→w < f→ci d (b.getD []) q→∃ q':Mr,ci d (b.getD []) q'∧FN (n+1+N+4) 1000161 [an a b c o,il d,.mp false q.1 q.2,il w,an a b c o,il d]=some (0,[.d (dI (some (aj d (b.getD []) w))),.d (an a b c o),.d (il d),.d (.mp false q'.1 q'.2)]):=fun w q hw1 hw2 hq=>by
   have:=ih n w q hw1 (by omega) (by omega) hq
   rw [show n+1+N+4=n+5+N by omega]
   exact this
  have hloop:=l161 (n+1+N) a b c o d f hb hl h3 hrec q hq
  rw [show n+5+(N+1)=(n+1+N+4)+1 by omega,FS,xB]
  rw [←lg hb h1] at hloop
  generalize n+1+N=n at hloop ⊢
  simp only [xC,cd,A8]
  rcases Ck hq f with e | e
  ·rw [e]
   refine ⟨q,hq,?_⟩
   simp
  ·rw [e]
   have hp:∀ k:List D→aq,(RP (n+4)).ptrW 4 (an a b c o) k=k [d9 a,d9 b,d9 c,d5 o]:=fun k=>bP _ 4 k rfl
   have w1:IntKind.i64.wrap (((b.getD []).length:Int) - 1)=((b.getD []).length:Int) - 1:=aE (by omega) (by omega)
   have hip:∀ k:aq,(RP (n+4)).isPtr (an a b c o) k=k:=fun k=>rfl
   simp only [aa,T0,T9,hip,hp,ak,ar,cS,ae,br,w1,aD]
   obtain ⟨acc,q1,hq1,hu,hlen,hr⟩:=hloop
   obtain ⟨q2,hq2,hm2⟩:=DW hq1 f
   have hd:∀ x,x=aj d (b.getD []) f→(.sl 1 ((x.map rI).take x.length):D)=dI (some (aj d (b.getD []) f)):=fun x hx=>by rw [np,hx]
   refine ⟨q2,hm2,?_⟩
   rcases hr with ⟨hne,⟨hr,hT⟩ | ⟨hr,hT⟩⟩ | ⟨hr,hT⟩
   ·rw [hr]
    simp only [cI,ab,aN,b8,aZ,ac,ag,bu,bt,aI,Tj,aR,T6,aU,bL,ao,yn]
    rw [hd acc hT,hq2]
    simp
   ·rw [hr]
    have hput:=cG n acc f (by omega) hu
    simp only [cI,ab,aN,b8,aZ,ac,ag,bu,bt,aI,Tj,aR,T6,aU,bL,ao,yn,aC,aa,ah,hput,bR]
    rw [T1 (by simp)]
    simp only [ab,ac,ag,bu,bt]
    rw [show (List.map rI (ins f acc)).take (ins f acc).length=(List.map rI (ins f acc)).take (ins f acc).length from rfl,hd (ins f acc) hT,hq2]
    simp
   ·rw [hr]
    simp only [cI,ab,ac,ag,bu,bt,aC,aa,ah,cc,tS]
    rw [T1 (by simp)]
    simp only [T0,T9]
    have hx:[f]=aj d (b.getD []) f:=hT
    rw [←hx] at hq2 ⊢
    simp only [bj,aM,aI,aU,Tb,Td,aR,Tg,Tq,bT,bc]
    rw [T1 (by simp),T1 (by simp []),tJ]
    simp only [Tb,Td,T6,ao,ab,bL,Tg,Tq,ac,ag,bu,bt,yn]
    rw [show (.sl 1 [[il f]]:D)=dI (some [f]) from rfl,hq2]
    simp
end
section
def iA {σ:Type} (step:σ→Int→σ):σ→List (Option Int)→σ
 | s,[]=>s
 | s,none::r=>iA step s r
 | s,some w::r=>iA step (step s w) r
theorem so {σ:Type} (step:σ→Int→σ) (stopO noneO:σ→aq):∀ (os:List (Option Int)) (s:σ),wZ os→rS step stopO noneO s os=if none∈os then noneO (iA step s os) else stopO (iA step s os)
 | [],s,_=>by simp [rS,iA]
 | none::r,s,h=>by have:r=[]:=h;subst this;simp [rS,iA]
 | some w::os,s,h=>by rw [rS,so step stopO noneO os _ h,iA];simp
theorem qk (L:Int→List Int) (f:Int):∀ (os:List (Option Int)) (s:List Int),wZ os→eh L f os s=if none∈os then ins f (iA (fun s w=>aW s (L w)) s os) else iA (fun s w=>aW s (L w)) s os
 | [],s,_=>by simp [eh,iA]
 | none::r,s,h=>by have:r=[]:=h;subst this;simp [eh,iA]
 | some w::os,s,h=>by rw [eh,qk L f os _ h,iA];simp
theorem iV (d who:Int):∀ {l:List E9},(∀ e∈l,e.a≠who)→aG d who l=[none]
 | [],_=>rfl
 | e::r,h=>by
  rw [aG,T5 fun hh=>h e (by simp) hh.1]
  exact iV d who fun e he=>h e (Ts _ he)
def tx (d:Int) (b:List E9) (t:Nat):Rr:=(List.range t).map fun (i:Nat)=>[dI (some (aj d b ((i:Int)+1)))]
theorem kW (d:Int) (b:List E9) (t:Nat):(tx d b t).length=t:=by simp [tx]
theorem yd (d:Int) (b:List E9) {t i:Nat} (h:i < t):(tx d b t)[i]?=some [dI (some (aj d b ((i:Int)+1)))]:=by simp [tx,h]
theorem Dl (d:Int) (b:List E9) (t:Nat):tx d b (t+1)=tx d b t++[[dI (some (aj d b ((t:Int)+1)))]]:=by simp [tx,List.range_succ]
theorem l81_0 (n:Nat) (b:Option (List E9)) (x2 x4 x5:D) (d:Int) (hb:dh (b.getD [])) (hl:(b.getD []).length≤1000000) :
  ax [xk (RP n)] M0 0 [il 1,il d,x2,d9 b,x4,x5,il (((b.getD []).length:Int) - 1)]=some (1,[.d (il 1)]):=by
 have:=ki (σ:=Unit) (b.getD []) hl d 1 [xk (RP n)] (fun m _=>(0,[.d (il 1),.d (il d),.d x2,.d (d9 b),.d x4,.d x5,.d (il ((m:Int) - 1))])) (fun _ _=>True) (fun _ _=>()) (fun _=>some (1,[.d (il 1)])) (fun _=>some (1,[.d (il 1)])) ?_ ?_ () trivial
 ·refine Eq.trans this ?_
  rw [iV _ _ fun e he=>?_]
  ·rfl
  ·have:=hb e (e8 he);omega
 ·intro s k _
  exact ⟨_,rfl,by simp [xk]⟩
 ·intro m e s k he hm hw hm1 _
  have hne:¬ e.a=1:=by have:=hb e (Vb he);omega
  refine ⟨trivial,fun _ _=>trivial,_,rfl,?_⟩
  simp only [hm1,xk,ac,ag,ae,bQ,aa]
  rw [T1 (by simp),T5 (fun h=>hne h.1)]
  simp only [ct he,r9,ak,ar,aL,aa,br,hw]
  rw [T1 (by simp [hne])]
theorem Gy (n:Nat) (L:List Int) (hL:L.length≤1000000) (hne:L≠[]) (T:Rr) (n2 n3:Nat) (x0 x1 x4 x5 x6 x7 x8 x9:D) :
  ax [Fg (RP (n+1)),Bj (RP (n+1))] M0 0 [x0,x1,.n n2,.n n3,x4,x5,x6,x7,x8,x9,dI (some L),il L.length,il 0,.r T] =
   some (1,[.d x0,.d x1,.n n2,.n n3,.d x4,.d x5,.d x6,.d x7,.d (dI (some (aW [] L))),.d x8,.d x9,.r T]):=by
 refine lh L hL hne _ _ (fun i=>[.d x0,.d x1,.n n2,.n n3,.d x4,.d x5,.d x6,.d x7,.d x8,.d x9,.d (dI (some L)),.d (il L.length),.d (il (i:Nat)),.r T])
  (fun i acc=>[.d x0,.d x1,.n n2,.n n3,.d x4,.d x5,.d x6,.d x7,.d (dI (some acc)),.d x8,.d x9,.d (dI (some L)),.d (il L.length),.d (il (i:Nat)),.r T])
  (fun acc=>some (1,[.d x0,.d x1,.n n2,.n n3,.d x4,.d x5,.d x6,.d x7,.d (dI (some acc)),.d x8,.d x9,.r T])) ?_ ?_ ?_
 ·intro acc k;simp [Bj]
 ·intro c k hi hlt
  have h0:=cQ (Fn:=FN (n+1)) (FnD:=c6 Tryz.prog (di tb Tryz.prog) (FN (n+1))) (m:=M0) (o:=some L) (i:=0) (c:=c) hi
  simp only [Fg,ac,ag,aC,aa,V9,hlt,T8,T6]
  rw [show ((il 0):D)=il ((0:Nat):Int) from rfl,h0]
  simp only [rI,ak,ah,cc,mV,ab,ac,ae,ay,V9,b8,aZ,aN,b9]
  rw [show IntKind.i64.wrap (0+1)=((1:Nat):Int) from rfl]
 ·intro i c acc k hi hlt hw hu hl
  have hi':((some L).getD [])[i]?=some c:=hi
  have hput:=Fq n (some acc) c (by simp only [T7];omega) hu
  simp only [T7] at hput
  simp only [Bj,ac,ag,b8,aZ,aN,b9,aC,aa,hlt,T8,T6,cQ hi',rI,ak,ah,hput,ab,ae,ay,hw]
theorem M6 (n:Nat) (L:List Int) (hL:L.length≤1000000) (T:Rr) (n2 n3:Nat) (x0 x1 x4 x5 x6 x7 x8 x9:D) (acc:List Int) (hu:Up acc) (ha:acc.length≤1000) :
  ax [Bi (RP (n+1))] M0 0 [x0,x1,.n n2,.n n3,x4,x5,x6,x7,dI (some acc),x8,x9,dI (some L),il L.length,il 0,.r T] =
   some (0,[.d x0,.d x1,.n n2,.n n3,.d x4,.d x5,.d x6,.d x7,.d (dI (some (aW acc L))),.d x8,.d x9,.r T]):=by
 refine jz L hL _ (fun i acc=>[.d x0,.d x1,.n n2,.n n3,.d x4,.d x5,.d x6,.d x7,.d (dI (some acc)),.d x8,.d x9,.d (dI (some L)),.d (il L.length),.d (il (i:Nat)),.r T])
  (fun acc=>some (0,[.d x0,.d x1,.n n2,.n n3,.d x4,.d x5,.d x6,.d x7,.d (dI (some acc)),.d x8,.d x9,.r T])) 1000 ?_ ?_ acc hu ha
 ·intro acc k;simp [Bi]
 ·intro i c acc k hi hlt hw hu hl
  have hi':((some L).getD [])[i]?=some c:=hi
  have hput:=Fq n (some acc) c (by simp only [T7];omega) hu
  simp only [T7] at hput
  simp only [Bi,ac,ag,b8,aZ,aN,b9,aC,aa,hlt,T8,T6,cQ hi',rI,ak,ah,hput,ab,ae,ay,hw]
def CB (d f:Int) (t:Nat) (T:Rr) (x4 x5 x6 x7:D) (m:Nat) (acc:List Int):Nat×List Yr:=match acc with
 | []=>(0,[.d (il f),.d (il d),.n t,.n t,.d x4,.d x5,.d x6,.d x7,.d (il ((m:Int) - 1)),.r T])
 | y::r=>(1,[.d (il f),.d (il d),.n t,.n t,.d x4,.d x5,.d x6,.d x7,.d (dI (some (y::r))),.d (il ((m:Int) - 1)),.r T])
theorem EP (d f:Int) (t:Nat) (T:Rr) (x4 x5 x6 x7:D) (m:Nat):CB d f t T x4 x5 x6 x7 m []=(0,[.d (il f),.d (il d),.n t,.n t,.d x4,.d x5,.d x6,.d x7,.d (il ((m:Int) - 1)),.r T]):=rfl
theorem CA (d f:Int) (t:Nat) (T:Rr) (x4 x5 x6 x7:D) (m:Nat) (y:Int) (r:List Int):CB d f t T x4 x5 x6 x7 m (y::r)=(1,[.d (il f),.d (il d),.n t,.n t,.d x4,.d x5,.d x6,.d x7,.d (dI (some (y::r))),.d (il ((m:Int) - 1)),.r T]):=rfl
theorem AX (d f:Int) (t:Nat) (T:Rr) (x4 x5 x6 x7:D) (m:Nat) {acc:List Int} (h:acc≠[]):CB d f t T x4 x5 x6 x7 m acc=(1,[.d (il f),.d (il d),.n t,.n t,.d x4,.d x5,.d x6,.d x7,.d (dI (some acc)),.d (il ((m:Int) - 1)),.r T]):=by
 cases acc with
 | nil=>exact absurd rfl h
 | cons _ _=>rfl
def st81 (T:Rr) (acc:List Int):aq:=some (2,[.d (dI (some acc)),.r T])
def DT (f:Int) (T:Rr) (acc:List Int):aq:=match acc with
 | []=>some (1,[.d (il f),.r T])
 | y::r=>some (3,[.d (il f),.d (dI (some (y::r))),.r T])
theorem l81_4 (n:Nat) (b:Option (List E9)) (x4 x6 x7:D) (d:Int) (t:Nat) (hb:dh (b.getD [])) (hl:(b.getD []).length≤1000000) (ht:t≤99) :
  ax [xg (RP (n+1)),xf (RP (n+1))] M0 0 [il ((t:Int)+1),il d,.n t,.n t,x4,d9 b,x6,x7,il (((b.getD []).length:Int) - 1),.r (tx d (b.getD []) t)] =
   rS (fun s w=>aW s (aj d (b.getD []) w)) (st81 (tx d (b.getD []) t)) (DT ((t:Int)+1) (tx d (b.getD []) t)) [] (aG d ((t:Int)+1) (below (b.getD []) (b.getD []).length)):=by
 refine ki (σ:=List Int) (b.getD []) hl d ((t:Int)+1) [xg (RP (n+1)),xf (RP (n+1))] (fun m s=>CB d ((t:Int)+1) t (tx d (b.getD []) t) x4 (d9 b) x6 x7 m s) (fun _ s=>Up s∧∀ z∈s,1≤z∧z≤99) (fun s w=>aW s (aj d (b.getD []) w)) _ _ ?_ ?_ [] ⟨by simp,by simp⟩
 ·intro s k _
  cases s with
  | nil=>exact ⟨_,rfl,by simp [xg,CB,DT]⟩
  | cons y r=>exact ⟨_,rfl,by simp [xf,CB,DT]⟩
 ·intro m e s k he hm hw hm1 hI
  obtain ⟨g2,g3⟩:=hI
  have hbe:=hb e (Vb he)
  have gl:=gD g2 g3
  refine ⟨⟨g2,g3⟩,fun _ _=>⟨dz _ g2,fun z hz=>?_⟩,?_⟩
  ·rw [ch] at hz
   rcases hz with hz | hz
   ·exact g3 z hz
   ·have:=bK hb _ e.b z (Tf _) hbe.1 hz;omega
  ·have hne:aj d (b.getD []) e.b≠[]:=fun h=>by
    obtain ⟨z,hz⟩:=eK hb (d:=d) _ e.b (Tf _) hbe.1
    rw [h] at hz;simp at hz
   have hlen:=gU (d:=d) hb hbe.1
   have hws:IntKind.i64.wrap (e.b - 1)=e.b - 1:=aE (by omega) (by omega)
   cases s with
   | nil =>
    refine ⟨_,rfl,?_⟩
    simp only [EP,hm1,xg,ac,ag,ae,bQ,aa]
    rw [T1 (by simp)]
    simp only [ct he,r9,ak,ar,aL,aa,br,hw,hws,T4,aN,b9,b8,aZ]
    by_cases h1:e.a=(t:Int)+1
    ·rw [T5 (by simp [h1])]
     simp only [ah,C3,ab,ac,aL,aa,aV,T4]
     by_cases h2:bh e.f1 e.t2 d=true
     ·rw [T1 ((lk _ _ _ _ _).2 h2),T1 (⟨h1,h2⟩:e.a=(t:Int)+1∧bh e.f1 e.t2 d=true)]
      have hnat:(e.b - 1).toNat < t:=by omega
      have hbb:(((e.b - 1).toNat:Nat):Int)+1=e.b:=by omega
      have hrow:∀ k:List D→aq,(RP (n+1)).rowAt 1 (tx d (b.getD []) t) (e.b - 1).toNat k=k [dI (some (aj d (b.getD []) e.b))]:=fun k=>by
       rw [dX,yd _ _ hnat,hbb];rfl
      simp only [aI,kW,aR,T6,gN]
      rw [T1 (by omega),hrow]
      simp only [ak,cA,T7,aD]
      rw [Gy n _ (by omega) hne]
      simp only [cI,ab,ac,ag,aN,b9,b8,aZ,aV,aa,br,hw,ao,T4]
      have hin:=fx [] hne
      by_cases h3:bq e.f2 e.t1 d=true
      ·rw [T1 h3,T1 ((dy _ _ _ _ _ h2).2 h3)];rfl
      ·rw [T5 h3,T5 fun h=>h3 ((dy _ _ _ _ _ h2).1 h),AX _ _ _ _ _ _ _ _ _ hin]
     ·rw [lj _ _ _ _ _ h2,T5 (by simp),T5 (by simp),T5 (fun h=>h2 h.2)]
    ·rw [T1 (by simp [h1]),T5 (fun h=>h1 h.1)]
   | cons y r =>
    refine ⟨_,rfl,?_⟩
    simp only [CA,hm1,xf,ac,ag,ae,bQ,aa]
    rw [T1 (by simp)]
    simp only [ct he,r9,ak,ar,aL,aa,br,hw,hws,T4,aN,b9,b8,aZ]
    by_cases h1:e.a=(t:Int)+1
    ·rw [T5 (by simp [h1])]
     simp only [ah,C3,ab,ac,aL,aa,aV,T4]
     by_cases h2:bh e.f1 e.t2 d=true
     ·rw [T1 ((lk _ _ _ _ _).2 h2),T1 (⟨h1,h2⟩:e.a=(t:Int)+1∧bh e.f1 e.t2 d=true)]
      have hnat:(e.b - 1).toNat < t:=by omega
      have hbb:(((e.b - 1).toNat:Nat):Int)+1=e.b:=by omega
      have hrow:∀ k:List D→aq,(RP (n+1)).rowAt 1 (tx d (b.getD []) t) (e.b - 1).toNat k=k [dI (some (aj d (b.getD []) e.b))]:=fun k=>by
       rw [dX,yd _ _ hnat,hbb];rfl
      simp only [aI,kW,aR,T6,gN]
      rw [T1 (by omega),hrow]
      simp only [ak,cA,T7,aD]
      rw [M6 n _ (by omega) _ _ _ _ _ _ _ _ _ _ _ (y::r) g2 (by omega)]
      simp only [ab,ac,ag,aN,b9,b8,aZ,aV,aa,br,hw,ao,T4]
      have hin:=fx (y::r) hne
      by_cases h3:bq e.f2 e.t1 d=true
      ·rw [T1 h3,T1 ((dy _ _ _ _ _ h2).2 h3)];rfl
      ·rw [T5 h3,T5 fun h=>h3 ((dy _ _ _ _ _ h2).1 h),AX _ _ _ _ _ _ _ _ _ hin]
     ·rw [lj _ _ _ _ _ h2,T5 (by simp),T5 (by simp),T5 (fun h=>h2 h.2)]
    ·rw [T1 (by simp [h1]),T5 (fun h=>h1 h.1)]
end
section
theorem og {σ:Type} (step:σ→Int→σ) (P:σ→Prop):∀ (os:List (Option Int)) (s:σ),(∀ s w,some w∈os→P s→P (step s w))→P s→P (iA step s os)
 | [],_,_,h=>h
 | none::r,s,hs,h=>og step P r s (fun s w hw=>hs s w (Ts _ hw)) h
 | some w::r,s,hs,h=>og step P r _ (fun s w hw=>hs s w (Ts _ hw)) (hs s w (by simp) h)
def wG (f d:Int) (x0 x1 x2 x3:D) (b:List E9) (t:Nat):Nat×List Yr:=match t with
 | 0=>(0,[.d (il f),.d (il d),.d x0,.d x1,.d x2,.d x3,.d (il 1)])
 | t+1=>(1,[.d (il f),.d (il d),.d x0,.d x1,.d x2,.d x3,.n (t+1),.n (t+1),.d (il ((t:Int)+1+1)),.r (tx d b (t+1))])
theorem yG {d:Int} {b:List E9} (hb:dh b):aj d b 1=[1]:=by
 rw [lg hb (by decide),iV _ _ fun e he=>?_]
 ·rfl
 ·have:=hb e (e8 he);omega
theorem l81 (n:Nat) (b:Option (List E9)) (x0 x2 x3:D) (f d:Int) (h1:1≤f) (h2:f≤99) (hb:dh (b.getD [])) (hl:(b.getD []).length≤1000000) :
  ax [xh (RP (n+1)),xe (RP (n+1))] M0 0 [il f,il d,x0,d9 b,x2,x3,il 1]=some (1,[.d (il f),.n f.toNat,.n f.toNat,.r (tx d (b.getD []) f.toNat)]):=by
 refine e9 (σ:=Nat) [xh (RP (n+1)),xe (RP (n+1))] (wG f d x0 (d9 b) x2 x3 (b.getD [])) (fun t=>100 - t) (fun t=>(t:Int)≤f) (fun _=>some (1,[.d (il f),.n f.toNat,.n f.toNat,.r (tx d (b.getD []) f.toNat)])) ?_ M0 0 (by omega) (by unfold M0;omega)
 intro t k ht ih
 have w1:IntKind.i64.wrap (((b.getD []).length:Int) - 1)=((b.getD []).length:Int) - 1:=aE (by omega) (by omega)
 cases t with
 | zero =>
  refine ⟨xh (RP (n+1)),rfl,?_⟩
  have ih':=ih 1 (by omega) (by omega)
  have ht1:tx d (b.getD []) (0+1)=[[dI (some [1])]]:=by
   have:=yG (d:=d) hb
   simp [tx,this]
  simp only [wG,ht1] at ih'
  simp only [wG,xh,ac,ag,gM,aa]
  rw [T1 (by simpa using h1)]
  simp only [cS,ae,br,w1,aD,l81_0 (n+1) b x0 x2 x3 d hb hl,cI,ab,ac,ah,cc,mV,bj,aM,aI,aU,Tb,Td,aR,Tg,Tq,bT,bc,ay]
  rw [T1 (by simp),T1 (by simp [])]
  exact ih'
 | succ t =>
  refine ⟨xe (RP (n+1)),rfl,?_⟩
  have hcast:(t:Int)+1=((t+1:Nat):Int):=by omega
  simp only [wG,xe,ac,ag,gM,aa,aN,b9,b8,aZ,T4]
  by_cases hlt:(t:Int)+1+1≤f
  ·rw [T1 hlt]
   have ih':=ih (t+1+1) (by omega) (by omega)
   simp only [wG] at ih'
   rw [hcast]
   have hloop:=l81_4 n b x0 x2 x3 d (t+1) hb hl (by omega)
   simp only [cS,ae,br,w1,aD,hloop]
   have hos:=gH d (((t+1:Nat):Int)+1) (below (b.getD []) (b.getD []).length)
   have hL:=lg (d:=d) hb (f:=((t+1:Nat):Int)+1) (by omega)
   have hless:∀ w,some w∈aG d (((t+1:Nat):Int)+1) (below (b.getD []) (b.getD []).length)→1≤w∧w < ((t+1:Nat):Int)+1:=fun w hw=>by have:=co hb hw;omega
   rw [qk _ _ _ _ hos] at hL
   rw [so _ _ _ _ _ hos]
   generalize aG d (((t+1:Nat):Int)+1) (below (b.getD []) (b.getD []).length)=os at hos hL hless ⊢
   have hP:=og (fun s w=>aW s (aj d (b.getD []) w)) (fun s=>Up s∧∀ z∈s,1≤z∧z≤99) os [] (fun s w hw hs=>⟨dz _ hs.1,fun z hz=>by
    rw [ch] at hz
    rcases hz with hz | hz
    ·exact hs.2 z hz
    ·have h3:=hless w hw
     have:=bK hb _ w z (Tf _) h3.1 hz;omega⟩) ⟨by simp,by simp⟩
   have hwr:IntKind.i64.wrap (((t+1:Nat):Int)+1+1)=((t+1:Nat):Int)+1+1:=aE (by omega) (by omega)
   rw [Dl d (b.getD []) (t+1),hL] at ih'
   generalize iA (fun s w=>aW s (aj d (b.getD []) w)) [] os=s at hP hL ih' ⊢
   have hlen:=gD hP.1 hP.2
   by_cases hn:none∈os
   ·rw [T1 hn] at hL ih' ⊢
    cases s with
    | nil =>
     simp only [DT,cI,ab,ac,aN,b9,ah,cc,mV,bj,aM,aI,aU,Tb,Td,aR,Tg,Tq,bc,ay,bV,kW,cX,hwr]
     rw [T1 (by simp),T1 (by simp),T1 (by simp),T1 (by omega)]
     exact ih'
    | cons y r =>
     have hput:=Fq n (some (y::r)) (((t+1:Nat):Int)+1) (by simp only [T7];omega) hP.1
     simp only [T7] at hput
     simp only [DT,cI,ab,ac,ag,aN,b9,ah,hput,bj,aM,aI,aU,Tb,Td,aR,Tg,Tq,bc,ay,bV,kW,cX,hwr]
     rw [T1 (by simp),T1 (by simp),T1 (by simp),T1 (by omega)]
     exact ih'
   ·rw [T5 hn] at hL ih' ⊢
    simp only [st81,cI,ab,ac,aN,b9,bj,aM,aI,aU,Tb,Td,aR,Tg,Tq,bc,ay,bV,kW,cX,hwr]
    rw [T1 (by simp),T1 (by simp),T1 (by simp),T1 (by omega)]
    exact ih'
  ·rw [T5 hlt]
   have hft:f.toNat=t+1:=by omega
   rw [hft]
   simp
theorem s81 (n:Nat) (b:Option (List E9)) (x0 x2 x3:D) (f d:Int) (h1:1≤f) (h2:f≤99) (hb:dh (b.getD [])) (hl:(b.getD []).length≤1000000) :
  FN (n+2) 81 [x0,d9 b,x2,x3,il f,il d]=some (0,[.d (dI (some (aj d (b.getD []) f)))]):=by
 rw [FS,Nz]
 have hw:IntKind.i64.wrap (f - 1)=f - 1:=aE (by omega) (by omega)
 have hft:(f - 1).toNat < f.toNat:=by omega
 have hrow:∀ k:List D→aq,(RP (n+1)).rowAt 1 (tx d (b.getD []) f.toNat) (f - 1).toNat k=k [dI (some (aj d (b.getD []) f))]:=fun k=>by
  rw [dX,yd _ _ hft,show (((f - 1).toNat:Nat):Int)+1=f by omega];rfl
 simp only [G81,ae,aD,l81 n b x0 x2 x3 f d h1 h2 hb hl,cI,ab,ac,b8,aZ,aN,b9,br,hw,aI,kW,aR,T6,gN]
 rw [T1 (by omega),hrow]
 simp
theorem mT {α:Type} {p:α→Bool} {src:α→Int}:∀ {l:List α} {o:Option Int},fR p src o l=true→∀ e∈l,p e=true
 | [],_,_,e,he=>by simp at he
 | x::r,o,h,e,he=>by
  unfold fR at h
  simp only [Te] at h
  rcases Ti.1 he with rfl | he
  ·exact h.1.1
  ·exact mT h.2 e he
end
section
attribute [local simp] cd ca
theorem Gx (n:Nat) (L:List Int) (hL:L.length≤1000000) (hne:L≠[]) (q:Mr) (x3 x4 x5 x6 x8 x9 bn x11 x12 x13 x14 x15 x16 x17:D) :
  ax [Ff (RP (n+4)),Bh (RP (n+4))] M0 0 [dI (some L),il L.length,il 0,x3,x4,x5,x6,.m q,x8,x9,bn,x11,x12,x13,x14,x15,x16,x17] =
   some (1,[.r ((aW [] L).map rI),.d x3,.d x4,.d x5,.d x6,.m q,.d x8,.d x9,.d bn,.d x11,.n (aW [] L).length,.n (aW [] L).length,.d x12,.d x13,.d x14,.d x15,.d x16,.d x17]):=by
 refine lh L hL hne _ _ (fun i=>[.d (dI (some L)),.d (il L.length),.d (il (i:Nat)),.d x3,.d x4,.d x5,.d x6,.m q,.d x8,.d x9,.d bn,.d x11,.d x12,.d x13,.d x14,.d x15,.d x16,.d x17])
  (fun i acc=>[.d (dI (some L)),.d (il L.length),.d (il (i:Nat)),.r (acc.map rI),.d x3,.d x4,.d x5,.d x6,.m q,.d x8,.d x9,.d bn,.d x11,.n acc.length,.n acc.length,.d x12,.d x13,.d x14,.d x15,.d x16,.d x17])
  (fun acc=>some (1,[.r (acc.map rI),.d x3,.d x4,.d x5,.d x6,.m q,.d x8,.d x9,.d bn,.d x11,.n acc.length,.n acc.length,.d x12,.d x13,.d x14,.d x15,.d x16,.d x17])) ?_ ?_ ?_
 ·intro acc k;simp [Bh]
 ·intro c k hi hlt
  have h0:=cQ (Fn:=FN (n+4)) (FnD:=c6 Tryz.prog (di tb Tryz.prog) (FN (n+4))) (m:=M0) (o:=some L) (i:=0) (c:=c) hi
  simp only [Ff,ac,ag,aC,aa,V9,hlt,T8,T6]
  rw [show ((il 0):D)=il ((0:Nat):Int) from rfl,h0]
  simp only [rI,ak,ah,cc,tS,ab,ac,ag,aa,T0,T9]
  rw [Cc]
  simp only [ae,ay,bj,aM,aI,aU,Tb,Td,Tg,Tq,V9]
  rw [show IntKind.i64.wrap (0+1)=((1:Nat):Int) from rfl]
  rfl
 ·intro i c acc k hi hlt hw hu hl
  have hi':((some L).getD [])[i]?=some c:=hi
  have hput:=cG n acc c (by omega) hu
  simp only [Bh,ac,ag,b8,aZ,aN,b9,aC,aa,hlt,T8,T6,cQ hi',rI,ak,aI,aR,Tj,bL,ah]
  simp only [hput,ab,ac,bR,ae,ay,hw,Tj,bt,bu]
theorem M5 (n:Nat) (L:List Int) (hL:L.length≤1000000) (q:Mr) (x4 x5 x6 x7 x9 bn x11 x12 x15 x16 x17 x18 x19 x20:D) (acc:List Int) (hu:Up acc) (ha:acc.length≤1000) :
  ax [Bg (RP (n+4))] M0 0 [dI (some L),il L.length,il 0,.r (acc.map rI),x4,x5,x6,x7,.m q,x9,bn,x11,x12,.n acc.length,.n acc.length,x15,x16,x17,x18,x19,x20] =
   some (0,[.r ((aW acc L).map rI),.d x4,.d x5,.d x6,.d x7,.m q,.d x9,.d bn,.d x11,.d x12,.n (aW acc L).length,.n (aW acc L).length,.d x15,.d x16,.d x17,.d x18,.d x19,.d x20]):=by
 refine jz L hL _ (fun i acc=>[.d (dI (some L)),.d (il L.length),.d (il (i:Nat)),.r (acc.map rI),.d x4,.d x5,.d x6,.d x7,.m q,.d x9,.d bn,.d x11,.d x12,.n acc.length,.n acc.length,.d x15,.d x16,.d x17,.d x18,.d x19,.d x20])
  (fun acc=>some (0,[.r (acc.map rI),.d x4,.d x5,.d x6,.d x7,.m q,.d x9,.d bn,.d x11,.d x12,.n acc.length,.n acc.length,.d x15,.d x16,.d x17,.d x18,.d x19,.d x20])) 1000 ?_ ?_ acc hu ha
 ·intro acc k;simp [Bg]
 ·intro i c acc k hi hlt hw hu hl
  have hi':((some L).getD [])[i]?=some c:=hi
  have hput:=cG n acc c (by omega) hu
  simp only [Bg,ac,ag,b8,aZ,aN,b9,aC,aa,hlt,T8,T6,cQ hi',rI,ak,aI,aR,Tj,bL,ah]
  simp only [hput,ab,ac,bR,ae,ay,hw,Tj,bt,bu]
theorem E6 (n:Nat) (L:List Int) (hL:L.length≤1000000) (q:Mr) (x4 x5 x6 x7 x9 bn x11 x12 x15 x16 x17 x18 x19 x20:D) (acc:List Int) (hu:Up acc) (ha:acc.length≤1000) :
  ax [Bf (RP (n+4))] M0 0 [dI (some L),il L.length,il 0,.r (acc.map rI),x4,x5,x6,x7,.m q,x9,bn,x11,x12,.n acc.length,.n acc.length,x15,x16,x17,x18,x19,x20] =
   some (0,[.r ((aW acc L).map rI),.d x4,.d x5,.d x6,.d x7,.m q,.d x9,.d bn,.d x11,.d x12,.n (aW acc L).length,.n (aW acc L).length,.d x15,.d x16,.d x17,.d x18,.d x19,.d x20]):=by
 refine jz L hL _ (fun i acc=>[.d (dI (some L)),.d (il L.length),.d (il (i:Nat)),.r (acc.map rI),.d x4,.d x5,.d x6,.d x7,.m q,.d x9,.d bn,.d x11,.d x12,.n acc.length,.n acc.length,.d x15,.d x16,.d x17,.d x18,.d x19,.d x20])
  (fun acc=>some (0,[.r (acc.map rI),.d x4,.d x5,.d x6,.d x7,.m q,.d x9,.d bn,.d x11,.d x12,.n acc.length,.n acc.length,.d x15,.d x16,.d x17,.d x18,.d x19,.d x20])) 1000 ?_ ?_ acc hu ha
 ·intro acc k;simp [Bf]
 ·intro i c acc k hi hlt hw hu hl
  have hi':((some L).getD [])[i]?=some c:=hi
  have hput:=cG n acc c (by omega) hu
  simp only [Bf,ac,ag,b8,aZ,aN,b9,aC,aa,hlt,T8,T6,cQ hi',rI,ak,aI,aR,Tj,bL,ah]
  simp only [hput,ab,ac,bR,ae,ay,hw,Tj,bt,bu]
theorem E3 (n:Nat) (L:List Int) (hL:L.length≤1000000) (q:Mr) (x3 x4 x5 x6 x8 x9 bn x11 x15 x16 x17 x18 x19 x20:D) (acc:List Int) (hu:Up acc) (ha:acc.length≤1000) :
  ax [Be (RP (n+4))] M0 0 [dI (some L),il L.length,il 0,x3,x4,x5,x6,.m q,x8,x9,bn,x11,.n acc.length,.n acc.length,.r (acc.map rI),x15,x16,x17,x18,x19,x20] =
   some (0,[.d x3,.d x4,.d x5,.d x6,.m q,.d x8,.d x9,.d bn,.d x11,.n (aW acc L).length,.n (aW acc L).length,.r ((aW acc L).map rI),.d x15,.d x16,.d x17,.d x18,.d x19,.d x20]):=by
 refine jz L hL _ (fun i acc=>[.d (dI (some L)),.d (il L.length),.d (il (i:Nat)),.d x3,.d x4,.d x5,.d x6,.m q,.d x8,.d x9,.d bn,.d x11,.n acc.length,.n acc.length,.r (acc.map rI),.d x15,.d x16,.d x17,.d x18,.d x19,.d x20])
  (fun acc=>some (0,[.d x3,.d x4,.d x5,.d x6,.m q,.d x8,.d x9,.d bn,.d x11,.n acc.length,.n acc.length,.r (acc.map rI),.d x15,.d x16,.d x17,.d x18,.d x19,.d x20])) 1000 ?_ ?_ acc hu ha
 ·intro acc k;simp [Be]
 ·intro i c acc k hi hlt hw hu hl
  have hi':((some L).getD [])[i]?=some c:=hi
  have hput:=cG n acc c (by omega) hu
  simp only [Be,ac,ag,b8,aZ,aN,b9,aC,aa,hlt,T8,T6,cQ hi',rI,ak,aI,aR,Tj,bL,ah]
  simp only [hput,ab,ac,bR,ae,ay,hw,Tj,bt,bu]
def nP (d who:Int) (kin:D) (no yes:Bool) (acc:List Int) (q:Mr):List Yr:=[.r (acc.map rI),.n acc.length,.n acc.length,.d (bl no),.d (bl yes),.d kin,.d (il d),.m q,.d kin,.d (il d),.d kin,.d (il who)]
def nR (d who:Int) (kin:D) (no yes:Bool) (m:Nat) (acc:List Int) (q:Mr):List Yr:=.d (il d)::.d (il ((m:Int) - 1))::nP d who kin no yes acc q
def BV (d who:Int) (kin:D) (no yes:Bool) (q:Mr):List Yr:=[.d (bl no),.d (bl yes),.d kin,.d (il d),.m q,.d kin,.d (il d),.d kin,.d (il who)]
def vi (d who:Int) (kin:D) (no yes:Bool) (m:Nat) (q:Mr):List Yr:=.d (il d)::.d (il ((m:Int) - 1))::BV d who kin no yes q
theorem LC (n:Nat) (a b c:Option (List E9)) (o:Option (List E5)) (d who:Int) (no yes:Bool) (m:Nat) (e:E9) (he:(a.getD [])[m]?=some e) (hb0:¬ e.b=0) (hw:IntKind.i64.wrap (((m:Nat):Int) - 1)=((m:Nat):Int) - 1)
  (_:aj d (b.getD []) e.b≠[]) (hlen:(aj d (b.getD []) e.b).length≤1000000)
  (hcall:∀ q:Mr,ci d (b.getD []) q→∃ q':Mr,ci d (b.getD []) q'∧FN (n+4) 1000161 [an a b c o,il d,.mp false q.1 q.2,il e.b,an a b c o,il d]=some (0,[.d (dI (some (aj d (b.getD []) e.b))),.d (an a b c o),.d (il d),.d (.mp false q'.1 q'.2)]))
  (acc:List Int) (q:Mr) (hu:Up acc) (ha:acc.length≤900) (hq:ci d (b.getD []) q) (k:Nat→List Yr→aq):∃ q':Mr,ci d (b.getD []) q'∧p6 (RP (n+4)) k (nR d who (an a b c o) no yes (m+1) acc q) =
   if e.a=who∧bh e.f1 e.t2 d=true then (if bq e.f2 e.t1 d=true then some (2,nP d who (an a b c o) no yes (bz (aj d (b.getD [])) yes no (some e.b) acc) q') else k 1 (nR d who (an a b c o) no yes m (bz (aj d (b.getD [])) yes no (some e.b) acc) q')) else k 1 (nR d who (an a b c o) no yes m acc q'):=by
 have hm:(((m+1:Nat):Int) - 1)=((m:Nat):Int):=by omega
 have h157:=vm (n+3) a b c o m e who he
 have hput:=cG n acc 0 (by omega) hu
 simp only [nR,nP,hm,p6,ac,ag,b8,aZ,aN,b9,bu,bt,ae,bQ,aa]
 rw [T1 (by simp)]
 simp only [ah,h157,ab,ac,ag,aP,aa,br,hw]
 by_cases h1:e.a=who
 ·rw [T5 (by simp [h1])]
  simp only [jN,ab,ac,aP,aa]
  by_cases h2:bh e.f1 e.t2 d=true
  ·rw [T5 (by simp [h2])]
   simp only [T1 (⟨h1,h2⟩:e.a=who∧bh e.f1 e.t2 d=true)]
   simp only [aV,hb0,Tk,aa,T0,T9]
   cases no with
   | false =>
    have hfs:bz (aj d (b.getD [])) yes false (some e.b) acc=if yes=true then aW acc (aj d (b.getD []) e.b) else acc:=by cases yes<;>simp [bz,f0,hb0]
    simp only [T0,T9,ab,ac,ag,b8,aZ,aN,b9,bu,bt,aV,hb0,Tk,aa,ao]
    cases yes with
    | false =>
     refine ⟨q,hq,?_⟩
     simp only [aP,V1,aa,T6,dV,ab,ac,hfs]
     rfl
    | true =>
     obtain ⟨q',hq',hc⟩:=hcall q hq
     refine ⟨q',hq',?_⟩
     simp only [aP,Tu,aa,T0,T9,ca,hc,ab,ac,ag,cd,cA,T7,aD]
     rw [E6 n _ hlen _ _ _ _ _ _ _ _ _ _ _ _ _ _ _ acc hu (by omega)]
     simp only [ab,dV,ac,ag,b8,aZ,aN,bu,bt,aa,hfs]
     rfl
   | true =>
    have hu0:=gc 0 hu
    have hl0:=fJ 0 acc
    have hfs:bz (aj d (b.getD [])) yes true (some e.b) acc=if yes=true then aW (ins 0 acc) (aj d (b.getD []) e.b) else ins 0 acc:=by cases yes<;>simp [bz,f0,hb0]
    simp only [T6,aI,Tj,aR,bL,hput,bR,ab,ac,ag,b8,aZ,aN,b9,bu,bt,aV,hb0,Tk,aa,T0,T9,ao]
    cases yes with
    | false =>
     refine ⟨q,hq,?_⟩
     simp only [aP,V1,aa,T6,dV,ab,ac,hfs]
     rfl
    | true =>
     obtain ⟨q',hq',hc⟩:=hcall q hq
     refine ⟨q',hq',?_⟩
     simp only [aP,Tu,aa,T0,T9,ca,hc,ab,ac,ag,cd,cA,T7,aD]
     rw [E6 n _ hlen _ _ _ _ _ _ _ _ _ _ _ _ _ _ _ (ins 0 acc) hu0 (by omega)]
     simp only [ab,dV,ac,ag,b8,aZ,aN,bu,bt,aa,hfs]
     rfl
  ·rw [T1 (by simp [h2])]
   simp only [T5 (fun h=>h2 h.2:¬ (e.a=who∧bh e.f1 e.t2 d=true))]
   exact ⟨q,hq,rfl⟩
 ·rw [T1 (by simp [h1])]
  simp only [T5 (fun h=>h1 h.1:¬ (e.a=who∧bh e.f1 e.t2 d=true))]
  exact ⟨q,hq,rfl⟩
theorem LB (n:Nat) (a b c:Option (List E9)) (o:Option (List E5)) (d who:Int) (no yes:Bool) (m:Nat) (e:E9) (he:(a.getD [])[m]?=some e) (hb0:¬ e.b=0) (hw:IntKind.i64.wrap (((m:Nat):Int) - 1)=((m:Nat):Int) - 1)
  (_:aj d (b.getD []) e.b≠[]) (hlen:(aj d (b.getD []) e.b).length≤1000000)
  (hcall:∀ q:Mr,ci d (b.getD []) q→∃ q':Mr,ci d (b.getD []) q'∧FN (n+4) 1000161 [an a b c o,il d,.mp false q.1 q.2,il e.b,an a b c o,il d]=some (0,[.d (dI (some (aj d (b.getD []) e.b))),.d (an a b c o),.d (il d),.d (.mp false q'.1 q'.2)]))
  (acc:List Int) (q:Mr) (hu:Up acc) (ha:acc.length≤900) (hq:ci d (b.getD []) q) (k:Nat→List Yr→aq):∃ q':Mr,ci d (b.getD []) q'∧p5 (RP (n+4)) k (nR d who (an a b c o) no yes (m+1) acc q) =
   if e.a=who∧bh e.f1 e.t2 d=true then (if bq e.f2 e.t1 d=true then some (4,nP d who (an a b c o) no yes (bz (aj d (b.getD [])) yes no (some e.b) acc) q') else k 2 (nR d who (an a b c o) no yes m (bz (aj d (b.getD [])) yes no (some e.b) acc) q')) else k 2 (nR d who (an a b c o) no yes m acc q'):=by
 have hm:(((m+1:Nat):Int) - 1)=((m:Nat):Int):=by omega
 have h157:=vm (n+3) a b c o m e who he
 have hput:=cG n acc 0 (by omega) hu
 simp only [nR,nP,hm,p5,ac,ag,b8,aZ,aN,b9,bu,bt,ae,bQ,aa]
 rw [T1 (by simp)]
 simp only [ah,h157,ab,ac,ag,aP,aa,br,hw]
 by_cases h1:e.a=who
 ·rw [T5 (by simp [h1])]
  simp only [jN,ab,ac,aP,aa]
  by_cases h2:bh e.f1 e.t2 d=true
  ·rw [T5 (by simp [h2])]
   simp only [T1 (⟨h1,h2⟩:e.a=who∧bh e.f1 e.t2 d=true)]
   simp only [aV,hb0,Tk,aa,T0,T9]
   cases no with
   | false =>
    have hfs:bz (aj d (b.getD [])) yes false (some e.b) acc=if yes=true then aW acc (aj d (b.getD []) e.b) else acc:=by cases yes<;>simp [bz,f0,hb0]
    simp only [T0,T9,ab,ac,ag,b8,aZ,aN,b9,bu,bt,aV,hb0,Tk,aa,ao]
    cases yes with
    | false =>
     refine ⟨q,hq,?_⟩
     simp only [aP,V1,aa,T6,dV,ab,ac,hfs]
     rfl
    | true =>
     obtain ⟨q',hq',hc⟩:=hcall q hq
     refine ⟨q',hq',?_⟩
     simp only [aP,Tu,aa,T0,T9,ca,hc,ab,ac,ag,cd,cA,T7,aD]
     rw [E3 n _ hlen _ _ _ _ _ _ _ _ _ _ _ _ _ _ _ acc hu (by omega)]
     simp only [ab,dV,ac,ag,b8,aZ,aN,b9,bu,bt,aa,hfs]
     rfl
   | true =>
    have hu0:=gc 0 hu
    have hl0:=fJ 0 acc
    have hfs:bz (aj d (b.getD [])) yes true (some e.b) acc=if yes=true then aW (ins 0 acc) (aj d (b.getD []) e.b) else ins 0 acc:=by cases yes<;>simp [bz,f0,hb0]
    simp only [T6,aI,Tj,aR,bL,hput,bR,ab,ac,ag,b8,aZ,aN,b9,bu,bt,aV,hb0,Tk,aa,T0,T9,ao]
    cases yes with
    | false =>
     refine ⟨q,hq,?_⟩
     simp only [aP,V1,aa,T6,dV,ab,ac,hfs]
     rfl
    | true =>
     obtain ⟨q',hq',hc⟩:=hcall q hq
     refine ⟨q',hq',?_⟩
     simp only [aP,Tu,aa,T0,T9,ca,hc,ab,ac,ag,cd,cA,T7,aD]
     rw [E3 n _ hlen _ _ _ _ _ _ _ _ _ _ _ _ _ _ _ (ins 0 acc) hu0 (by omega)]
     simp only [ab,dV,ac,ag,b8,aZ,aN,b9,bu,bt,aa,hfs]
     rfl
  ·rw [T1 (by simp [h2])]
   simp only [T5 (fun h=>h2 h.2:¬ (e.a=who∧bh e.f1 e.t2 d=true))]
   exact ⟨q,hq,rfl⟩
 ·rw [T1 (by simp [h1])]
  simp only [T5 (fun h=>h1 h.1:¬ (e.a=who∧bh e.f1 e.t2 d=true))]
  exact ⟨q,hq,rfl⟩
theorem LD (n:Nat) (a b c:Option (List E9)) (o:Option (List E5)) (d who:Int) (no yes:Bool) (m:Nat) (e:E9) (he:(a.getD [])[m]?=some e) (hb0:¬ e.b=0) (hw:IntKind.i64.wrap (((m:Nat):Int) - 1)=((m:Nat):Int) - 1)
  (hne:aj d (b.getD []) e.b≠[]) (hlen:(aj d (b.getD []) e.b).length≤1000000)
  (hcall:∀ q:Mr,ci d (b.getD []) q→∃ q':Mr,ci d (b.getD []) q'∧FN (n+4) 1000161 [an a b c o,il d,.mp false q.1 q.2,il e.b,an a b c o,il d]=some (0,[.d (dI (some (aj d (b.getD []) e.b))),.d (an a b c o),.d (il d),.d (.mp false q'.1 q'.2)]))
  (hyn:yes=false→no=true) (q:Mr) (hq:ci d (b.getD []) q) (k:Nat→List Yr→aq):∃ q':Mr,ci d (b.getD []) q'∧p7 (RP (n+4)) k (vi d who (an a b c o) no yes (m+1) q) =
   if e.a=who∧bh e.f1 e.t2 d=true then (if bq e.f2 e.t1 d=true then some (if no=true then 2 else 4,nP d who (an a b c o) no yes (bz (aj d (b.getD [])) yes no (some e.b) []) q') else k (if no=true then 1 else 2) (nR d who (an a b c o) no yes m (bz (aj d (b.getD [])) yes no (some e.b) []) q')) else k 0 (vi d who (an a b c o) no yes m q'):=by
 have hm:(((m+1:Nat):Int) - 1)=((m:Nat):Int):=by omega
 have h157:=vm (n+3) a b c o m e who he
 simp only [vi,BV,hm,p7,ac,ag,bu,bt,ae,bQ,aa]
 rw [T1 (by simp)]
 simp only [ah,h157,ab,ac,ag,aP,aa,br,hw]
 by_cases h1:e.a=who
 ·rw [T5 (by simp [h1])]
  simp only [jN,ab,ac,aP,aa]
  by_cases h2:bh e.f1 e.t2 d=true
  ·rw [T5 (by simp [h2])]
   simp only [T1 (⟨h1,h2⟩:e.a=who∧bh e.f1 e.t2 d=true)]
   simp only [aV,hb0,Tk,aa,T0,T9]
   cases no with
   | false =>
    cases yes with
    | false=>exact absurd (hyn rfl) (by simp)
    | true =>
     have hfs:bz (aj d (b.getD [])) true false (some e.b) []=aW [] (aj d (b.getD []) e.b):=by simp [bz,f0,hb0]
     obtain ⟨q',hq',hc⟩:=hcall q hq
     refine ⟨q',hq',?_⟩
     simp only [T0,T9,ab,ac,ag,bu,bt,aV,hb0,Tk,aa,ao,aP,Tu,ca,hc,cd,cA,T7,aD]
     rw [Gx n _ hlen hne]
     simp only [cI,ab,dV,ac,ag,b8,aZ,aN,bu,bt,aa,hfs]
     rfl
   | true =>
    have hfs:bz (aj d (b.getD [])) yes true (some e.b) []=if yes=true then aW [0] (aj d (b.getD []) e.b) else [0]:=by cases yes<;>simp [bz,f0,hb0,ins]
    simp only [T6,cc,tS,ab,ac,ag,aa,T0,T9]
    rw [Cc]
    simp only [bj,aM,aI,aU,Tb,Td,Tg,Tq,ao,cI,ab,ac,ag,b8,aZ,aN,bu,bt,aV,hb0,Tk,aa,T0,T9]
    cases yes with
    | false =>
     refine ⟨q,hq,?_⟩
     simp only [aP,V1,aa,T6,dV,ab,ac,hfs]
     rfl
    | true =>
     obtain ⟨q',hq',hc⟩:=hcall q hq
     refine ⟨q',hq',?_⟩
     simp only [aP,Tu,aa,T0,T9,ca,hc,ab,ac,ag,cd,cA,T7,aD]
     rw [show ([0].map rI)=[0].map rI from rfl,show (0+1:Nat)=[(0:Int)].length from rfl,M5 n _ hlen _ _ _ _ _ _ _ _ _ _ _ _ _ _ _ [0] (by simp) (by simp)]
     simp only [ab,dV,ac,ag,b8,aZ,aN,bu,bt,aa,hfs]
     rfl
  ·rw [T1 (by simp [h2])]
   simp only [T5 (fun h=>h2 h.2:¬ (e.a=who∧bh e.f1 e.t2 d=true))]
   exact ⟨q,hq,rfl⟩
 ·rw [T1 (by simp [h1])]
  simp only [T5 (fun h=>h1 h.1:¬ (e.a=who∧bh e.f1 e.t2 d=true))]
  exact ⟨q,hq,rfl⟩
end
section
theorem eA {acc:List Int} (hu:Up acc) (h:∀ z∈acc,0≤z∧z≤99):acc.length≤100:=by
 have:=tq acc 0 99 hu h
 omega
def EO (d who:Int) (kin:D) (no yes:Bool) (s:Nat×Bool×List Int×Mr):Nat×List Yr:=match s.2.2.1 with
 | []=>(0,vi d who kin no yes s.1 s.2.2.2)
 | y::r=>(if s.2.1=true then 1 else 2,nR d who kin no yes s.1 (y::r) s.2.2.2)
theorem wF (d who:Int) (kin:D) (no yes:Bool) (m:Nat) (j:Bool) (q:Mr):EO d who kin no yes (m,j,[],q)=(0,vi d who kin no yes m q):=rfl
theorem nj (d who:Int) (kin:D) (no yes:Bool) (m:Nat) (j:Bool) {acc:List Int} (q:Mr) (h:acc≠[]):EO d who kin no yes (m,j,acc,q)=(if j=true then 1 else 2,nR d who kin no yes m acc q):=by
 cases acc with
 | nil=>exact absurd rfl h
 | cons _ _=>rfl
def Q82 (d who:Int) (kin:D) (no yes:Bool) (T:List Int) (r:aq):Prop:=∃ (acc:List Int) (q:Mr),Up acc∧acc.length≤900 ∧
 ((acc≠[]∧∃ j:Nat,(((j=2∨j=4)∧acc=T)∨((j=3∨j=5)∧ins 0 acc=T))∧r=some (j,nP d who kin no yes acc q))∨(r=some (0,BV d who kin no yes q)∧acc=[]∧ins 0 []=T))
theorem yV {L:Int→List Int} {yes no:Bool} (hyn:yes=false→no=true) {w:Int} (hw:¬ w=0) (hL:L w≠[]) (acc:List Int):bz L yes no (some w) acc≠[]:=by
 unfold bz
 have:¬ f0 (some w)=0:=hw
 cases yes with
 | false=>have:=hyn rfl;subst this;simp;exact md _ _
 | true=>simp only [this,false_or,Vq,T9];exact fx _ hL
theorem l82 (n:Nat) (a b c:Option (List E9)) (o:Option (List E5)) (d who:Int) (no yes:Bool) (hyn:yes=false→no=true) (ha:my (a.getD [])) (hla:(a.getD []).length≤1000000) (hb:dh (b.getD []))
  (hrec:∀ (w:Int) (q:Mr),1≤w→w≤99→ci d (b.getD []) q→∃ q':Mr,ci d (b.getD []) q'∧FN (n+4) 1000161 [an a b c o,il d,.mp false q.1 q.2,il w,an a b c o,il d]=some (0,[.d (dI (some (aj d (b.getD []) w))),.d (an a b c o),.d (il d),.d (.mp false q'.1 q'.2)])) :
  Q82 d who (an a b c o) no yes (mo (aj d (b.getD [])) yes no (aG d who (below (a.getD []) (a.getD []).length)) []) (ax [p7 (RP (n+4)),p6 (RP (n+4)),p5 (RP (n+4))] M0 0 (vi d who (an a b c o) no yes (a.getD []).length ([],[]))):=by
 generalize hT:mo (aj d (b.getD [])) yes no (aG d who (below (a.getD []) (a.getD []).length)) []=T
 refine eZ (σ:=Nat×Bool×List Int×Mr) [p7 (RP (n+4)),p6 (RP (n+4)),p5 (RP (n+4))] (EO d who (an a b c o) no yes) (fun s=>s.1)
  (fun s=>s.1≤(a.getD []).length∧Up s.2.2.1∧(∀ z∈s.2.2.1,0≤z∧z≤99)∧ci d (b.getD []) s.2.2.2∧mo (aj d (b.getD [])) yes no (aG d who (below (a.getD []) s.1)) s.2.2.1=T)
  (Q82 d who (an a b c o) no yes T) ?_ M0 ((a.getD []).length,true,[],([],[])) ⟨Tf _,by simp,by simp,kq _ _,hT⟩ (by unfold M0;simp only;omega)
 clear hT
 rintro ⟨m,j,acc,q⟩ k ⟨g1,g2,g3,g4,g5⟩ ih
 simp only at g1 g2 g3 g4 g5 ih
 have gl:=eA g2 g3
 cases m with
 | zero =>
  rw [ib] at g5
  have g6:ins 0 acc=T:=by rw [←g5];simp [aG,mo,bz,f0]
  cases acc with
  | nil =>
   refine ⟨p7 (RP (n+4)),rfl,[],q,g2,by simp,.inr ⟨?_,rfl,g6⟩⟩
   simp [wF,vi,BV,p7]
  | cons y r =>
   cases j with
   | true =>
    refine ⟨p6 (RP (n+4)),rfl,y::r,q,g2,by omega,.inl ⟨by simp,3,.inr ⟨.inl rfl,g6⟩,?_⟩⟩
    simp [EO,nR,nP,p6]
   | false =>
    refine ⟨p5 (RP (n+4)),rfl,y::r,q,g2,by omega,.inl ⟨by simp,5,.inr ⟨.inr rfl,g6⟩,?_⟩⟩
    simp [EO,nR,nP,p5]
 | succ m =>
  obtain ⟨e,he⟩:∃ e,(a.getD [])[m]?=some e:=⟨_,Tc (by omega)⟩
  rw [fF he,aG] at g5
  have hw:IntKind.i64.wrap (((m:Nat):Int) - 1)=((m:Nat):Int) - 1:=aE (by omega) (by omega)
  have hbe:=ha e (Vb he)
  have hb0:¬ e.b=0:=by omega
  have hne:aj d (b.getD []) e.b≠[]:=fun h=>by
   obtain ⟨z,hz⟩:=eK hb (d:=d) _ e.b (Tf _) hbe.1
   rw [h] at hz;simp at hz
  have hlen:=gU (d:=d) hb hbe.1
  have hcall:=fun q hq=>hrec e.b q hbe.1 hbe.2 hq
  have hfne:=yV (L:=aj d (b.getD [])) hyn hb0 hne acc
  have hfu:=pM (aj d (b.getD [])) yes no (some e.b) g2
  have hfr:∀ z∈bz (aj d (b.getD [])) yes no (some e.b) acc,0≤z∧z≤99:=fun z hz=>by
   rcases (oO _ _ _ _ _ _).1 hz with h | ⟨rfl,_⟩ | ⟨_,_,h⟩
   ·exact g3 z h
   ·omega
   ·have:=bK hb _ e.b z (Tf _) hbe.1 h;omega
  have hfl:=eA hfu hfr
  cases acc with
  | nil =>
   obtain ⟨q',hq',hr⟩:=LD n a b c o d who no yes m e he hb0 hw hne (by omega) hcall hyn q g4 k
   refine ⟨p7 (RP (n+4)),rfl,?_⟩
   rw [wF]
   simp only
   rw [hr]
   by_cases hc:e.a=who∧bh e.f1 e.t2 d=true
   ·rw [T1 hc] at g5 ⊢
    rw [mo] at g5
    by_cases h3:bq e.f2 e.t1 d=true
    ·rw [T1 h3] at g5 ⊢
     refine ⟨bz (aj d (b.getD [])) yes no (some e.b) [],q',hfu,by omega,.inl ⟨hfne,_,.inl ⟨?_,g5⟩,rfl⟩⟩
     cases no<;>simp
    ·rw [T5 h3] at g5 ⊢
     have:=ih (m,no,bz (aj d (b.getD [])) yes no (some e.b) [],q') ⟨by simp only;omega,hfu,hfr,hq',g5⟩ (by simp only;omega)
     rw [nj _ _ _ _ _ _ _ _ hfne] at this
     exact this
   ·rw [T5 hc] at g5 ⊢
    exact ih (m,true,[],q') ⟨by simp only;omega,g2,g3,hq',g5⟩ (by simp only;omega)
  | cons y r =>
   cases j with
   | true =>
    obtain ⟨q',hq',hr⟩:=LC n a b c o d who no yes m e he hb0 hw hne (by omega) hcall (y::r) q g2 (by omega) g4 k
    refine ⟨p6 (RP (n+4)),rfl,?_⟩
    rw [nj _ _ _ _ _ _ _ _ (by simp)]
    simp only
    rw [hr]
    by_cases hc:e.a=who∧bh e.f1 e.t2 d=true
    ·rw [T1 hc] at g5 ⊢
     rw [mo] at g5
     by_cases h3:bq e.f2 e.t1 d=true
     ·rw [T1 h3] at g5 ⊢
      exact ⟨bz (aj d (b.getD [])) yes no (some e.b) (y::r),q',hfu,by omega,.inl ⟨hfne,_,.inl ⟨.inl rfl,g5⟩,rfl⟩⟩
     ·rw [T5 h3] at g5 ⊢
      have:=ih (m,true,bz (aj d (b.getD [])) yes no (some e.b) (y::r),q') ⟨by simp only;omega,hfu,hfr,hq',g5⟩ (by simp only;omega)
      rw [nj _ _ _ _ _ _ _ _ hfne] at this
      exact this
    ·rw [T5 hc] at g5 ⊢
     exact ih (m,true,y::r,q') ⟨by simp only;omega,g2,g3,hq',g5⟩ (by simp only;omega)
   | false =>
    obtain ⟨q',hq',hr⟩:=LB n a b c o d who no yes m e he hb0 hw hne (by omega) hcall (y::r) q g2 (by omega) g4 k
    refine ⟨p5 (RP (n+4)),rfl,?_⟩
    rw [nj _ _ _ _ _ _ _ _ (by simp)]
    simp only
    rw [hr]
    by_cases hc:e.a=who∧bh e.f1 e.t2 d=true
    ·rw [T1 hc] at g5 ⊢
     rw [mo] at g5
     by_cases h3:bq e.f2 e.t1 d=true
     ·rw [T1 h3] at g5 ⊢
      exact ⟨bz (aj d (b.getD [])) yes no (some e.b) (y::r),q',hfu,by omega,.inl ⟨hfne,_,.inl ⟨.inr rfl,g5⟩,rfl⟩⟩
     ·rw [T5 h3] at g5 ⊢
      have:=ih (m,false,bz (aj d (b.getD [])) yes no (some e.b) (y::r),q') ⟨by simp only;omega,hfu,hfr,hq',g5⟩ (by simp only;omega)
      rw [nj _ _ _ _ _ _ _ _ hfne] at this
      exact this
    ·rw [T5 hc] at g5 ⊢
     exact ih (m,false,y::r,q') ⟨by simp only;omega,g2,g3,hq',g5⟩ (by simp only;omega)
theorem s82 (n:Nat) (a b c:Option (List E9)) (o:Option (List E5)) (d who:Int) (hd:0≤d∧d≤4166) (ha:my (a.getD [])) (hb:dh (b.getD [])) (hla:(a.getD []).length≤1000000) (hlb:(b.getD []).length≤1000000) (hlc:(c.getD []).length≤1000000) (hlo:(o.getD []).length≤1000000) :
  FN (n+105) 82 [d9 a,d9 b,d9 c,d5 o,il who,il d]=some (0,[.d (dI (some (bC a b c o d who)))]):=by
 rw [FS,Ny]
 have hloop:=l82 (n+100) a b c o d who (fy (a.getD []) (c.getD []) (o.getD []) d who).2 (fy (a.getD []) (c.getD []) (o.getD []) d who).1 (yQ _ _ _ _ _) ha hla hb
  (fun w q hw1 hw2 hq=>C2 a b c o d hb hlb 99 n w q hw1 (by omega) hw2 hq)
 rw [show n+100+4=n+104 from rfl] at hloop
 have hp:∀ k:List D→aq,(RP (n+104)).ptrW 4 (.dp [d9 a,d9 b,d9 c,d5 o] 0) k=k [d9 a,d9 b,d9 c,d5 o]:=fun k=>bP _ 4 k rfl
 have w2:IntKind.i64.wrap (((a.getD []).length:Int) - 1)=((a.getD []).length:Int) - 1:=aE (by omega) (by omega)
 simp only [G82,ah,s163 (n+97) a b c o d who hd hla hlc hlo,ab,ac,ag,gO,cW,hp,ak,cS,ae,br,w2,aD,sj]
 simp only [vi,BV,an] at hloop
 rw [show bC a b c o d who=mo (aj d (b.getD [])) (fy (a.getD []) (c.getD []) (o.getD []) d who).1 (fy (a.getD []) (c.getD []) (o.getD []) d who).2 (aG d who (below (a.getD []) (a.getD []).length)) [] from rfl]
 generalize mo (aj d (b.getD [])) (fy (a.getD []) (c.getD []) (o.getD []) d who).1 (fy (a.getD []) (c.getD []) (o.getD []) d who).2 (aG d who (below (a.getD []) (a.getD []).length)) []=T at hloop ⊢
 obtain ⟨acc,q,hu,hl,⟨hne,j,hj,hr⟩ | ⟨hr,_,hT⟩⟩:=hloop
 ·rw [hr]
  have hput:=cG (n+100) acc 0 (by omega) hu
  rw [show n+100+4=n+104 from rfl] at hput
  rcases hj with ⟨rfl | rfl,rfl⟩ | ⟨rfl | rfl,rfl⟩
  ·simp [nP,np]
  ·simp [nP,np]
  ·simp [nP,hput,np]
  ·simp [nP,hput,np]
 ·rw [hr,← hT]
  simp only [BV,ab,aV,T8,aa,T6,cc,tS,ac,ag,T0,T9]
  rw [Cc]
  simp [dI,dR,ins,rI]
end
end Go.VE
