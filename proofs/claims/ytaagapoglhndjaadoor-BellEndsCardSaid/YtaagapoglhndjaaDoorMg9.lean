/- Bell, in the end: what a round does to one field. -/
import Derived.Test.YtaagapoglhndjaaDoorMg6
import Derived.Test.YtaagapoglhndjaaDoorMg8
namespace Go.VE
open Go.RowKit Go.Proofs
section
def SameF (k:Nat) (f f':Fld):Prop:=f'.no=f.no∧f'.ask=f.ask∧f'.wants=f.wants∧∀ o:Nat,aT k o f'=aT k o f
def qC (k:Nat) (e:aJ) (f:Fld):Prop:=fe f.wants=true∧bQ k e.2 f=[]
def yy (f:Fld):Fld:={ f with wants:=f.wants+1,af:=fun _=>false }
def PhA (e:aJ) (f g:uo):Prop:=∀ k,e∈bk k→SameF k (f k) (g k)∧(g k).opn=false
def PhB (e:aJ) (f g:uo):Prop:=∀ k,e∈bk k→(qC k e (f k)→g k=yy (f k))∧(¬ qC k e (f k)→g k=f k)
def Iq (k:Nat) (e:aJ) (f g:Fld):Prop:=g.wants=f.wants∧g.ask=f.ask∧g.opn=f.opn∧∀ o,e∈bk o→o≠k→(bH k e.2 f o=true→g.no o=f.no o+1)∧(bH k e.2 f o=false→g.no o=f.no o∧aT k o g=aT k o f)
def PhC (e:aJ) (f g:uo):Prop:=∀ k,e∈bk k→Iq k e (f k) (g k)
def Hrd (k o:Nat) (f g:Fld) (n v:Int):Prop:=g.ask o=max (f.ask o) v∧(f.no o < n∧aK k o n=true→g.no o=n∧aT k o g=fe f.wants)∧(¬ (f.no o < n∧aK k o n=true)→g.no o=f.no o∧aT k o g=aT k o f)
def PhD (e:aJ) (f g:uo):Prop:=∀ k,e∈bk k→(g k).wants=(f k).wants∧∀ o,e∈bk o→o≠k→Hrd k o (f k) (g k) ((f o).no k) (f o).wants
def Gm (e:aJ) (f:uo):Prop:=∀ a b,e∈bk a→e∈bk b→a≠b→(f a).no b=(f b).no a∧(f a).ask b=(f b).wants
def Is (e:aJ) (f:uo):Prop:=∀ a b,e∈bk a→e∈bk b→a≠b→fe (f b).wants=true→hw b a ((f b).no a)∨aT a b (f a)=true
theorem qr {a b:Nat} (h:a≠b) (x:Int):hw b a x↔¬ hw a b x:=by unfold hw;omega
theorem zQ {a b:Nat} (h:a≠b) (x:Int):hw a b (x+1)↔¬ hw a b x:=by unfold hw;omega
theorem FX {N:Int} {e:aJ} {S} {f g:uo} (hI:Inv N (fun k=>e∈bk k) S f) (hD:PhD e f g):Gm e g:=by
 intro a b ha hb hab
 have p:=hI.pi a b ha hb hab
 have q:=hI.pi b a hb ha (Ne.symm hab)
 obtain ⟨_,dA⟩:=hD a ha
 obtain ⟨wB,dB⟩:=hD b hb
 obtain ⟨k1,k2,k3⟩:=dA b hb (Ne.symm hab)
 obtain ⟨_,j2,j3⟩:=dB a ha hab
 rw [fv hab] at k2 k3
 rw [fv (Ne.symm hab)] at j2 j3
 obtain ⟨p1,p2,p3,_⟩:=p
 obtain ⟨q1,q2,_⟩:=q
 refine ⟨?_,by rw [k1,wB];omega⟩
 by_cases h1:(f a).no b < (f b).no a∧hw a b ((f b).no a)
 ·rw [(k2 h1).1]
  have:¬ ((f b).no a < (f a).no b∧hw b a ((f a).no b)):=fun h=>by omega
  rw [(j3 this).1]
 ·rw [(k3 h1).1]
  by_cases h2:(f b).no a < (f a).no b∧hw b a ((f a).no b)
  ·rw [(j2 h2).1]
  ·rw [(j3 h2).1]
   have e2:=qr hab ((f b).no a)
   have e3:=qr hab ((f a).no b)
   generalize (f a).no b=x at *
   generalize (f b).no a=y at *
   rcases Int.lt_trichotomy x y with h | h | h
   ·by_cases hw1:hw a b y
    ·exact absurd ⟨h,hw1⟩ h1
    ·have:=q1 (e2.2 hw1);omega
   ·exact h
   ·by_cases hw1:hw b a x
    ·exact absurd ⟨h,hw1⟩ h2
    ·have:=p1 (Classical.byContradiction fun h=>hw1 (e3.2 h));omega
theorem D3 {k:Nat} {e:aJ} {f:Fld} {o:Nat} (ho:e∈bk o) (hok:o≠k) (h:¬ hw k o (f.no o)):¬ bQ k e.2 f=[]:=fun hm=>by
 have:o∈bQ k e.2 f:=by
  unfold bQ HG
  refine Kj.2 ⟨Kj.2 ⟨Mg.2 (oB ho),?_⟩,?_⟩
  ·have:¬ (o:Int)=(k:Int):=by omega
   simp [this,qE ho]
  ·rw [←fv (Ne.symm hok)] at h
   simpa using h
 rw [hm] at this
 cases this
theorem Fm {e:aJ} {f f1 f2 f3 f4:uo} (hC:Gm e f) (hA:PhA e f f1) (hB:PhB e f1 f2) (hS:PhC e f2 f3) (hD:PhD e f3 f4) (hr:∀ k,e∈bk k→md (f k)) (hN:∀ a b,e∈bk a→e∈bk b→(f a).no b < 99999):Is e f4:=by
 intro a b ha hb hab hodd
 obtain ⟨⟨a1,a2,a3,_⟩,_⟩:=hA a ha
 obtain ⟨⟨b1,b2,b3,_⟩,_⟩:=hA b hb
 have n2:∀ k,e∈bk k→(f2 k).no=(f1 k).no∧(f2 k).ask=(f1 k).ask:=fun k hk=>by
  obtain ⟨h1,h2⟩:=hB k hk
  by_cases h:qC k e (f1 k)
  ·rw [h1 h];exact ⟨rfl,rfl⟩
  ·rw [h2 h];exact ⟨rfl,rfl⟩
 obtain ⟨wa,_,_,sa⟩:=hS a ha
 obtain ⟨wb,_,_,sb⟩:=hS b hb
 obtain ⟨sa1,sa2⟩:=sa b hb (Ne.symm hab)
 obtain ⟨sb1,sb2⟩:=sb a ha hab
 obtain ⟨_,da⟩:=hD a ha
 obtain ⟨wb4,db⟩:=hD b hb
 obtain ⟨_,da2,da3⟩:=da b hb (Ne.symm hab)
 obtain ⟨_,db2,db3⟩:=db a ha hab
 rw [fv hab] at da2 da3
 rw [fv (Ne.symm hab)] at db2 db3
 obtain ⟨c1,c2⟩:=hC a b ha hb hab
 obtain ⟨_,c3⟩:=hC b a hb ha (Ne.symm hab)
 have xa:(f2 a).no b=(f a).no b:=by rw [(n2 a ha).1,a1]
 have xb:(f2 b).no a=(f a).no b:=by rw [(n2 b hb).1,b1,c1]
 have hbf:f2 b=f1 b:=by
  obtain ⟨h1,h2⟩:=hB b hb
  by_cases h:qC b e (f1 b)
  ·exfalso
   have hw1:=h.1
   rw [wb4,wb,h1 h] at hodd
   have h0:=(hr b hb).1.1
   rw [b3,gA h0] at hw1
   rw [show (yy (f1 b)).wants=(f b).wants+1 by rw [←b3];rfl,gA (by omega)] at hodd
   omega
  ·exact h2 h
 have ob:fe (f b).wants=true:=by rw [←b3,← hbf,← wb,← wb4];exact hodd
 have hne:∀ {x y:Nat},x≠y→(!decide ((y:Int)=(x:Int)))=true:=fun h=>by simp;omega
 have hlt:=hN a b ha hb
 by_cases hwx:hw a b ((f a).no b)
 ·
  have hg:bH a e.2 (f2 a) b=!aT a b (f2 a):=by
   have e3:(f2 a).ask b=(f b).wants:=by rw [(n2 a ha).2,a2,c2]
   unfold bH
   simp only [hne hab,qE hb,e3,ob,xa,(fv hab).2 hwx,hlt,Jr,Ki,To]
  have hgb:bH b e.2 (f2 b) a=false:=by
   have:aK b a ((f a).no b)=false:=by
    cases h:aK b a ((f a).no b) with
    | false=>rfl
    | true=>exact absurd hwx ((qr hab _).1 ((fv (Ne.symm hab)).1 h))
   unfold bH
   simp only [xb,this,Mh,Bool.and_false]
  obtain ⟨y1,_⟩:=sb2 hgb
  rw [xb] at y1
  cases hcl:aT a b (f2 a) with
  | true =>
   rw [hcl] at hg
   obtain ⟨z1,z2⟩:=sa2 hg
   rw [xa] at z1
   right
   rw [(da3 (by rw [z1,y1];omega)).2,z2,hcl]
  | false =>
   rw [hcl] at hg
   have z1:=sa1 hg
   rw [xa] at z1
   left
   have hx:hw b a ((f a).no b+1):=(qr hab _).2 fun h=>(zQ hab _).1 h hwx
   rw [(db2 (by rw [z1,y1];exact ⟨by omega,hx⟩)).1,z1]
   exact hx
 ·have hwb:hw b a ((f a).no b):=(qr hab _).2 hwx
  have hga:bH a e.2 (f2 a) b=false:=by
   have:aK a b ((f a).no b)=false:=by
    cases h:aK a b ((f a).no b) with
    | false=>rfl
    | true=>exact absurd ((fv hab).1 h) hwx
   unfold bH
   simp only [xa,this,Mh,Bool.and_false]
  obtain ⟨z1,_⟩:=sa2 hga
  rw [xa] at z1
  cases hgb:bH b e.2 (f2 b) a with
  | false =>
   obtain ⟨y1,_⟩:=sb2 hgb
   rw [xb] at y1
   left
   rw [(db3 (by rw [z1,y1];omega)).1,y1]
   exact hwb
  | true =>
   have y1:=sb1 hgb
   rw [xb] at y1
   right
   have hx:hw a b ((f a).no b+1):=(zQ hab _).2 hwx
   rw [(da2 (by rw [z1,y1];exact ⟨by omega,hx⟩)).2,wa]
   have haf:f2 a=f1 a:=(hB a ha).2 fun h=>D3 hb (Ne.symm hab) (by rw [a1];exact hwx) h.2
   rw [haf,a3,← c3,← b2,← (n2 b hb).2]
   simp only [bH,Jn] at hgb
   exact hgb.2.2.1
theorem yh {N:Int} {e:aJ} {S} {f f1:uo} (hI:Inv N (fun k=>e∈bk k) S f1) (hC:Gm e f) (hK:Is e f) (hA:PhA e f f1) (hex:∃ k,e∈bk k∧fe (f k).wants=true):∃ k,e∈bk k∧qC k e (f1 k):=by
 obtain ⟨r,hr⟩:=hI.rk
 obtain ⟨k,hk,hok,hmin⟩:∃ k,e∈bk k∧fe (f k).wants=true∧∀ j,e∈bk j→fe (f j).wants=true→r k≤r j:=by
  obtain ⟨k,hk,ho⟩:=hex
  generalize hn:r k=n
  induction n using Nat.strongRecOn generalizing k with
  | _ n ih =>
   by_cases h:∃ j,e∈bk j∧fe (f j).wants=true∧r j < n
   ·obtain ⟨j,hj,hoj,hlt⟩:=h
    exact ih (r j) hlt j hj hoj rfl
   ·refine ⟨k,hk,ho,fun j hj hoj=>?_⟩
    rcases Nat.lt_or_ge (r j) n with h' | h'
    ·exact absurd ⟨j,hj,hoj,h'⟩ h
    ·omega
 obtain ⟨⟨a1,_,a3,_⟩,_⟩:=hA k hk
 refine ⟨k,hk,by rw [a3];exact hok,?_⟩
 unfold bQ HG
 rw [List.filter_eq_nil_iff]
 intro o ho hn
 obtain ⟨h1,h2⟩:=Kj.1 ho
 simp only [Jn,M1,M7] at h2
 have hok':o≠k:=fun h=>h2.1 (by rw [h])
 have heo:=DU hk h2.2
 have hx:¬ hw k o ((f k).no o):=fun h=>by
  rw [a1,(fv (Ne.symm hok')).2 h] at hn
  cases hn
 obtain ⟨⟨o1,_,o3,o4⟩,_⟩:=hA o heo
 rcases hK o k heo hk hok' hok with h | h
 ·exact hx h
 ·have hoo:fe (f o).wants=true:=by
   simp only [aT,Jn] at h
   exact h.2.1
  have:=hr o k heo hk hok' (.inr ⟨by rw [o1,a1];exact (hC o k heo hk hok').1,.inl (by rw [o4];exact h)⟩)
  have:=hmin o heo hoo
  omega
end
section
set_option maxRecDepth 100000
def aW (w:W4):az:=some (0,[.d (il w.1),.d (dB w.2.1),.d (dS w.2.2.1),.d (il w.2.2.2),.d (il 0)])
def l5 (k:Nat) (w:W4):W4:=((k:Int),w.2.1,lV (dy k (bk k) (aG w)),((dy k (bk k) (aG w)).length:Int))
abbrev fB (e:aJ):List ba:=[(4,e.1,0,0)]
abbrev pK (e:aJ) (x:Int):List ba:=[(4,e.1,0,1),(2,e.1,0,x+1)]
theorem t7 (k:Nat) (w:W4):aG (l5 k w)=dy k (bk k) (aG w):=dC _
theorem u6 {m h:Int} {b:Option (List aJ)} {w:W4} {q:Wrt} (h1:q.1=0) (h2:(aG w).length+q.2.length≤120):fA m h b (aG w) q=aW (m,b,some (aG w++q.2),h):=by
 unfold fA
 rw [K1 h1,Kc (by omega)]
 rfl
section
variable {ws:List W4} {ps:List P3} (hG:GoodW ws ps) {k:Nat} {w:W4} (hw:ws[k]?=some w)
include hG hw
theorem c53 (n:Nat):FN (n+6) 53 [il w.1,dB w.2.1,dS w.2.2.1,il w.2.2.2]=aW (l5 k w):=by
 obtain ⟨a1,a2,_⟩:=hG.wat k w hw
 have hsm:=hG.small w (K2 hw)
 refine (s53 n _ _ _ _ hsm.2 hsm.1).trans ?_
 rw [show w.2.2.1.getD []=aG w from rfl]
 rw [K1 (r7 hG hw),a1,a2]
 rfl
theorem c25 (n:Nat) (hl:(aG w).length+(serveX k (bk k) (aG w)).length≤120):FN (n+6) 25 [il w.1,dB w.2.1,dS w.2.2.1,il w.2.2.2]=aW (wL w (serveX k (bk k) (aG w))):=by
 obtain ⟨a1,a2,_⟩:=hG.wat k w hw
 have hsm:=hG.small w (K2 hw)
 refine (s25 n _ _ _ _ hsm.2 hsm.1).trans ?_
 rw [show w.2.2.1.getD []=aG w from rfl]
 rw [K1 (r7 hG hw),a2,show serveX w.1 (bk k) (aG w)=serveX k (bk k) (aG w) by rw [a1]]
 exact u6 (q:=(0,serveX k (bk k) (aG w))) rfl hl
theorem c27 (n:Nat) {p:P3} (hp:p∈ps) (hto:p.2.1=(k:Int)) (hl:(aG w).length+(hearX k p.1 (bk k) (aG w) (p.2.2.getD [])).length≤120):FN (n+6) 27 [il w.1,dB w.2.1,dS w.2.2.1,il w.2.2.2,il p.1,il p.2.1,dT p.2.2]=aW (wL w (hearX k p.1 (bk k) (aG w) (p.2.2.getD []))):=by
 obtain ⟨a1,a2,_⟩:=hG.wat k w hw
 have hsm:=hG.small w (K2 hw)
 have hpl:=(hG.pl p hp).1
 have h4:(p.2.2.getD []).length≤4:=by
  simp only [l8,Jn,Jq] at hpl
  exact hpl.2.2.2.1
 refine (s27 n _ _ _ _ _ _ _ hsm.2 hsm.1 (by omega)).trans ?_
 rw [show w.2.2.1.getD []=aG w from rfl]
 rw [K1 (r7 hG hw),K1 ⟨hpl,by rw [hto,a1]⟩,a2,show hearX w.1 p.1 (bk k) (aG w) (p.2.2.getD [])=hearX k p.1 (bk k) (aG w) (p.2.2.getD []) by rw [a1]]
 exact u6 (q:=(0,hearX k p.1 (bk k) (aG w) (p.2.2.getD []))) rfl hl
theorem c43 (n:Nat) {b:Nat} (hb:b < 6) (hbk:b≠k):FN (n+6) 43 [il w.1,dB w.2.1,dS w.2.2.1,il w.2.2.2,il b]=some (0,[.d (il k),.d (il b),.d (dT (lV (fk k (bk k) (bnd w) b))),.d (il 0)]):=by
 obtain ⟨a1,a2,a3⟩:=hG.wat k w hw
 have hsm:=hG.small w (K2 hw)
 refine (s43 n _ _ _ _ _ hsm.2 hsm.1).trans ?_
 rw [show w.2.2.1.getD []=aG w from rfl]
 have h1:gz (b:Int)=true:=bT.2 (by omega)
 have h2:¬ ((b:Int)=(k:Int)):=by omega
 unfold yM
 rw [K1 (r7 hG hw),a1,a2,h1]
 simp only [h2,Jt,K7,Bool.or_self,Jl,Ju,Ad]
 rfl
variable {e:aJ} (he:e∈bk k)
include he
theorem c35 (n:Nat):FN (n+6) 35 [il w.1,dB w.2.1,dS w.2.2.1,il w.2.2.2,il e.1]=some (0,[.d (bl (rf k e (aG w)).opn),.d (il 0)]):=by
 obtain ⟨a1,a2,a3⟩:=hG.wat k w hw
 have hsm:=hG.small w (K2 hw)
 obtain ⟨_,j,hx,hj⟩:=fF a3 he
 refine (s35 n _ _ _ _ _ hsm.2 hsm.1).trans ?_
 rw [show w.2.2.1.getD []=aG w from rfl]
 unfold oM
 rw [K1 (r7 hG hw),a2,hx]
 simp only [i3,hj,a1]
theorem c37 (n:Nat):FN (n+6) 37 [il w.1,dB w.2.1,dS w.2.2.1,il w.2.2.2,il e.1]=some (0,[.d (bl (fe (rf k e (aG w)).wants)),.d (il 0)]):=by
 obtain ⟨a1,a2,a3⟩:=hG.wat k w hw
 have hsm:=hG.small w (K2 hw)
 obtain ⟨_,j,hx,hj⟩:=fF a3 he
 refine (s37 n _ _ _ _ _ hsm.2 hsm.1).trans ?_
 rw [show w.2.2.1.getD []=aG w from rfl]
 unfold oM
 rw [K1 (r7 hG hw),a2,hx]
 simp only [i3,hj,a1]
theorem c23 (n:Nat) (ho:(rf k e (aG w)).opn=true) (hl:(aG w).length+1≤120):FN (n+6) 23 [il w.1,dB w.2.1,dS w.2.2.1,il w.2.2.2,il e.1]=aW (wL w (fB e)):=by
 obtain ⟨a1,a2,a3⟩:=hG.wat k w hw
 have hsm:=hG.small w (K2 hw)
 obtain ⟨_,j,hx,hj⟩:=fF a3 he
 refine (s23 n _ _ _ _ _ hsm.2 hsm.1).trans ?_
 rw [show w.2.2.1.getD []=aG w from rfl]
 unfold oM
 rw [K1 (r7 hG hw),a2,hx]
 simp only [i3,hj]
 rw [show rf w.1 e (aG w)=rf k e (aG w) by rw [a1]]
 unfold shutX
 rw [K1 ho]
 exact u6 (q:=(0,fB e)) rfl hl
theorem c21 (n:Nat) (ho:(rf k e (aG w)).opn=false) (hm:bQ k e.2 (rf k e (aG w))=[]) (hd:fe (rf k e (aG w)).wants=true) (h9:(rf k e (aG w)).wants < 99999) (hl:(aG w).length+2≤120):FN (n+6) 21 [il w.1,dB w.2.1,dS w.2.2.1,il w.2.2.2,il e.1]=aW (wL w (pK e (rf k e (aG w)).wants)):=by
 obtain ⟨a1,a2,a3⟩:=hG.wat k w hw
 have hsm:=hG.small w (K2 hw)
 obtain ⟨_,j,hx,hj⟩:=fF a3 he
 refine (s21 n _ _ _ _ _ hsm.2 hsm.1).trans ?_
 rw [show w.2.2.1.getD []=aG w from rfl]
 unfold oM
 rw [K1 (r7 hG hw),a2,hx]
 simp only [i3,hj]
 rw [show ringX w.1 e.2 e.1 (rf w.1 e (aG w))=ringX k e.2 e.1 (rf k e (aG w)) by rw [a1]]
 unfold ringX
 rw [Kc (by rw [ho];simp),K1 (by rw [hm];rfl),Kc (by omega),K1 hd]
 exact u6 (q:=(0,pK e (rf k e (aG w)).wants)) rfl hl
theorem c21m (n:Nat) (ho:(rf k e (aG w)).opn=false) (hm:bQ k e.2 (rf k e (aG w))≠[]):FN (n+6) 21 [il w.1,dB w.2.1,dS w.2.2.1,il w.2.2.2,il e.1]=gB 97:=by
 obtain ⟨a1,a2,a3⟩:=hG.wat k w hw
 have hsm:=hG.small w (K2 hw)
 obtain ⟨_,j,hx,hj⟩:=fF a3 he
 refine (s21 n _ _ _ _ _ hsm.2 hsm.1).trans ?_
 rw [show w.2.2.1.getD []=aG w from rfl]
 unfold oM
 rw [K1 (r7 hG hw),a2,hx]
 simp only [i3,hj]
 rw [show ringX w.1 e.2 e.1 (rf w.1 e (aG w))=ringX k e.2 e.1 (rf k e (aG w)) by rw [a1]]
 unfold ringX
 rw [Kc (by rw [ho];simp),Kc (by simpa using hm)]
 rfl
theorem vH (L:List ba):rf k e (aG (wL w L))=(ay k e (rf k e (aG w)) L).1:=by
 have h6:=(eG.1 (hG.wat k w hw).2.2).2.2.2.2.2 e he
 show (ay k e fd0 (aG w++L)).1=_
 rw [cH h6]
 rfl
theorem eRec:rf k e (aG (l5 k w))=renF k (rf k e (aG w)):=by
 rw [t7]
 unfold rf
 rw [mi (hG.wat k w hw).2.2 he]
 rfl
theorem GI:SameF k (rf k e (aG w)) (rf k e (aG (l5 k w)))∧(rf k e (aG (l5 k w))).opn=(rf k e (aG w)).opn:=by
 have a3:=(hG.wat k w hw).2.2
 rw [eRec hG hw he]
 exact ⟨⟨rfl,rfl,rfl,fun o=>pL (rF a3 he) (Gt a3 e) o⟩,rfl⟩
omit he in
theorem u8 {fld:Int} {L:List ba} (hL:∀ s∈L,s.2.1=fld) (he:e∈bk k) (hne:e.1≠fld):rf k e (aG (wL w L))=rf k e (aG w):=by
 rw [vH hG hw he,fa fun s hs=>by rw [hL s hs];exact Ne.symm hne]
theorem GH (ho:(rf k e (aG w)).opn=true):rf k e (aG (wL w (fB e)))={ rf k e (aG w) with opn:=false }:=by
 rw [vH hG hw he,bb (g:={ rf k e (aG w) with opn:=false }) rfl]
 ·rfl
 ·simp [aV,ho]
theorem eRing (ho:(rf k e (aG w)).opn=false) (hm:bQ k e.2 (rf k e (aG w))=[]):rf k e (aG (wL w (pK e (rf k e (aG w)).wants)))={ yy (rf k e (aG w)) with opn:=true }:=by
 have hst:aV k e.2 (rf k e (aG w)) (4,e.1,0,1)=some { rf k e (aG w) with opn:=true }:=by
  generalize e.2=P at hm
  simp [aV,ho,hm]
 rw [vH hG hw he,bb rfl hst,tX rfl (by simp only;omega)]
 rfl
end
theorem sX (w:W4) (L:List ba):(aG (wL w L)).length=(aG w).length+L.length:=by
 show (aG w++L).length=_
 rw [K0]
theorem yV (k:Nat) (w:W4) (hk:k < 6):(aG (l5 k w)).length≤80:=by
 rw [t7]
 have:=pN (me:=k) (ss:=aG w) (bk k)
 have:=iC (mS k hk)
 omega
end
section
set_option maxRecDepth 100000
theorem ma {α:Type} {l:List α} {k:Nat} (h:k < l.length) (x:α):(l.set k x)[k]?=some x:=by simp [h]
theorem SameF.refl (k:Nat) (f:Fld):SameF k f f:=⟨rfl,rfl,rfl,fun _=>rfl⟩
theorem SameF.trans {k:Nat} {f g h:Fld} (a:SameF k f g) (b:SameF k g h):SameF k f h:=⟨b.1.trans a.1,b.2.1.trans a.2.1,b.2.2.1.trans a.2.2.1,fun o=>(b.2.2.2 o).trans (a.2.2.2 o)⟩
theorem lR {k:Nat} (hk:k < 6) {e e':aJ} (he:e∈bk k) (he':e'∈bk k) (h:e.1=e'.1):e=e':=mg (bw (mS k hk)) he he' h
section
variable {N:Int} {ws:List W4} {ps:List P3} {k:Nat} (hk:k < 6)
include hk
theorem l58_0 (n:Nat) (R:Rr) (O:D) {x0:W4} (hX:GoodX N (ws.set k x0) ps) (hl:(aG x0).length≤80):∃ x,bm [sN (RP (n+6))] M0 0 [.d (il k),.d (il 0),.r R,.d (il x0.1),.d (dB x0.2.1),.d (dS x0.2.2.1),.d (il x0.2.2.2),.n 6,.n 6,.d O]=some (1,[.d (il k),.r R,.d (il x.1),.d (dB x.2.1),.d (dS x.2.2.1),.d (il x.2.2.2),.n 6,.n 6,.d O]) ∧
  GoodX (N+4) (ws.set k x) ps∧(aG x).length≤84∧∀ e∈bk k,SameF k (rf k e (aG x0)) (rf k e (aG x))∧(rf k e (aG x)).opn=false:=by
 have hlen:k < ws.length:=by have:=hX.len;rw [Vc] at this;omega
 have h4:=iC (mS k hk)
 have hinv:=iW (β:=W4) (bk k).length (by omega) (sN (RP (n+6))) (fun i x=>[.d (il k),.d (il i),.r R,.d (il x.1),.d (dB x.2.1),.d (dS x.2.2.1),.d (il x.2.2.2),.n 6,.n 6,.d O])
  (fun i x=>GoodX (N+i) (ws.set k x) ps∧(aG x).length≤80+i∧∀ e∈bk k,SameF k (rf k e (aG x0)) (rf k e (aG x))∧∀ q,q < i→(bk k)[q]?=some e→(rf k e (aG x)).opn=false)
  (fun x=>some (1,[.d (il k),.r R,.d (il x.1),.d (dB x.2.1),.d (dS x.2.2.1),.d (il x.2.2.2),.n 6,.n 6,.d O])) ?_ ?_ x0 ⟨by simpa using hX,by omega,fun e _=>⟨.refl _ _,fun q hq=>by omega⟩⟩
 ·obtain ⟨x,⟨h1,h2,h3⟩,hloop⟩:=hinv
  refine ⟨x,hloop,h1.mono (by omega),by omega,fun e he=>⟨(h3 e he).1,?_⟩⟩
  obtain ⟨q,hq,hqe⟩:=List.mem_iff_getElem.1 he
  exact (h3 e he).2 q hq (by rw [Jo hq,hqe])
 ·rintro x j ⟨h1,_,_⟩
  have hb:=(h1.wat k x (ma hlen x)).2.1
  simp only [sN,ah,aj,aq,av,ao,aw,cX,hb,aU,Int.lt_irrefl,Jt,ag,Jl,Ju,aL]
 ·rintro i x hi ⟨h1,h2,h3⟩ hw
  have hx:=ma hlen x
  have hb:=(h1.wat k x hx).2.1
  have he:(bk k)[i]∈bk k:=List.getElem_mem hi
  have hie:(bk k)[i]?=some (bk k)[i]:=Jo hi
  generalize (bk k)[i]=e at he hie
  have hrow:(x.2.1.getD [])[i]?=some e:=by rw [hb];exact hie
  have hlt:(i:Int) < ((bk k).length:Int):=by omega
  have h35:=c35 h1.toGoodW hx he n
  cases ho:(rf k e (aG x)).opn with
  | false =>
   rw [ho] at h35
   refine ⟨x,⟨h1.mono (by omega),by omega,fun e' he'=>⟨(h3 e' he').1,fun q hq hqe=>?_⟩⟩,fun j=>?_⟩
   ·rcases Nat.lt_or_ge q i with h | h
    ·exact (h3 e' he').2 q h hqe
    ·have:q=i:=by omega
     subst this
     rw [hie] at hqe;cases hqe;exact ho
   ·simp only [sN,ah,aj,aq,av,ao,aw,cX,hb,aU,hlt,Jr,ag,Js,eK hrow,lj,aC,h35,ae,ak,bP,T3,Mk,Jt,Jl,Ju,aY,Mq,b7,hw,bn]
  | true =>
   rw [ho] at h35
   have h23:=c23 h1.toGoodW hx he n ho (by omega)
   obtain ⟨_,jj,hxx,hj⟩:=fF (h1.wat k x hx).2.2 he
   have hq:shutX e.1 (fl k (bk k) (aG x) jj)=(0,fB e):=by unfold shutX;rw [i3,hj,K1 ho]
   have hg:=ne h1 hx hxx (by rw [hq]) (by rw [hq];show _+1≤120;omega)
   rw [hq,Te] at hg
   refine ⟨wL x (fB e),⟨hg.mono (by omega),?_,fun e' he'=>?_⟩,fun j=>?_⟩
   ·rw [sX];show _+1≤_;omega
   ·by_cases hee:e'=e
    ·subst hee
     rw [GH h1.toGoodW hx he' ho]
     exact ⟨(h3 e' he').1.trans ⟨rfl,rfl,rfl,fun _=>rfl⟩,fun _ _ _=>rfl⟩
    ·rw [u8 h1.toGoodW hx (fld:=e.1) (by simp) he' fun h=>hee (lR hk he' he h)]
     refine ⟨(h3 e' he').1,fun q hq hqe=>?_⟩
     rcases Nat.lt_or_ge q i with h | h
     ·exact (h3 e' he').2 q h hqe
     ·have:q=i:=by omega
      subst this
      rw [hie] at hqe;cases hqe;exact absurd rfl hee
   ·simp only [sN,ah,aj,aq,av,ao,aw,cX,hb,aU,hlt,Jr,ag,Js,eK hrow,lj,aC,h35,ae,ak,bP,T3,Mk,Jt,Jl,Ju,aY,K7,h23,aW,b7,hw,bn]
end
theorem s58 (n:Nat) {N:Int} {ws:List W4} {o:Option (List P3)} (hX:GoodX N ws (o.getD [])):∃ ws',FN (n+7) 58 [dW (some ws),dP o]=some (0,[.d (dW (some ws')),.d (dP o),.d (bl true)])∧GoodX (N+60) ws' (o.getD [])∧(∀ e,PhA e (ff ws e) (ff ws' e))∧∀ (k:Nat) w,ws'[k]?=some w→(aG w).length≤84:=by
 have hinv:=iW (β:=List W4) 6 (by omega) (As (RP (n+6))) (fun i g=>[.d (il i),.r (g.map cg),.n 6,.n 6,.d (dP o)])
  (fun i g=>GoodX (N+10*i) g (o.getD [])∧∀ (k:Nat) w,g[k]?=some w→(k < i→(aG w).length≤84∧∀ e∈bk k,SameF k (ff ws e k) (rf k e (aG w))∧(rf k e (aG w)).opn=false)∧(i≤k→ws[k]?=some w))
  (fun g=>some (0,[.r (g.map cg),.n 6,.n 6,.d (dP o)])) ?_ ?_ ws ⟨by simpa using hX,fun k w hw=>⟨fun h=>by omega,fun _=>hw⟩⟩
 ·obtain ⟨g,⟨h1,h2⟩,hloop⟩:=hinv
  refine ⟨g,?_,h1.mono (by omega),fun e k hk=>?_,fun k w hw=>?_⟩
  ·have f6:6*64≤140737488355328∧6≤9223372036854775807:=by omega
   have ht:(g.map cg).take 6=g.map cg:=Kd (by rw [Jp,h1.len];omega)
   rw [FS,II]
   simp only [G58,dW,iO,M4,aD,aR,aO,Jy,b6,Js,Jp,hX.len,aN,Jv,bp,f6,Kt,bh,Ke,ak,br]
   simp only [T4] at hloop
   rw [hloop]
   simp only [ae,ah,aj,aq,ao,aw,Jp,h1.len,Js,be,ht,cS,aZ,aL]
   rfl
  ·have h6:=oB hk
   have hlt:k < g.length:=by rw [h1.len];exact h6
   have hg:=Jo hlt
   have:=((h2 k _ hg).1 h6).2 e hk
   rw [i6 (ws:=g) hg]
   exact this
  ·have:k < 6:=by rw [←h1.len];exact (K5.1 hw).1
   exact ((h2 k w hw).1 this).1
 ·rintro g j ⟨h1,_⟩
  simp [As]
 ·rintro i g hi ⟨h1,h2⟩ hwr
  have hil:i < g.length:=by rw [h1.len];exact hi
  have hgw:=Jo hil
  generalize g[i]=w at hgw
  have hww:ws[i]?=some w:=(h2 i w hgw).2 (Kg _)
  have hrow:(g.map cg)[i]?=some (cg w):=by rw [K9,hgw];rfl
  have hrl:(cg w).length=4:=rfl
  have hin:(0:Int)≤(i:Int)∧(i:Int) < ((6:Nat):Int):=by omega
  have h53:=c53 h1.toGoodW hgw n
  have hrec:=pM h1 hgw (h1.wat i w hgw).2.1
  obtain ⟨x,hl,hx1,hx2,hx3⟩:=l58_0 hi n (g.map cg) (dP o) (x0:=l5 i w) hrec (yV i w hi)
  refine ⟨g.set i x,⟨hx1.mono (by omega),fun k v hv=>?_⟩,fun j=>?_⟩
  ·rcases jm hv with ⟨rfl,rfl,_⟩ | ⟨hne,hv⟩
   ·refine ⟨fun _=>⟨hx2,fun e he=>?_⟩,fun h=>by omega⟩
    obtain ⟨s1,s2⟩:=hx3 e he
    rw [i6 hww]
    exact ⟨(GI h1.toGoodW hgw he).1.trans s1,s2⟩
   ·exact ⟨fun h=>(h2 k v hv).1 (by omega),fun h=>(h2 k v hv).2 (by omega)⟩
  ·have hset:(g.map cg).set i [il x.1,dB x.2.1,dS x.2.2.1,il x.2.2.2]=(g.set i x).map cg:=by rw [Tg];rfl
   simp only [bn]
   simp only [As,ah,aj,aq,av,ao,aw,ak,aU,show (i:Int) < 6 by omega,Jr,ag,Js,aO,Jp,h1.len,b6,bS,hin,Kt,K4,cU,hrow,hrl,lX,lW,mR,mQ,aC,h53,aW,ae,bP,T3,Mk,Jt,Jl,Ju,br,hl,bf,b7,hwr,nn,hset]
end
section
set_option maxRecDepth 100000
abbrev wd:=Int×Int
def uU (x:wd):List D:=[il x.1,il x.2]
abbrev dI (o:Option (List wd)):D:=dL 2 uU o
def allW:List wd:=(List.range 6).flatMap fun k=>(bk k).map fun e=>((k:Int),e.1)
theorem qG {x:wd} (h:x∈allW):∃ k e,e∈bk k∧x=((k:Int),e.1):=by
 obtain ⟨k,_,h⟩:=List.mem_flatMap.1 h
 obtain ⟨e,he,rfl⟩:=Kw.1 h
 exact ⟨k,e,he,rfl⟩
theorem yA:allW.Nodup:=by decide
theorem E4:∀ k,k < 6→allW.countP (fun x=>decide (x.1=((k:Nat):Int)))≤4:=by decide
def ft (ws:List W4) (x:wd):Bool:=(bk x.1.toNat).any fun e=>decide (e.1=x.2)&&!(bQ x.1.toNat e.2 (ff ws e x.1.toNat)).isEmpty
theorem nE {ws:List W4} {k:Nat} {e:aJ} (he:e∈bk k):ft ws ((k:Int),e.1)=!(bQ k e.2 (ff ws e k)).isEmpty:=by
 unfold ft
 simp only [K4]
 cases h:(bQ k e.2 (ff ws e k)).isEmpty with
 | true =>
  rw [List.any_eq_false.2]
  ·rfl
  ·intro e' he' hx
   simp only [Jn,Jq] at hx
   have:=lR (oB he) he' he hx.1
   subst this
   rw [h] at hx
   cases hx.2
 | false=>exact List.any_eq_true.2 ⟨e,he,by simp [h]⟩
theorem Gw {n:Nat} (x:wd):(RP n).cell (uU x) 0=il x.1:=rfl
theorem Gv {n:Nat} (x:wd):(RP n).cell (uU x) 1=il x.2:=rfl
theorem s59_0 (n:Nat) {N:Int} {ws:List W4} {ps:List P3} (hX:GoodX N ws ps) (hN:N+200≤99999) (O:D) (o:Option (List wd)) (hl:(o.getD []).Sublist allW) (hodd:∀ k e,e∈bk k→((k:Int),e.1)∈o.getD []→fe (ff ws e k).wants=true) (hopn:∀ k e,e∈bk k→(ff ws e k).opn=false) (hlen:∀ (k:Nat) w,ws[k]?=some w→(aG w).length≤84) :
  ∃ g,bm [sM (RP (n+6))] M0 0 [.d (dI o),.n 0,.d (il 0),.r (ws.map cg),.r [],.n 6,.n 6,.d O]=some (0,[.n ((o.getD []).filter (ft ws)).length,.r (g.map cg),.r (((o.getD []).filter (ft ws)).map uU),.n 6,.n 6,.d O]) ∧
   GoodX (N+100) g ps∧(∀ k e,e∈bk k→((((k:Int),e.1)∈o.getD []∧qC k e (ff ws e k))→ff g e k=yy (ff ws e k))∧(¬ (((k:Int),e.1)∈o.getD []∧qC k e (ff ws e k))→ff g e k=ff ws e k))∧∀ (k:Nat) w,g[k]?=some w→(aG w).length≤96:=by
 generalize hol:o.getD []=l at hl hodd ⊢
 have hnd:=hl.nodup yA
 have hl18:l.length≤18:=T6 hl.length_le (by decide)
 have hinv:=iW (β:=List W4) l.length (by omega) (sM (RP (n+6))) (fun i g=>[.d (dI o),.n ((l.take i).filter (ft ws)).length,.d (il i),.r (g.map cg),.r (((l.take i).filter (ft ws)).map uU),.n 6,.n 6,.d O])
  (fun i g=>GoodX (N+2*i) g ps∧(∀ k e,e∈bk k→((((k:Int),e.1)∈l.take i∧qC k e (ff ws e k))→ff g e k=yy (ff ws e k))∧(¬ (((k:Int),e.1)∈l.take i∧qC k e (ff ws e k))→ff g e k=ff ws e k))∧∀ (k:Nat) w,g[k]?=some w→(aG w).length+3*(l.drop i).countP (fun x=>decide (x.1=(k:Int)))≤96)
  (fun g=>some (0,[.n (l.filter (ft ws)).length,.r (g.map cg),.r ((l.filter (ft ws)).map uU),.n 6,.n 6,.d O])) ?_ ?_ ws ⟨by simpa using hX,fun k e he=>⟨fun h=>by simp at h,fun _=>rfl⟩,fun k w hw=>?_⟩
 ·obtain ⟨g,⟨h1,h2,h3⟩,hloop⟩:=hinv
  rw [Mb] at h2
  exact ⟨g,hloop,h1.mono (by omega),h2,fun k w hw=>by have:=h3 k w hw;omega⟩
 ·rintro g j _
  simp only [sM,ah,aj,aq,av,ao,aw,cX,hol,aU,Int.lt_irrefl,Jt,ag,Jl,Ju,aL,Mb]
 ·rintro i g hi ⟨h1,h2,h3⟩ hwr
  have hxi:l[i]?=some l[i]:=Jo hi
  have hxm:l[i]∈l:=List.getElem_mem hi
  have htk:l.take (i+1)=l.take i++[l[i]]:=by rw [List.take_add_one,hxi];rfl
  have hdr:l.drop i=l[i]::l.drop (i+1):=T2 hi
  have hnot:l[i]∉l.take i:=fun h=>by
   have:=Mm i l
   rw [←this,hdr] at hnd
   exact (Tm.1 hnd).2.2 _ h _ Mj rfl
  generalize l[i]=x at hxi hxm htk hdr hnot
  obtain ⟨k,e,he,rfl⟩:=qG (hl.mem hxm)
  have hk:=oB he
  have hkl:k < g.length:=by rw [h1.len];exact hk
  have hw:=Jo hkl
  generalize g[k]=w at hw
  have hfe:rf k e (aG w)=ff ws e k:=by rw [←i6 hw];exact (h2 k e he).2 fun h=>hnot h.1
  have hof:=hopn k e he
  have hdf:=hodd k e he hxm
  have hnb:=((h1.full e).nb k he).1
  rw [(h2 k e he).2 fun h=>hnot h.1] at hnb
  have hlw:=h3 k w hw
  rw [hdr,List.countP_cons_of_pos (by simp)] at hlw
  have hrow:(o.getD [])[i]?=some ((k:Int),e.1):=by rw [hol];exact hxi
  have hrw:(g.map cg)[k]?=some (cg w):=by rw [K9,hw];rfl
  have hrl:(cg w).length=4:=rfl
  have hin:(0:Int)≤(k:Int)∧(k:Int) < ((6:Nat):Int):=by omega
  have hlt:(i:Int) < (l.length:Int):=by omega
  have hr2:(uU ((k:Int),e.1)).length=2:=rfl
  by_cases hm:bQ k e.2 (ff ws e k)=[]
  ·
   have hla:ft ws ((k:Int),e.1)=false:=by rw [nE he,hm];rfl
   have h21:=c21 h1.toGoodW hw he n (by rw [hfe];exact hof) (by rw [hfe];exact hm) (by rw [hfe];exact hdf) (by rw [hfe];omega) (by omega)
   obtain ⟨_,jj,hxx,hj⟩:=fF (h1.wat k w hw).2.2 he
   have hq:ringX k ((bk k).getD jj (0,0)).2 e.1 (fl k (bk k) (aG w) jj)=(0,pK e (rf k e (aG w)).wants):=by
    unfold ringX
    rw [i3,hj,hfe,Kc (by rw [hof];simp),K1 (by rw [hm];rfl),Kc (by omega),K1 hdf]
   have hg1:=rE h1 hw hxx (by rw [hq]) (by rw [hq];show _+2≤120;omega)
   rw [hq] at hg1
   have e1:=eRing h1.toGoodW hw he (by rw [hfe];exact hof) (by rw [hfe];exact hm)
   have l1:=sX w (pK e (rf k e (aG w)).wants)
   have eo1:∀ e'∈bk k,e'≠e→rf k e' (aG (wL w (pK e (rf k e (aG w)).wants)))=rf k e' (aG w):=fun e' he' hne=>u8 h1.toGoodW hw (fld:=e.1) (by simp) he' fun h=>hne (lR hk he' he h)
   generalize wL w (pK e (rf k e (aG w)).wants)=w1 at h21 hg1 e1 l1 eo1
   have hw1:=ma hkl w1
   have ho1:(rf k e (aG w1)).opn=true:=by rw [e1]
   have l1':(aG w1).length=(aG w).length+2:=l1
   have h23:=c23 hg1.toGoodW hw1 he n ho1 (by omega)
   have hq2:shutX e.1 (fl k (bk k) (aG w1) jj)=(0,fB e):=by unfold shutX;rw [i3,hj,K1 ho1]
   have hg2:=ne hg1 hw1 hxx (by rw [hq2]) (by rw [hq2];show _+1≤120;omega)
   rw [hq2,Te] at hg2
   have e2:=GH hg1.toGoodW hw1 he ho1
   have eo2:∀ e'∈bk k,e'≠e→rf k e' (aG (wL w1 (fB e)))=rf k e' (aG w1):=fun e' he' hne=>u8 hg1.toGoodW hw1 (fld:=e.1) (by simp) he' fun h=>hne (lR hk he' he h)
   have l2:=sX w1 (fB e)
   have l2':(aG (wL w1 (fB e))).length=(aG w1).length+1:=l2
   refine ⟨g.set k (wL w1 (fB e)),⟨hg2.mono (by omega),fun k' e' he'=>?_,fun k' v hv=>?_⟩,fun j=>?_⟩
   ·by_cases hkk:k'=k
    ·subst hkk
     rw [i6 (ma hkl _),htk]
     by_cases hee:e'=e
     ·subst hee
      have:rf k' e' (aG (wL w1 (fB e')))=yy (ff ws e' k'):=by
       rw [e2,e1,hfe]
       show (⟨_,_,_,_,false⟩:Fld)=⟨_,_,_,_,(ff ws e' k').opn⟩
       rw [hof]
       rfl
      exact ⟨fun _=>this,fun h=>absurd ⟨by simp,hdf,hm⟩ h⟩
     ·have hne:((k':Int),e'.1)≠((k':Int),e.1):=fun h=>hee (lR hk he' he (Prod.mk.inj h).2)
      rw [eo2 e' he' hee,eo1 e' he' hee,← i6 hw]
      have:=h2 k' e' he'
      simp only [Kf,Kl,hne,T1]
      exact this
    ·have hne:((k':Int),e'.1)≠((k:Int),e.1):=fun h=>hkk (by have:=(Prod.mk.inj h).1;omega)
     have hff:ff (g.set k (wL w1 (fB e))) e' k'=ff g e' k':=by simp [ff,Ne.symm hkk]
     rw [hff,htk]
     simp only [Kf,Kl,hne,T1]
     exact h2 k' e' he'
   ·rcases jm hv with ⟨rfl,rfl,_⟩ | ⟨hne,hv⟩
    ·omega
    ·have:=h3 k' v hv
     rw [hdr,List.countP_cons] at this
     omega
   ·have hset:(g.map cg).set k [il (wL w1 (fB e)).1,dB (wL w1 (fB e)).2.1,dS (wL w1 (fB e)).2.2.1,il (wL w1 (fB e)).2.2.2]=(g.set k (wL w1 (fB e))).map cg:=by rw [Tg];rfl
    generalize wL w1 (fB e)=w2 at h23 hset
    simp only [bn,htk,V2,Mo,hla,Jl,Ju,List.filter_nil,Kh]
    simp only [sM,ah,aj,aq,av,ao,aw,cX,hol,aU,hlt,Jr,ag,Js,r9 hrow hr2,Gw,Gv,aO,Jp,h1.len,b6,bS,hin,Kt,K4,cU,hrw,hrl,lX,lW,mR,mQ,aC,h21,aW,ae,ak,bo,Int.reduceEq,Jt,Jl,Ju,bP,T3,Mk,h23,b7,hwr,nn,hset]
  ·have hla:ft ws ((k:Int),e.1)=true:=by
    rw [nE he]
    cases h:(bQ k e.2 (ff ws e k)) with
    | nil=>exact absurd h hm
    | cons a b=>rfl
   have h21:=c21m h1.toGoodW hw he n (by rw [hfe];exact hof) (by rw [hfe];exact hm)
   refine ⟨g,⟨h1.mono (by omega),fun k' e' he'=>?_,fun k' v hv=>?_⟩,fun j=>?_⟩
   ·rw [htk]
    have:=h2 k' e' he'
    by_cases hx:((k':Int),e'.1)=((k:Int),e.1)
    ·have hkk:k'=k:=by have:=(Prod.mk.inj hx).1;omega
     subst hkk
     have:=lR hk he' he (Prod.mk.inj hx).2
     subst this
     exact ⟨fun h=>absurd h.2.2 hm,fun _=>this.2 fun h=>hnot h.1⟩
    ·simp only [Kf,Kl,hx,T1]
     exact this
   ·have:=h3 k' v hv
    rw [hdr,List.countP_cons] at this
    omega
   ·have hfit:(((l.take i).filter (ft ws)).length+1)*16≤140737488355328∧((l.take i).filter (ft ws)).length+1≤9223372036854775807:=by
     have h1:=Td (ft ws) (l.take i)
     have h2:=List.length_take_le i l
     omega
    simp only [bn,htk,V2,Mo,hla,Js,List.filter_nil]
    simp only [sM,ah,aj,aq,av,ao,aw,cX,hol,aU,hlt,Jr,ag,Js,r9 hrow hr2,Gw,Gv,aO,Jp,h1.len,b6,bS,hin,Kt,K4,cU,hrw,hrl,lX,lW,mR,mQ,aC,h21,gB,ae,ak,bo,aD,aR,Jx,Jy,Jv,be,List.take,aN,bp,hfit,bh,b7,hwr,K0,M6,Jz,Ky]
    rfl
 ·have h0:=hlen k w hw
  have hk:k < 6:=by rw [←hX.len];exact (K5.1 hw).1
  have:=T6 (hl.countP_le (p:=fun x=>decide (x.1=(k:Int)))) (E4 k hk)
  rw [Ts]
  omega
end
section
set_option maxRecDepth 100000
theorem I9 {ws:List W4} {ps:List P3} (hG:GoodW ws ps) {k:Nat} {w:W4} (hw:ws[k]?=some w) {e:aJ} (he:e∈bk k) (ho:(rf k e (aG w)).opn=false):Iq k e (rf k e (aG w)) (rf k e (aG (wL w (serveX k (bk k) (aG w))))):=by
 have a3:=(hG.wat k w hw).2.2
 rw [vH hG hw he]
 have hX:ay k e (rf k e (aG w)) (serveX k (bk k) (aG w))=ay k e (rf k e (aG w)) (ep k e (rf k e (aG w))):=by
  unfold serveX
  rw [fb (key:=fun e:aJ=>e.1) (fun x s hs=>(gM s hs).1) (mf (bw a3)) he rfl]
  rfl
 rw [hX]
 generalize rf k e (aG w)=f at ho ⊢
 have ht:=jJ (me:=k) (e:=e) (f:={ f with no:=fun o=>f.no o+1 }) ((List.range 6).filter (bH k e.2 f)) f (List.nodup_range.filter _) (fun o hm=>by
  obtain ⟨h1,h2⟩:=Kj.1 hm
  simp only [bH,Jn,M1,M7] at h2
  exact ⟨Mg.1 h1,jk (Mg.1 h1) h2.2.1,h2.1,by simp only;omega⟩) ho
 have hs:ep k e f=((List.range 6).filter (bH k e.2 f)).map (iN e.1 { f with no:=fun o=>f.no o+1 }):=by
  unfold ep
  rw [Kc (by rw [ho];simp)]
  rfl
 rw [hs,ht]
 refine ⟨rfl,rfl,rfl,fun o heo _=>⟨fun h=>?_,fun h=>?_⟩⟩
 ·have hm:o∈(List.range 6).filter (bH k e.2 f):=Kj.2 ⟨Mg.2 (oB heo),h⟩
  simp only [K1 hm]
 ·have hm:o∉(List.range 6).filter (bH k e.2 f):=fun hm=>by rw [(Kj.1 hm).2] at h;cases h
  refine ⟨by simp only [Kc hm],?_⟩
  simp only [aT,K4,Kc hm]
theorem s59_1 (n:Nat) {N:Int} {ws:List W4} {ps:List P3} (hX:GoodX N ws ps) (c:Nat) (R:Rr) (O:D) (hopn:∀ k e,e∈bk k→(ff ws e k).opn=false) (hlen:∀ (k:Nat) w,ws[k]?=some w→(aG w).length≤96) :
  ∃ g,bm [wk (RP (n+6))] M0 0 [.n c,.d (il 0),.r (ws.map cg),.r R,.n 6,.n 6,.d O]=some (1,[.n c,.r (g.map cg),.r R,.n 6,.n 6,.d O]) ∧
   GoodX (N+20) g ps∧(∀ e,PhC e (ff ws e) (ff g e))∧∀ (k:Nat) w,g[k]?=some w→(aG w).length≤80∧bnd w=aG w:=by
 have hinv:=iW (β:=List W4) 6 (by omega) (wk (RP (n+6))) (fun i g=>[.n c,.d (il i),.r (g.map cg),.r R,.n 6,.n 6,.d O])
  (fun i g=>GoodX (N+2*i) g ps∧∀ (k:Nat) w,g[k]?=some w→(k < i→((aG w).length≤80∧bnd w=aG w)∧∀ e∈bk k,Iq k e (ff ws e k) (rf k e (aG w)))∧(i≤k→ws[k]?=some w))
  (fun g=>some (1,[.n c,.r (g.map cg),.r R,.n 6,.n 6,.d O])) ?_ ?_ ws ⟨by simpa using hX,fun k w hw=>⟨fun h=>by omega,fun _=>hw⟩⟩
 ·obtain ⟨g,⟨h1,h2⟩,hloop⟩:=hinv
  refine ⟨g,hloop,h1.mono (by omega),fun e k hk=>?_,fun k w hw=>?_⟩
  ·have h6:=oB hk
   have hlt:k < g.length:=by rw [h1.len];exact h6
   have hg:=Jo hlt
   have:=((h2 k _ hg).1 h6).2 e hk
   rw [i6 (ws:=g) hg]
   exact this
  ·have:k < 6:=by rw [←h1.len];exact (K5.1 hw).1
   exact ((h2 k w hw).1 this).1
 ·rintro g j _
  simp [wk]
 ·rintro i g hi ⟨h1,h2⟩ hwr
  have hil:i < g.length:=by rw [h1.len];exact hi
  have hgw:=Jo hil
  generalize g[i]=w at hgw
  have hww:ws[i]?=some w:=(h2 i w hgw).2 (Kg _)
  have hrow:(g.map cg)[i]?=some (cg w):=by rw [K9,hgw];rfl
  have hrl:(cg w).length=4:=rfl
  have hin:(0:Int)≤(i:Int)∧(i:Int) < ((6:Nat):Int):=by omega
  have hsl:=xn (h1.wat i w hgw).2.2
  have hl9:=hlen i w hww
  have h25:=c25 h1.toGoodW hgw n (by omega)
  have hg1:=pF h1 hgw (by omega)
  have es:=fun e he=>I9 h1.toGoodW hgw (e:=e) he (by rw [←i6 hww];exact hopn i e he)
  generalize wL w (serveX i (bk i) (aG w))=w1 at h25 hg1 es
  have hw1:=ma hil w1
  have h53:=c53 hg1.toGoodW hw1 n
  have hg2:=pM hg1 hw1 (hg1.wat i w1 hw1).2.1
  change GoodX _ ((g.set i w1).set i (l5 i w1)) ps at hg2
  rw [Te] at hg2
  refine ⟨g.set i (l5 i w1),⟨hg2.mono (by omega),fun k v hv=>?_⟩,fun j=>?_⟩
  ·rcases jm hv with ⟨rfl,rfl,_⟩ | ⟨hne,hv⟩
   ·refine ⟨fun _=>⟨⟨yV k w1 hi,?_⟩,fun e he=>?_⟩,fun h=>by omega⟩
    ·unfold bnd
     rw [t7]
     simp [l5]
    ·rw [i6 hww]
     obtain ⟨s1,s2,s4,s3⟩:=es e he
     obtain ⟨⟨t1,t2,t3,t4⟩,t5⟩:=GI hg1.toGoodW hw1 he
     refine ⟨t3.trans s1,t2.trans s2,t5.trans s4,fun o heo hok=>?_⟩
     rw [t1,t4]
     exact s3 o heo hok
   ·exact ⟨fun h=>(h2 k v hv).1 (by omega),fun h=>(h2 k v hv).2 (by omega)⟩
  ·have hset:(g.map cg).set i [il (l5 i w1).1,dB (l5 i w1).2.1,dS (l5 i w1).2.2.1,il (l5 i w1).2.2.2]=(g.set i (l5 i w1)).map cg:=by rw [Tg];rfl
   generalize l5 i w1=w2 at h53 hset
   simp only [bn]
   simp only [wk,ah,aj,aq,av,ao,aw,ak,aU,show (i:Int) < 6 by omega,Jr,ag,Js,aO,Jp,h1.len,b6,bS,hin,Kt,K4,cU,hrow,hrl,lX,lW,mR,mQ,aC,h25,h53,aW,ae,bP,T3,Mk,Jt,Jl,Ju,b7,hwr,nn,hset]
theorem s59 (n:Nat) {N:Int} {ws:List W4} {o:Option (List P3)} (hX:GoodX N ws (o.getD [])) (hN:N+200≤99999) (oi:Option (List wd)) (hl:(oi.getD []).Sublist allW) (hodd:∀ k e,e∈bk k→(((k:Int),e.1)∈oi.getD []↔fe (ff ws e k).wants=true)) (hopn:∀ k e,e∈bk k→(ff ws e k).opn=false) (hlen:∀ (k:Nat) w,ws[k]?=some w→(aG w).length≤84) :
  ∃ (ws':List W4) (f:aJ→uo),FN (n+7) 59 [dW (some ws),dP o,dI oi]=some (0,[.d (dW (some ws')),.d (dP o),.d (dI (lV ((oi.getD []).filter (ft ws)))),.d (bl true)])∧GoodX (N+200) ws' (o.getD [])∧(∀ e,PhB e (ff ws e) (f e)∧PhC e (f e) (ff ws' e)∧∀ k,e∈bk k→(ff ws' e k).wants=(f e k).wants∧(ff ws' e k).opn=false)∧∀ (k:Nat) w,ws'[k]?=some w→(aG w).length≤80∧bnd w=aG w:=by
 obtain ⟨g,hl1,hg1,hf1,hlen1⟩:=s59_0 n hX hN (dP o) oi hl (fun k e he h=>(hodd k e he).1 h) hopn hlen
 have hopn1:∀ k e,e∈bk k→(ff g e k).opn=false:=fun k e he=>by
  obtain ⟨h1,h2⟩:=hf1 k e he
  by_cases h:((k:Int),e.1)∈oi.getD []∧qC k e (ff ws e k)
  ·rw [h1 h];exact hopn k e he
  ·rw [h2 h];exact hopn k e he
 obtain ⟨g2,hl2,hg2,hf2,hlen2⟩:=s59_1 n hg1 ((oi.getD []).filter (ft ws)).length (((oi.getD []).filter (ft ws)).map uU) (dP o) hopn1 hlen1
 refine ⟨g2,fun e=>ff g e,?_,hg2.mono (by omega),fun e=>⟨fun k hk=>⟨fun h=>(hf1 k e hk).1 ⟨(hodd k e hk).2 h.1,h⟩,fun h=>(hf1 k e hk).2 fun h'=>h h'.2⟩,hf2 e,fun k hk=>⟨(hf2 e k hk).1,(hf2 e k hk).2.2.1.trans (hopn1 k e hk)⟩⟩,hlen2⟩
 have f6:6*64≤140737488355328∧6≤9223372036854775807:=by omega
 have ht:(g2.map cg).take 6=g2.map cg:=Kd (by rw [Jp,hg2.len];omega)
 rw [FS,IH]
 simp only [G59,dW,iO,M4,aD,aR,aO,Jy,b6,Js,Jp,hX.len,aN,Jv,bp,f6,Kt,bh,Ke,ak,br]
 rw [hl1]
 simp only [ae,ah,aj,aq,av,ao,aw]
 rw [hl2]
 simp only [bf,ah,aj,aq,av,ao,aw,Jp,hg2.len,Js,be,ht,cS,uQ,aZ,aL]
 rfl
end
end Go.VE
