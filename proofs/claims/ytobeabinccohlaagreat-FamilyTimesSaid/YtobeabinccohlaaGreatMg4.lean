/- Family: Leads, Families, Gleans, For (program). -/
import Derived.Test.YtobeabinccohlaaGreatMg3
import Derived.Test.YtobeabinccohlaaGreatMi
import Derived.Test.YtobeabinccohlaaGreatMt
import Derived.KernelRfl
set_option maxRecDepth 20000
namespace Go.VE
open Go.RowKit Go.Proofs
section
attribute [local simp] cd ca
theorem kj {a b c:List E9} {o:List E5} (h:aA a b c o=true):(∀ e∈a,dE e)∧(∀ e∈b,dF e)∧(∀ e∈c,dG e)∧(∀ e∈o,fp e):=by
 unfold aA at h
 simp only [Te] at h
 obtain ⟨⟨⟨⟨_,h1⟩,h2⟩,h3⟩,h4⟩:=h
 exact ⟨fun e he=>Vw (mT h1 e he),fun e he=>Vw (mT h2 e he),fun e he=>Vw (mT h3 e he),fun e he=>Vw (mT h4 e he)⟩
theorem gT {k:Int} {l:List E9} {e:E9} (h:e∈au k l):e∈l:=(Xc.1 h).1
structure GoodK (a b c:List E9) (o:List E5):Prop where
 fam:my a
 less:dh b
 by0:Fx c
 la:a.length≤60
 lb:b.length≤60
 lc:c.length≤60
 lo:o.length≤60
theorem eC {a b c:List E9} {o:List E5} (h:aA a b c o=true):GoodK a b c o:=by
 obtain ⟨p1,p2,p3,_⟩:=kj h
 obtain ⟨l1,l2,l3,l4⟩:=iY h
 exact ⟨fun e he=>(p1 e he).2.2.1,fun e he=>⟨(p2 e he).2.2.1.1,by have:=(p2 e he).2.2.1.2;omega,(p2 e he).2.1.2⟩,fun e he=>(p3 e he).2.2.1.1,l1,l2,l3,l4⟩
theorem ey (k:Int) (l:List E9):(au k l).length≤l.length:=We _ _
theorem E8 (k:Int) (l:List E5):(dj k l).length≤l.length:=We _ _
theorem GoodK.cnt {a b c:List E9} {o:List E5} (h:GoodK a b c o) (k:Int):GoodK (au k a) (au k b) (au k c) (dj k o) :=
 ⟨fun e he=>h.fam e (gT he),fun e he=>h.less e (gT he),fun e he=>h.by0 e (gT he),Vn (ey ..) h.la,Vn (ey ..) h.lb,Vn (ey ..) h.lc,Vn (E8 ..) h.lo⟩
theorem s199 (n:Nat) (o:Option (List Int)) (x:Int) (hl:(o.getD []).length≤4611686018427387904):FN (n+1) 199 [dI o,il x]=some (0,[.d (il (fS (fun y=>decide (x=y)) (o.getD [])))]):=by
 rw [FS,HK]
 simp only [G199,cA,ae,aD]
 have:=be (β:=Unit) (o.getD []) hl (ut (RP n)) (fun i _=>[.d (dI o),.d (il x),.d (il (o.getD []).length),.d (il i)]) (fun _ _=>True)
  (fun i r _=>match gC (fun y=>decide (x=y)) r with
   | some j=>some (0,[.d (il ((i+j:Nat):Int))])
   | none=>some (1,[]))
  (fun _ k _=>by simp [ut,gC]) ?_ M0 () trivial (cj hl)
 ·simp only [V9,Tz] at this
  rw [this]
  unfold fS
  cases gC (fun y=>decide (x=y)) (o.getD [])<;>simp
 ·intro i e r _ k hi hd hlt hw _ ih
  have ih':=ih () trivial
  have hlt':(i:Int) < ((o.getD []).length:Int):=by omega
  simp only [ut,ac,ag,aC,aa,hlt',T8,T6,cQ hi,rI,ak,aV,ae,ay,hw,ao,T4]
  by_cases h:x=e
  ·subst h;simp [gC]
  ·rw [T5 h]
   have h':gC (fun y=>decide (x=y)) (e::r)=(gC (fun y=>decide (x=y)) r).map (·+1):=by simp [gC,h]
   rw [h']
   refine Eq.trans ih' ?_
   cases gC (fun y=>decide (x=y)) r with
   | none=>rfl
   | some j=>simp [Ww,Nat.add_comm 1 j]
theorem C4 (n:Nat) (o:Option (List Int)) (x:Int) (hl:(o.getD []).length≤4611686018427387904):FN (n+2) 149 [dI o,il x]=some (0,[.d (bl (decide (x∈o.getD [])))]):=by
 rw [FS,Il]
 simp only [G149,ah,s199 n o x hl,ab,ac,ae,bQ,ao,li]
 have:((o.getD []).any fun y=>decide (x=y))=decide (x∈o.getD []):=by
  rw [X2,cN,Wv]
  constructor
  ·rintro ⟨y,hy,h⟩;have:=Vw h;subst this;exact hy
  ·intro h;exact ⟨x,h,by simp⟩
 rw [this]
def dn (k:Int) (a b c:Option (List E9)) (o:Option (List E5)) (d p:Int):List Int:=bC (au k (a.getD [])) (au k (b.getD [])) (au k (c.getD [])) (dj k (o.getD [])) d p
section
variable {a b c:Option (List E9)} {o:Option (List E5)}
theorem k82 (n:Nat) (d who:Int) (hd:0≤d∧d≤4166) (g:GoodK a b c o) :
  FN (n+105) 82 [d9 a,d9 b,d9 c,d5 o,il who,il d]=some (0,[.d (dI (some (bC a b c o d who)))]) :=
 s82 n a b c o d who hd g.fam g.less (by have:=g.la;omega) (by have:=g.lb;omega) (by have:=g.lc;omega) (by have:=g.lo;omega)
theorem Aw (d p:Int) (g:GoodK a b c o):(bC a b c o d p).length≤100 :=
 eA (dK ..) fun _ hz=>dB g.fam g.less hz
theorem k86 (n:Nat) (d who f:Int) (hd:0≤d∧d≤4166) (g:GoodK a b c o) :
  FN (n+106) 86 [d9 a,d9 b,d9 c,d5 o,il who,il f,il d]=some (0,[.d (il (d0 (bC a b c o d who) f))]):=by
 rw [FS,Nu]
 have hlen:=Aw d who g
 obtain ⟨x,r,hx,_⟩:=tr (dK a b c o d who) (fun z hz=>(dB g.fam g.less hz).1) (mn g.fam g.less)
 simp only [G86,ah,k82 n d who hd g,ab,ac]
 rw [←forP _ f x r hx]
 have h149:=C4 (n+103) (some (bC a b c o d who)) f (by simp only [T7];omega)
 have hrow:∀ q:List D→aq,(RP (n+105)).rowD 1 (dI (some (bC a b c o d who))) (il 0) q=q (rI x):=fun q=>cQ (i:=0) (by rw [hx];rfl) q
 simp only [T7] at h149
 simp only [h149,ab,ac,cA,T7,ae,ck,aa,aK,s84,ao,T4,hrow,rI,ak,aL]
 generalize bC a b c o d who=l at hx ⊢
 by_cases h:1 < l.length
 ·rw [T1 (by omega)];simp [h]
 ·rw [T5 (by omega)];simp [h]
end
theorem f8 {a b c:Option (List E9)} {o:Option (List E5)} {ps fs:Bool} {p f:Int} {ds:List Int} (k:Int) (h:aQ (aA a b c o) ps fs p f ds=0):GoodK ((bo k a).getD []) ((bo k b).getD []) ((bo k c).getD []) ((f7 k o).getD []):=by
 rw [aw,aw,aw,cB]
 exact (eC (bU h)).cnt k
section
variable (n:Nat) (p f d k:Int) (a b c:Option (List E9)) (o:Option (List E5)) (ha:(a.getD []).length*72≤140737488351232) (hb:(b.getD []).length*72≤140737488351232) (hc:(c.getD []).length*72≤140737488351232) (ho:(o.getD []).length*40≤140737488351232)
include ha hb hc ho
theorem ja (ps fs:Bool):FN (n+10) 73 [il p,il f,bl ps,bl fs,d9 a,d9 b,d9 c,d5 o,.sl 1 [[il d],[il k]]]=df (aQ (aA a b c o) ps fs p f [d,k]) (an (bo k a) (bo k b) (bo k c) (f7 k o)):=by
 have h73:=s73 n p f ps fs a b c o [d] k (by simp) ha hb hc ho
 rw [show dI (some ([d]++[k]))=.sl 1 [[il d],[il k]] from rfl] at h73
 exact h73
theorem s14:FN (n+105) 14 [d9 a,d9 b,d9 c,d5 o,il f,il d,il k]=if aQ (aA a b c o) false true 0 f [d,k]=0 then some (0,[.d (dI (some (aj d (au k (b.getD [])) f))),.d (il 0)]) else some (0,[.d (dI none),.d (il (aQ (aA a b c o) false true 0 f [d,k]))]):=by
 rw [FS,Ot]
 simp only [G14,ah,s79,ab,ac,ag,aM,bL,ja (n+94) 0 f d k a b c o ha hb hc ho false true]
 by_cases he:aQ (aA a b c o) false true 0 f [d,k]=0
 ·have g:=f8 k he
  have hf:1≤f∧f≤99:=by
   unfold aQ at he
   split at he
   ·simp at he
   ·split at he
    ·simp at he
    ·split at he
     ·simp at he
     ·rename_i h2;simpa using h2
  have hlb:=g.lb
  obtain ⟨q',_,h161⟩:=C2 (bo k a) (bo k b) (bo k c) (f7 k o) d g.less (by omega) 99 n f ([],[]) hf.1 (by omega) hf.2 (kq _ _)
  rw [T1 he]
  simp only [df,he,T6,ab,ac,ag,ae,aL,X5,Tx,Tk,aa,T0,T9,sj,ca,h161,cd,ao]
  rw [aw]
 ·rw [T5 he]
  simp only [df,T5 he,ab,ac,ag,ae,aL,aa]
  rw [T1 (by simpa using he)]
  simp [dI,dR]
theorem s16:FN (n+106) 16 [d9 a,d9 b,d9 c,d5 o,il p,il d,il k]=if aQ (aA a b c o) true false p 0 [d,k]=0 then some (0,[.d (dI (some (dn k a b c o d p))),.d (il 0)]) else some (0,[.d (dI none),.d (il (aQ (aA a b c o) true false p 0 [d,k]))]):=by
 rw [FS,Oq]
 simp only [G16,ah,s72,ab,ac,ag,aM,bL,ja (n+95) p 0 d k a b c o ha hb hc ho true false]
 by_cases he:aQ (aA a b c o) true false p 0 [d,k]=0
 ·have g:=f8 k he
  rw [T1 he]
  have hp:∀ q:List D→aq,(RP (n+105)).ptrW 4 (an (bo k a) (bo k b) (bo k c) (f7 k o)) q=q [d9 (bo k a),d9 (bo k b),d9 (bo k c),d5 (f7 k o)]:=fun q=>bP _ 4 q rfl
  simp only [df,he,T6,ab,ac,ag,ae,aL,X5,Tx,Tk,aa,T0,T9,hp,ak,ar,k82 n d p (c5 he).1 g,ao]
  rw [aw,aw,aw,cB];rfl
 ·rw [T5 he]
  simp only [df,T5 he,ab,ac,ag,ae,aL,aa]
  rw [T1 (by simpa using he)]
  simp [dI,dR]
theorem s18:FN (n+107) 18 [d9 a,d9 b,d9 c,d5 o,il p,il d,il k]=if aQ (aA a b c o) true false p 0 [d,k]=0 then some (0,[.d (il (dN (au k (a.getD [])) (au k (c.getD [])) (dj k (o.getD [])) d p)),.d (il 0)]) else some (0,[.d (il 0),.d (il (aQ (aA a b c o) true false p 0 [d,k]))]):=by
 rw [FS,Ok]
 simp only [G18,ah,s16 n p d k a b c o ha hb hc ho]
 by_cases he:aQ (aA a b c o) true false p 0 [d,k]=0
 ·have g:=(eC (bU he)).cnt k
  rw [T1 he,T1 he]
  have hr:∀ z∈dn k a b c o d p,0≤z:=fun z hz=>(dB g.fam g.less hz).1
  obtain ⟨x,r,hx,_⟩:=tr (dK _ _ _ _ d p) hr (mn g.fam g.less)
  have hlen:(dn k a b c o d p).length≤100:=eA (dK ..) fun z hz=>dB g.fam g.less hz
  have hpos:0 < (dn k a b c o d p).length:=by rw [show dn k a b c o d p=x::r from hx];simp
  obtain ⟨y,hy⟩:∃ y,(dn k a b c o d p)[(dn k a b c o d p).length - 1]?=some y:=⟨_,Tc (by omega)⟩
  have hgl:=GS g.fam g.less g.by0 hx hy
  have hw:IntKind.i64.wrap (((dn k a b c o d p).length:Int) - 1)=(((dn k a b c o d p).length - 1:Nat):Int):=by rw [aE (by omega) (by omega)];omega
  have h0:∀ q:List D→aq,(RP (n+106)).rowD 1 (dI (some (dn k a b c o d p))) (il 0) q=q (rI x):=fun q=>cQ (i:=0) (by rw [show dn k a b c o d p=x::r from hx];rfl) q
  have h1:∀ q:List D→aq,(RP (n+106)).rowD 1 (dI (some (dn k a b c o d p))) (il (((dn k a b c o d p).length - 1:Nat):Int)) q=q (rI y):=fun q=>cQ (o:=some (dn k a b c o d p)) hy q
  simp only [ab,ac,ag,ae,aL,X5,Tx,Tk,aa,T0,T9,cA,T7,br,hw,h0,h1,rI,ak,aV,s84,ao]
  rw [←hgl]
 ·rw [T5 he,T5 he]
  simp only [ab,ac,ag,ae,aL,aa]
  rw [T1 (by simpa using he)]
  simp
theorem s20:FN (n+107) 20 [d9 a,d9 b,d9 c,d5 o,il p,il f,il d,il k]=if aQ (aA a b c o) true true p f [d,k]=0 then some (0,[.d (il (d0 (dn k a b c o d p) f)),.d (il 0)]) else some (0,[.d (il 0),.d (il (aQ (aA a b c o) true true p f [d,k]))]):=by
 rw [FS,Oj]
 simp only [G20,ah,aK,aM,bL,ja (n+96) p f d k a b c o ha hb hc ho true true]
 by_cases he:aQ (aA a b c o) true true p f [d,k]=0
 ·have g:=f8 k he
  rw [T1 he]
  have hp:∀ q:List D→aq,(RP (n+106)).ptrW 4 (an (bo k a) (bo k b) (bo k c) (f7 k o)) q=q [d9 (bo k a),d9 (bo k b),d9 (bo k c),d5 (f7 k o)]:=fun q=>bP _ 4 q rfl
  simp only [df,he,T6,ab,ac,ag,ae,aL,X5,Tx,Tk,aa,T0,T9,hp,ak,ar,k86 n d p f (c5 he).1 g,ao]
  rw [aw,aw,aw,cB];rfl
 ·rw [T5 he]
  simp only [df,T5 he,ab,ac,ag,ae,aL,aa]
  rw [T1 (by simpa using he)]
  simp
end
end
section
theorem qe {l:List Int} (h:l≠[]):bx l=some l:=by
 cases l with
 | nil=>exact absurd rfl h
 | cons _ _=>rfl
theorem Gq (x:Int) (l:List Int):bx (ins x l)=some (ins x l):=qe (md x l)
theorem l83_0 (n:Nat) (L:List Int) (hL:L.length≤1000000) (x0 x1 x2 x3 x4 x6 x7 x8:D) (acc:List Int) (hu:Up acc) (ha:acc.length≤1000) :
  ax [Bc (RP (n+1))] M0 0 [x0,x1,x2,x3,x4,dI (bx acc),x6,x7,x8,dI (some L),il L.length,il 0]=some (0,[.d x0,.d x1,.d x2,.d x3,.d x4,.d (dI (bx (aW acc L))),.d x6,.d x7,.d x8]):=by
 refine jz L hL _ (fun i acc=>[.d x0,.d x1,.d x2,.d x3,.d x4,.d (dI (bx acc)),.d x6,.d x7,.d x8,.d (dI (some L)),.d (il L.length),.d (il (i:Nat))])
  (fun acc=>some (0,[.d x0,.d x1,.d x2,.d x3,.d x4,.d (dI (bx acc)),.d x6,.d x7,.d x8])) 1000 ?_ ?_ acc hu ha
 ·intro acc k;simp [Bc]
 ·intro i c acc k hi hlt hw hu hl
  have hi':((some L).getD [])[i]?=some c:=hi
  have hput:=Fq n (bx acc) c (by rw [aJ];omega) (by rw [aJ];exact hu)
  rw [aJ] at hput
  simp only [Bc,ac,ag,aC,aa,hlt,T8,T6,cQ hi',rI,ak,ah,hput,ab,ae,ay,hw,Gq]
theorem l83_1 (n:Nat) (a c:D) (b:Option (List E9)) (o:D) (d:Int) (hb:dh (b.getD [])) (hl:(b.getD []).length≤1000000) (H:List Int) (hH:H.length≤1000) (hr:∀ h∈H,0≤h∧h≤99) (acc:List Int) (hu:Up acc) (ha:∀ z∈acc,0≤z∧z≤99) :
  ax [xd (RP (n+2))] M0 0 [il d,a,d9 b,c,o,dI (bx acc),dI (some H),il H.length,il 0]=some (0,[.d (dI (bx (lH (aj d (b.getD [])) H acc)))]):=by
 refine be (β:=List Int) H (by omega) (xd (RP (n+2))) (fun i acc=>[.d (il d),.d a,.d (d9 b),.d c,.d o,.d (dI (bx acc)),.d (dI (some H)),.d (il H.length),.d (il i)]) (fun _ acc=>Up acc∧∀ z∈acc,0≤z∧z≤99)
  (fun _ r acc=>some (0,[.d (dI (bx (lH (aj d (b.getD [])) r acc)))])) (fun acc k _=>by simp [xd,lH]) ?_ M0 acc ⟨hu,ha⟩ (cj (by omega))
 intro i h r acc k hi hd hlt hw hI ih
 obtain ⟨g1,g2⟩:=hI
 have gl:=eA g1 g2
 have hlt':(i:Int) < (H.length:Int):=by omega
 have hi':((some H).getD [])[i]?=some h:=hi
 have hh:=hr h (Vb hi)
 simp only [xd,ac,ag,aC,aa,hlt',T8,T6,cQ hi',rI,ak,aV,ae,ay,hw,T4,lH]
 by_cases h0:h=0
 ·rw [T1 h0,T1 h0]
  exact ih acc ⟨g1,g2⟩
 ·rw [T5 h0,T5 h0]
  have hlen:=gU (d:=d) hb (f:=h) (by omega)
  simp only [ah,s81 n b a c o h d (by omega) hh.2 hb hl,ab,ac,cA,T7,aD]
  rw [l83_0 (n+1) _ (by omega) _ _ _ _ _ _ _ _ acc g1 (by omega)]
  simp only [ab,ac,ag,ay,hw]
  exact ih _ ⟨dz _ g1,fun z hz=>by
   rcases (ch z _ _).1 hz with hz | hz
   ·exact g2 z hz
   ·have:=bK hb _ h z (Tf _) (by omega) hz;omega⟩
theorem s83 (n:Nat) (a b c:Option (List E9)) (o:Option (List E5)) (d who:Int) (hd:0≤d∧d≤4166) (g:GoodK a b c o) :
  FN (n+8) 83 [d9 a,d9 b,d9 c,d5 o,il who,il d]=some (0,[.d (dI (bx (yW a b c o d who)))]):=by
 rw [FS,Nx]
 have hla:=g.la;have hlb:=g.lb;have hlc:=g.lc;have hlo:=g.lo
 have hh:=o7 d who (a.getD [])
 have hloop:=fun acc hu ha=>l83_1 (n+5) (d9 a) (d9 c) b (d5 o) d g.less (by omega) (aY d who (a.getD [])) (by omega) (fun h hh=>cl g.fam hh) acc hu ha
 simp only [G83,ah,s85 n a c o (d9 b) d who hd (by omega) (by omega) (by omega),ab,ac,ae,aL,aa,cc,mV,ao]
 unfold yW
 have h78:=s78 (n+2) a (d9 b) (d9 c) (d5 o) d who (by omega)
 by_cases h1:dN (a.getD []) (c.getD []) (o.getD []) d who=1
 ·rw [T5 (by simp [h1])]
  simp only [ab,ac,ag,aV,aa,h1]
  rw [T5 (by simp),T5 (by simp)]
  simp only [h78,ab,ac,cA,T7,aD]
  have:=hloop [] (by simp) (by simp)
  rw [show dI (bx ([]:List Int))=.lit (.slice none 0 0) from rfl] at this
  rw [this]
  simp
 ·rw [T1 (by simp [h1])]
  simp only [ab,ac,ag,aV,aa,T4]
  by_cases h0:dN (a.getD []) (c.getD []) (o.getD []) d who=0
  ·rw [T1 h0,T1 h0];rfl
  ·rw [T5 h0,T5 h0,T5 h1]
   simp only [h78,ab,ac,cA,T7,aD]
   have:=hloop (ins 0 []) (by simp [ins]) (by simp [ins])
   rw [show dI (bx (ins 0 []))=dI (some [0]) from rfl] at this
   rw [this]
   simp
theorem s87 (n:Nat) (l:Option (List Int)) (f:Int) (hl:(l.getD []).length≤4611686018427387904):FN (n+2) 87 [dI l,il f]=some (0,[.d (il (d0 (l.getD []) f))]):=by
 rw [FS,Nt]
 simp only [G87,ah,s41 n l f hl,ab,ac,aP,aa,ae,ao,cA,ck,d0,T4]
 by_cases h:f∈l.getD []
 ·rw [T5 (by simp [h]),T1 h]
  by_cases h2:1 < (l.getD []).length
  ·rw [T1 (by omega),T1 h2]
  ·rw [T5 (by omega),T5 h2]
 ·rw [T1 (by simp [h]),T5 h]
section
variable (n:Nat) (p f d k:Int) (a b c:Option (List E9)) (o:Option (List E5)) (ha:(a.getD []).length*72≤140737488351232) (hb:(b.getD []).length*72≤140737488351232) (hc:(c.getD []).length*72≤140737488351232) (ho:(o.getD []).length*40≤140737488351232)
theorem H4 {a b c:List E9} {o:List E5} (d p:Int) (g:GoodK a b c o):bx (yW a b c o d p)=some (bC a b c o d p):=by
 rw [←MR a b c o d p g.by0]
 obtain ⟨z,hz⟩:=mn (c:=c) (o:=o) (d:=d) (p:=p) g.fam g.less
 exact qe fun h=>by rw [h] at hz;simp at hz
theorem k83 (n:Nat) {a b c:Option (List E9)} {o:Option (List E5)} (d who:Int) (hd:0≤d∧d≤4166) (g:GoodK a b c o) :
  FN (n+8) 83 [d9 a,d9 b,d9 c,d5 o,il who,il d]=some (0,[.d (dI (some (bC a b c o d who)))]):=by
 rw [s83 n a b c o d who hd g,H4 d who g]
theorem Ei (n:Nat) {a b c:List E9} {o:List E5} (d who:Int) (hd:0≤d∧d≤4166) (g:GoodK a b c o) :
  FN (n+8) 83 [d9 (bx a),d9 (bx b),d9 (bx c),d5 (bx o),il who,il d]=some (0,[.d (dI (some (bC a b c o d who)))]):=by
 have:=k83 n (a:=bx a) (b:=bx b) (c:=bx c) (o:=bx o) d who hd (by rw [aJ,aJ,aJ,aJ];exact g)
 rwa [aJ,aJ,aJ,aJ] at this
include ha hb hc ho
theorem s21:FN (n+9) 21 [d9 a,d9 b,d9 c,d5 o,il p,il f,il d,il k]=if aQ (aA a b c o) true true p f [d,k]=0 then some (0,[.d (il (d0 (dn k a b c o d p) f)),.d (il 0)]) else some (0,[.d (il 0),.d (il (aQ (aA a b c o) true true p f [d,k]))]):=by
 rw [FS,Oi]
 have h76:=s76 (n+2) p f d k a b c o ha hb hc ho
 simp only [G21,ah,h76,ae]
 by_cases he:aQ (aA a b c o) true true p f [d,k]=0
 ·rw [T1 he,T1 he]
  have g:=(eC (bU he)).cnt k
  have hlen:(bC (au k (a.getD [])) (au k (b.getD [])) (au k (c.getD [])) (dj k (o.getD [])) d p).length≤100:=eA (dK ..) fun z hz=>dB g.fam g.less hz
  have h87:=s87 (n+6) (some (bC (au k (a.getD [])) (au k (b.getD [])) (au k (c.getD [])) (dj k (o.getD [])) d p)) f (by simp only [T7];omega)
  simp only [ab,ac,ag,aL,X5,Tx,Tk,aa,T0,T9,Ei n d p (c5 he).1 g,h87,ao]
  rfl
 ·rw [T5 he,T5 he]
  simp only [pf,ab,ac,ag,aL,aa]
  rw [T1 (by simpa using he)]
  simp
end
end
section
def cy (l:List E9):List Int:=aW [] (l.map (·.a))
theorem Dc (l:List E9):Up (cy l):=dz _ (by simp)
theorem sx (l:List E9) (p:Int):p∈cy l↔∃ e∈l,e.a=p:=by
 unfold cy;rw [ch];simp
theorem eb (l:List E9):(cy l).length≤l.length:=by
 have:=lZ (l.map (·.a)) []
 simpa [cy] using this
theorem vN {l:List E9} (h:l≠[]):cy l≠[]:=fx [] (by simpa using h)
theorem Gc (n:Nat) (a:Option (List E9)) (b c o:D) (hl:(a.getD []).length≤1000000):FN (n+5) 111 [d9 a,b,c,o]=match cy (a.getD []) with
  | []=>some (1,[.d (dI none)])
  | y::r=>some (0,[.r ((y::r).map rI)]):=by
 rw [FS,IJ]
 simp only [G111,cS,ae,aD]
 by_cases hne:a.getD []=[]
 ·rw [hne]
  have h0:ax [oD (RP (n+4)),oC (RP (n+4))] M0 0 [d9 a,il (([]:List E9).length:Int),il 0]=some (0,[]) :=
   e9 (σ:=Unit) [oD (RP (n+4)),oC (RP (n+4))] (fun _=>(0,[.d (d9 a),.d (il (([]:List E9).length:Int)),.d (il 0)])) (fun _=>0) (fun _=>True) (fun _=>some (0,[])) (fun s k _ _=>⟨_,rfl,by simp [oD]⟩) M0 () trivial (by unfold M0;omega)
  rw [h0]
  rfl
 ·have hL:((a.getD []).map (·.a)).length=(a.getD []).length:=by simp
  have:=lh ((a.getD []).map (·.a)) (by simpa using hl) (by simpa using hne) (oD (RP (n+4))) (oC (RP (n+4))) (fun i=>[.d (d9 a),.d (il (a.getD []).length),.d (il (i:Nat))])
   (fun i acc=>[.n acc.length,.n acc.length,.d (d9 a),.d (il (a.getD []).length),.d (il (i:Nat)),.r (acc.map rI)]) (fun acc=>some (1,[.n acc.length,.n acc.length,.r (acc.map rI)])) ?_ ?_ ?_
  ·rw [show il 0=il ((0:Nat):Int) from rfl,this]
   rw [show aW [] ((a.getD []).map (·.a))=cy (a.getD []) from rfl]
   have hp:=vN hne
   cases hq:cy (a.getD []) with
   | nil=>exact absurd hq hp
   | cons y r=>simp;exact tA r
  ·intro acc k
   rw [hL]
   simp [oC]
  ·intro x k hi hlt
   rw [hL] at hlt
   obtain ⟨e,he,rfl⟩:∃ e,(a.getD [])[0]?=some e∧e.a=x:=by
    rw [Tm] at hi
    cases h0:(a.getD [])[0]? with
    | none=>rw [h0] at hi;simp at hi
    | some e=>rw [h0] at hi;exact ⟨e,rfl,by simpa using hi⟩
   have h9:=ct (Fn:=FN (n+4)) (FnD:=c6 Tryz.prog (di tb Tryz.prog) (FN (n+4))) (m:=M0) he
   simp only [oD,ac,ag,aC,aa,V9,hlt,T8,T6]
   rw [show ((il 0):D)=il ((0:Nat):Int) from rfl,h9]
   simp only [r9,ak,ar,ah,cc,tS,ab,ac,ag,aa,T0,T9]
   rw [Cc]
   simp only [ae,ay,bj,aM,aI,aU,Tb,Td,Tg,Tq,V9]
   rw [show IntKind.i64.wrap (0+1)=((1:Nat):Int) from rfl]
  ·intro i x acc k hi hlt hw hu hal
   rw [hL] at hlt
   obtain ⟨e,he,rfl⟩:∃ e,(a.getD [])[i]?=some e∧e.a=x:=by
    rw [Tm] at hi
    cases h0:(a.getD [])[i]? with
    | none=>rw [h0] at hi;simp at hi
    | some e=>rw [h0] at hi;exact ⟨e,rfl,by simpa using hi⟩
   have hput:=cG n acc e.a (by omega) hu
   simp only [oC,ac,ag,b8,aZ,aN,b9,aC,aa,hlt,T8,T6,ct he,r9,ak,ar,aI,aR,Tj,bL,ah]
   simp only [hput,ab,ac,bR,ae,ay,hw,Tj]
theorem s90 (n:Nat) (z:Int):FN (n+1) 90 [il z]=some (0,[.d (bl (decide (z=1)))]):=by rw [FS,Nq];simp [G90]
theorem s91 (n:Nat) (z:Int):FN (n+1) 91 [il z]=some (0,[.d (bl (decide (z≠0)))]):=by rw [FS,Np];simp only [G91,ae,aL,ao]
theorem d90 (n:Nat) (z:Int):FD (n+1) (.fn 90 []) [.one] (rI z)=some (0,[.d (bl (decide (z=1)))]) :=
 fj [.one] [.one (il z)] (by decide) rfl (by kernel_rfl) rfl (by kernel_rfl) (s90 n z)
theorem d91 (n:Nat) (z:Int):FD (n+1) (.fn 91 []) [.one] (rI z)=some (0,[.d (bl (decide (z≠0)))]) :=
 fj [.one] [.one (il z)] (by decide) rfl (by kernel_rfl) rfl (by kernel_rfl) (s91 n z)
section
variable {a b c:Option (List E9)} {o:Option (List E5)}
theorem s169 (n:Nat) (d f p:Int) (is:D) (q:Int→Bool) (hq:∀ z,FD (n+106) is [.one] (rI z)=some (0,[.d (bl (q z))])) (hd:0≤d∧d≤4166) (g:GoodK a b c o) :
  FN (n+107) 169 [il p,is,an a b c o,il f,il d]=some (0,[.d (bl (!q (d0 (bC a b c o d p) f)))]):=by
 rw [FS,I7]
 have hp:∀ k:List D→aq,(RP (n+106)).ptrW 4 (an a b c o) k=k [d9 a,d9 b,d9 c,d5 o]:=fun k=>bP _ 4 k rfl
 have hz:∀ z,c6 Tryz.prog (di tb Tryz.prog) (FN (n+106)) is [.one] [il z]=some (0,[.d (bl (q z))]):=hq
 simp only [G169,hp,ak,ar,ah,k86 n d p f hd g,ab,ac,gz,hz,aP,ao]
theorem d169 (n:Nat) (d f p:Int) (is:D) (q:Int→Bool) (hq:∀ z,FD (n+106) is [.one] (rI z)=some (0,[.d (bl (q z))])) (hd:0≤d∧d≤4166) (g:GoodK a b c o) :
  FD (n+107) (.fn 169 [.dp [is] 0,.dp [an a b c o] 0,.dp [il f] 0,.dp [il d] 0]) [.one] (rI p)=some (0,[.d (bl (!q (d0 (bC a b c o d p) f)))]) :=
 fj [.one,.ptr 1,.ptr 1,.ptr 1,.ptr 1] [.one (il p)] (by decide) rfl (by kernel_rfl) rfl (by kernel_rfl) (s169 n d f p is q hq hd g)
end
end
section
theorem qg {l:List Int} {p:Int→Bool}:((bx l).map (List.filter p)).getD []=l.filter p:=by cases l<;>rfl
theorem IS {Fn:Nat→List D→aq} {f:Nat} (sh':List Sh) {vs:List VD} {xs:List D} {z:D} (hlt:f < 1000000) (hash:tb.ash f=some sh') (hx:cK sh' vs=some xs)
  (hr:tb.rsk f=[[(false,[.d])]]) (hf:Fn f xs=some (0,[.d z])):Fl (di tb Tryz.prog) Fn f vs=some (0,[.d z]):=by
 have h1:(di tb Tryz.prog).ash f=some sh':=by simp only [di,T1 hlt,hash]
 have h2:tZ ((di tb Tryz.prog).rsk f)=true:=by simp only [di,hr];rfl
 simp only [Fl,h1,hx,h2,T6,hf]
theorem yq (y:Int) (r:List Int):(.sl 1 (((y::r).map rI).take ((y::r).map rI).length):D)=dI (some (y::r)):=by rw [Vf];rfl
section
variable {a b c:Option (List E9)} {o:Option (List E5)}
theorem l89 (n:Nat) (d f:Int) (is:D) (q:Int→Bool) (hq:∀ z,FD (n+107) is [.one] (rI z)=some (0,[.d (bl (q z))])) (hd:0≤d∧d≤4166) (g:GoodK a b c o)
  (l:List Int) (hl:l.length≤4611686018427387904) (i0:Nat) (h0:i0 < l.length) (h1:(l.take (i0+1)).filter (fun p=>!(!q (d0 (bC a b c o d p) f)))=l.take i0) :
  ∃ (i:Nat) (ks:List Int),ax [xb (RP (n+108))] M0 0 [.n l.length,.n l.length,is,an a b c o,il f,il d,il i0,il ((i0+1:Nat):Int),.r (l.map rI)]=some (0,[.n l.length,.n l.length,.d (il (i:Int)),.r (ks.map rI)])∧i < l.length∧ks.length=l.length∧ks.take i=l.filter (fun p=>!(!q (d0 (bC a b c o d p) f))):=by
 refine kH l hl (fun p=>!q (d0 (bC a b c o d p) f)) (xb (RP (n+108))) (fun i j ks=>[.n l.length,.n l.length,.d is,.d (an a b c o),.d (il f),.d (il d),.d (il (i:Nat)),.d (il (j:Nat)),.r (ks.map rI)])
  (fun i ks=>some (0,[.n l.length,.n l.length,.d (il ((i:Nat):Int)),.r (ks.map rI)])) ?_ ?_ i0 h0 h1
 ·intro i ks k hk
  simp [xb]
 ·intro i j ks e e2 k _ hj hi hij hjl hil hks hwj hwi
  have hkr:(ks.map rI)[j]?=some (rI e):=by rw [Tm,hj];rfl
  have hkr2:(ks.map rI)[i]?=some (rI e2):=by rw [Tm,hi];rfl
  have h169:=s169 (n+1) d f e is q hq hd g
  simp only [xb,ac,ag,b8,aZ,aN,b9,lT,aC,aa,hjl,T8,T6,aI,Tj,aR,hks]
  rw [k8 _ _ _ ⟨by omega,hjl⟩,V0,eX 1 _ _ _ _ hkr rfl]
  simp only [rI,ak,ah,h169,ab,ac,aP,aa,ae,ay,hwj,hwi]
  cases hqv:q (d0 (bC a b c o d e) f) with
  | true =>
   simp only [Tu,V1,T6,T0,T9]
   rw [k8 _ _ _ ⟨by omega,hil⟩,V0,eX 1 _ _ _ _ hkr2 rfl]
   simp only [ft,Xe,rI]
  | false =>
   simp only [Tu,V1,T6,T0,T9]
theorem k89 (n:Nat) (d f:Int) (is:D) (q:Int→Bool) (hq0:∀ z,FD (n+106) is [.one] (rI z)=some (0,[.d (bl (q z))])) (hq:∀ z,FD (n+107) is [.one] (rI z)=some (0,[.d (bl (q z))])) (hd:0≤d∧d≤4166) (g:GoodK a b c o) :
  FN (n+109) 89 [d9 a,d9 b,d9 c,d5 o,il f,il d,is]=some (0,[.d (dI ((bx (cy (a.getD []))).map (List.filter fun p=>q (d0 (bC a b c o d p) f))))]):=by
 rw [FS,Nr]
 have hla:=g.la
 have hlp:=eb (a.getD [])
 have hp:∀ k:List D→aq,(RP (n+108)).ptrW 4 (.dp [d9 a,d9 b,d9 c,d5 o] 0) k=k [d9 a,d9 b,d9 c,d5 o]:=fun k=>bP _ 4 k rfl
 have h111:=Gc (n+103) a (d9 b) (d9 c) (d5 o) (by omega)
 have hdk:(.dp [d9 a,d9 b,d9 c,d5 o] 0:D)=an a b c o:=rfl
 simp only [G89,gO,cW,hp,ak,ar,ah,h111]
 have hi:=fun l hl=>G4 (n+107) l hl (.fn 169 [.dp [is] 0,.dp [an a b c o] 0,.dp [il f] 0,.dp [il d] 0]) (fun p=>!q (d0 (bC a b c o d p) f)) (fun e _=>d169 n d f e is q hq0 hd g)
 generalize hl:cy (a.getD [])=l at hlp ⊢
 cases l with
 | nil =>
  have:=hi none (by simp)
  simp only [cI,ab,ac,gp,hdk,this,fS,gC,ae,aV,aa,Vu]
  simp [bx,dI,dR]
 | cons y r =>
  have h2:=hi (some (y::r)) (by simp only [T7];omega)
  simp only [T7] at h2
  have el:((y::r).map rI).take ((y::r).map rI).length=(y::r).map rI:=Vf
  simp only [ab,aN,aI,aR,T6,aU,bL,gp,hdk,yq,h2,ac,e7,Vi,Wg,rN,Vx,ae,aV,aa,T4,ao]
  have hres:dI ((bx (y::r)).map (List.filter fun p=>q (d0 (bC a b c o d p) f)))=dI (some ((y::r).filter fun p=>q (d0 (bC a b c o d p) f))):=rfl
  rw [hres]
  generalize hy:(y::r)=l at *
  unfold fS
  cases hf:gC (fun p=>!q (d0 (bC a b c o d p) f)) l with
  | none =>
   simp only [T6]
   have:=fW hf
   simp only [X6] at this
   rw [this]
  | some i0 =>
   obtain ⟨h0,h1⟩:=fV hf
   simp only
   rw [T5 (by omega),ay,aE (by omega) (by omega),aD,Tj]
   obtain ⟨i,ks,e1,e2,e3,e4⟩:=l89 n d f is q hq hd g l (by omega) i0 h0 h1
   rw [show ((i0:Nat):Int)+1=((i0+1:Nat):Int) by simp,e1]
   have ek:(ks.map rI).length=l.length:=by simp [e3]
   simp only [ab,ac,ag,b8,aZ,aN,b9,ek,T6]
   rw [jl _ _ _ _ e2]
   have ea:i+(l.length - i)=l.length:=by omega
   have et:((ks.map rI).take i++List.replicate (l.length - i) [il 0]).length=l.length:=by
    simp [e3];omega
   simp only [bV,ea,cX,jZ,et,T6]
   rw [jm _ _ _ _ (by omega)]
   simp only [X6] at e4
   have er:((ks.map rI).take i++List.replicate (l.length - i) [il 0]).take i=(l.filter fun p=>q (d0 (bC a b c o d p) f)).map rI:=by
    rw [Vk (by simp [e3];omega),X8,Xv,← Wi,e4]
   rw [er]
   rfl
theorem d82 (n:Nat) (d p:Int) (hd:0≤d∧d≤4166) (g:GoodK a b c o) :
  FD (n+105) (.fn 2000082 [an a b c o]) [.one,.one] [il p,il d]=some (0,[.d (dI (some (bC a b c o d p)))]):=by
 have h:Fl (di tb Tryz.prog) (FN (n+105)) 82 [.one (an a b c o),.one (il p),.one (il d)]=some (0,[.d (dI (some (bC a b c o d p)))]) :=
  IS [.ptr 4,.one,.one] (by decide) rfl (by kernel_rfl) (by kernel_rfl) (k82 n d p hd g)
 have h2:c6 Tryz.prog (di tb Tryz.prog) (FN (n+105)) (.fn 2000082 [an a b c o]) [.one,.one] [il p,il d]=if 2000082 < 2000000 then Fl (di tb Tryz.prog) (FN (n+105)) 2000082 ([.one (il p),.one (il d)]++[.one (an a b c o)]) else Fl (di tb Tryz.prog) (FN (n+105)) 82 [.one (an a b c o),.one (il p),.one (il d)]:=by kernel_rfl
 show c6 Tryz.prog (di tb Tryz.prog) (FN (n+105)) (.fn 2000082 [an a b c o]) [.one,.one] [il p,il d]=_
 rw [h2,T5 (by decide),h]
end
theorem s171 (n:Nat) (a b:List Int) (ha:a.length≤4611686018427387904):FN (n+1) 171 [dI (some a),dI (some b)]=some (0,[.d (bl (decide (a=b)))]):=by
 rw [FS,I5]
 simp only [G171,cA,T7,aL,aa,T4,aK,ao,ae,aD]
 by_cases hlen:a.length=b.length
 ·rw [T5 (by simp [hlen])]
  have:=be (β:=Unit) a ha (uB (RP n)) (fun i _=>[.d (dI (some a)),.d (dI (some b)),.d (il a.length),.d (il i)]) (fun _ _=>True)
   (fun i r _=>if r=b.drop i then some (1,[]) else some (0,[.d (bl false)]))
   (fun _ k _=>by rw [hlen,Vp];simp [uB]) ?_ M0 () trivial (cj ha)
  ·simp only [V9,Y0] at this
   rw [this]
   by_cases h:a=b<;>simp [h]
  ·intro i e r _ k hi hd hlt hw _ ih
   have ih':=ih () trivial
   have hlt':(i:Int) < (a.length:Int):=by omega
   have hlb:i < b.length:=by omega
   have hb:b[i]?=some (b[i]'hlb):=Tc hlb
   have hdb:b.drop i=b[i]'hlb::b.drop (i+1):=Vt hlb
   have hi1:((some a).getD [])[i]?=some e:=hi
   have hi2:((some b).getD [])[i]?=some (b[i]'hlb):=hb
   simp only [uB,ac,ag,aC,aa,hlt',T8,T6,cQ hi1,cQ hi2,rI,ak,aL,ae,ay,hw,aK,ao,T4]
   rw [hdb]
   generalize b[i]'hlb=f
   generalize b.drop (i+1)=t at ih' ⊢
   by_cases h:e=f
   ·subst h
    rw [T5 (by simp)]
    refine Eq.trans ih' ?_
    simp
   ·rw [T1 h,T5 (by simp [h])]
 ·rw [T1 (by omega)]
  have:¬ a=b:=fun e=>hlen (by rw [e])
  simp [this]
end
section
def jE (x y:Int→List Int) (p:Int):Bool:=!decide (x p=y p)
section
variable {a b c:Option (List E9)} {o:Option (List E5)} {a' b' c':Option (List E9)} {o':Option (List E5)}
abbrev fo (a b c:Option (List E9)) (o:Option (List E5)) (d:Int):Int→List Int:=bC a b c o d
theorem s170 (n:Nat) (d p:Int) (hd:0≤d∧d≤4166) (g:GoodK a b c o) (g':GoodK (a'.getD []) (b'.getD []) (c'.getD []) (o'.getD [])) :
  FN (n+106) 170 [il p,.fn 2000082 [an a b c o],il d,an a' b' c' o']=some (0,[.d (bl (!jE (fo a b c o d) (fo a' b' c' o' d) p))]):=by
 rw [FS,I6]
 have hp:∀ k:List D→aq,(RP (n+105)).ptrW 4 (an a' b' c' o') k=k [d9 a',d9 b',d9 c',d5 o']:=fun k=>bP _ 4 k rfl
 have hz:c6 Tryz.prog (di tb Tryz.prog) (FN (n+105)) (.fn 2000082 [an a b c o]) [.one,.one] [il p,il d]=_:=d82 n d p hd g
 have hlen:=Aw d p g
 simp only [G170,gz,hz,ab,hp,ak,ar,ah,k82 n d p hd g',ac,s171 (n+104) _ _ (by omega:(bC a b c o d p).length≤4611686018427387904),ao]
 simp [jE]
theorem d170 (n:Nat) (d p:Int) (hd:0≤d∧d≤4166) (g:GoodK a b c o) (g':GoodK (a'.getD []) (b'.getD []) (c'.getD []) (o'.getD [])) :
  FD (n+106) (.fn 170 [.dp [.fn 2000082 [an a b c o]] 0,.dp [il d] 0,.dp [an a' b' c' o'] 0]) [.one] (rI p)=some (0,[.d (bl (!jE (fo a b c o d) (fo a' b' c' o' d) p))]) :=
 fj [.one,.ptr 1,.ptr 1,.ptr 1] [.one (il p)] (by decide) rfl (by kernel_rfl) rfl (by kernel_rfl) (s170 n d p hd g g')
theorem l93 (n:Nat) (d:Int) (hd:0≤d∧d≤4166) (g:GoodK a b c o) (g':GoodK (a'.getD []) (b'.getD []) (c'.getD []) (o'.getD []))
  (l:List Int) (hl:l.length≤4611686018427387904) (i0:Nat) (h0:i0 < l.length) (h1:(l.take (i0+1)).filter (fun p=>!(!jE (fo a b c o d) (fo a' b' c' o' d) p))=l.take i0) :
  ∃ (i:Nat) (ks:List Int),ax [xa (RP (n+107))] M0 0 [.n l.length,.n l.length,il d,an a' b' c' o',il i0,il ((i0+1:Nat):Int),d9 a,d9 b,d9 c,d5 o,.r (l.map rI)]=some (0,[.n l.length,.n l.length,.d (il (i:Int)),.d (d9 a),.d (d9 b),.d (d9 c),.d (d5 o),.r (ks.map rI)])∧i < l.length∧ks.length=l.length∧ks.take i=l.filter (fun p=>!(!jE (fo a b c o d) (fo a' b' c' o' d) p)):=by
 refine kH l hl (fun p=>!jE (fo a b c o d) (fo a' b' c' o' d) p) (xa (RP (n+107))) (fun i j ks=>[.n l.length,.n l.length,.d (il d),.d (an a' b' c' o'),.d (il (i:Nat)),.d (il (j:Nat)),.d (d9 a),.d (d9 b),.d (d9 c),.d (d5 o),.r (ks.map rI)])
  (fun i ks=>some (0,[.n l.length,.n l.length,.d (il ((i:Nat):Int)),.d (d9 a),.d (d9 b),.d (d9 c),.d (d5 o),.r (ks.map rI)])) ?_ ?_ i0 h0 h1
 ·intro i ks k hk
  simp [xa]
 ·intro i j ks e e2 k _ hj hi hij hjl hil hks hwj hwi
  have hkr:(ks.map rI)[j]?=some (rI e):=by rw [Tm,hj];rfl
  have hkr2:(ks.map rI)[i]?=some (rI e2):=by rw [Tm,hi];rfl
  have h170:=s170 (n+1) d e hd g g'
  simp only [an] at h170
  simp only [xa,ac,ag,b8,aZ,aN,b9,lT,aC,aa,hjl,T8,T6,aI,Tj,aR,hks,gp,gO,an]
  rw [k8 _ _ _ ⟨by omega,hjl⟩,V0,eX 1 _ _ _ _ hkr rfl]
  simp only [rI,ak,ah,h170,ab,ac,e7,Vi,Wg,D4,Vx,T6,aP,aa,ae,ay,hwj,hwi]
  cases hqv:jE (fo a b c o d) (fo a' b' c' o' d) e with
  | true =>
   simp only [Tu,V1,T6,T0,T9]
   rw [k8 _ _ _ ⟨by omega,hil⟩,V0,eX 1 _ _ _ _ hkr2 rfl]
   simp only [ft,Xe,rI]
  | false =>
   simp only [Tu,V1,T6,T0,T9]
theorem k93 (n:Nat) (z:Option (List E9)) (x1 x2 x3:D) (d:Int) (hz:(z.getD []).length≤1000000) (hd:0≤d∧d≤4166) (g:GoodK a b c o) (g':GoodK (a'.getD []) (b'.getD []) (c'.getD []) (o'.getD [])) :
  FN (n+108) 93 [d9 z,x1,x2,x3,d9 a,d9 b,d9 c,d5 o,d9 a',d9 b',d9 c',d5 o',il d]=some (0,[.d (dI ((bx (cy (z.getD []))).map (List.filter (jE (fo a b c o d) (fo a' b' c' o' d)))))]):=by
 rw [FS,Nn]
 have hlp:=eb (z.getD [])
 have h111:=Gc (n+102) z x1 x2 x3 hz
 simp only [G93,ah,h111]
 have hi:=fun l hl=>G4 (n+106) l hl (.fn 170 [.dp [.fn 2000082 [an a b c o]] 0,.dp [il d] 0,.dp [an a' b' c' o'] 0]) (fun p=>!jE (fo a b c o d) (fo a' b' c' o' d) p) (fun e _=>d170 n d e hd g g')
 have hdk:(.dp [d9 a,d9 b,d9 c,d5 o] 0:D)=an a b c o:=rfl
 have hdk':(.dp [d9 a',d9 b',d9 c',d5 o'] 0:D)=an a' b' c' o':=rfl
 generalize hl:cy (z.getD [])=l at hlp ⊢
 cases l with
 | nil =>
  have:=hi none (by simp)
  simp only [cI,ab,ac,gp,gO,hdk,hdk',this,fS,gC,e7,Vi,Wg,rN,Vx,T6,ae,aV,aa,Vu]
  simp [bx,dI,dR]
 | cons y r =>
  have h2:=hi (some (y::r)) (by simp only [T7];omega)
  simp only [T7] at h2
  simp only [ab,aN,aI,aR,T6,aU,bL,gp,gO,hdk,hdk',yq,h2,ac,e7,Vi,Wg,rN,Vx,ae,aV,aa,T4,ao]
  have hres:dI ((bx (y::r)).map (List.filter (jE (fo a b c o d) (fo a' b' c' o' d))))=dI (some ((y::r).filter (jE (fo a b c o d) (fo a' b' c' o' d)))):=rfl
  rw [hres]
  generalize hy:(y::r)=l at *
  unfold fS
  cases hf:gC (fun p=>!jE (fo a b c o d) (fo a' b' c' o' d) p) l with
  | none =>
   simp only [T6]
   have:=fW hf
   simp only [X6] at this
   rw [show (l.filter (jE (fo a b c o d) (fo a' b' c' o' d)))=l.filter (fun p=>jE (fo a b c o d) (fo a' b' c' o' d) p) from rfl,this]
  | some i0 =>
   obtain ⟨h0,h1⟩:=fV hf
   simp only
   rw [T5 (by omega),ay,aE (by omega) (by omega),aD,Tj]
   obtain ⟨i,ks,e1,e2,e3,e4⟩:=l93 n d hd g g' l (by omega) i0 h0 h1
   rw [show ((i0:Nat):Int)+1=((i0+1:Nat):Int) by simp,e1]
   have ek:(ks.map rI).length=l.length:=by simp [e3]
   simp only [ab,ac,ag,b8,aZ,aN,b9,ek,T6]
   rw [jl _ _ _ _ e2]
   have ea:i+(l.length - i)=l.length:=by omega
   have et:((ks.map rI).take i++List.replicate (l.length - i) [il 0]).length=l.length:=by
    simp [e3];omega
   simp only [bV,ea,cX,jZ,et,T6]
   rw [jm _ _ _ _ (by omega)]
   simp only [X6] at e4
   have er:((ks.map rI).take i++List.replicate (l.length - i) [il 0]).take i=(l.filter (jE (fo a b c o d) (fo a' b' c' o' d))).map rI:=by
    rw [Vk (by simp [e3];omega),X8,Xv,← Wi,e4]
   rw [er]
   rfl
end
theorem N3 {ok ps fs:Bool} {p f d k l:Int} (h:aQ ok ps fs p f [d,k,l]=0):(0≤d∧d≤4166)∧(0≤k∧k≤4166)∧0≤l∧l≤4166:=by
 unfold aQ at h
 split at h
 ·simp at h
 ·split at h
  ·simp at h
  ·split at h
   ·simp at h
   ·split at h
    ·simp at h
    ·rename_i hh
     simp only [W2,List.any_nil,Bool.or_false,Vl,Wl,W4,not_or,Decidable.not_not] at hh
     exact hh
def fk (k:Int) (a b c:Option (List E9)) (o:Option (List E5)) (d:Int):Int→List Int:=dn k a b c o d
theorem Ka (k:Int) (a b c:Option (List E9)) (o:Option (List E5)) (d:Int):fo (bo k a) (bo k b) (bo k c) (f7 k o) d=fk k a b c o d:=by
 funext p;unfold fo fk dn;rw [aw,aw,aw,cB]
section
variable (n:Nat) (p f d k l:Int) (a b c:Option (List E9)) (o:Option (List E5)) (ha:(a.getD []).length*72≤140737488351232) (hb:(b.getD []).length*72≤140737488351232) (hc:(c.getD []).length*72≤140737488351232) (ho:(o.getD []).length*40≤140737488351232)
include ha hb hc ho
theorem s37:FN (n+109) 37 [d9 a,d9 b,d9 c,d5 o,il d,il k,il l]=if aQ (aA a b c o) false false 0 0 [d,k,l]=0 then some (0,[.d (dI ((bx (cy (a.getD []))).map (List.filter (jE (fk k a b c o d) (fk l a b c o d))))),.d (il 0)]) else some (0,[.d (dI none),.d (il (aQ (aA a b c o) false false 0 0 [d,k,l]))]):=by
 rw [FS,O5]
 have h73:=s73 (n+98) 0 0 false false a b c o [d,k] l (by simp) ha hb hc ho
 rw [show dI (some ([d,k]++[l]))=.sl 1 [[il d],[il k],[il l]] from rfl,show [d,k]++[l]=[d,k,l] from rfl] at h73
 have h94:=s94 (n+103) k a b c o ha hb hc ho
 simp only [G37,ah,ae,aK,aM,bL,h73]
 by_cases he:aQ (aA a b c o) false false 0 0 [d,k,l]=0
 ·have g:=f8 k he
  have g':=f8 l he
  have hl:=(iY (bU he)).1
  rw [T1 he]
  have hp:∀ (k:Int) (q:List D→aq),(RP (n+108)).ptrW 4 (an (bo k a) (bo k b) (bo k c) (f7 k o)) q=q [d9 (bo k a),d9 (bo k b),d9 (bo k c),d5 (f7 k o)]:=fun k q=>bP _ 4 q rfl
  simp only [df,he,T6,ab,ac,ag,aL,X5,Tx,Tk,aa,T0,T9,h94,hp,ak,ar,k93 n a (d9 b) (d9 c) (d5 o) d (by omega) (N3 he).1 g g',ao,Ka]
 ·rw [T5 he]
  simp only [df,T5 he,ab,ac,ag,aL,aa]
  rw [T1 (by simpa using he)]
  simp [dI,dR]
def mI (k:Int) (a b c:Option (List E9)) (o:Option (List E5)) (d f:Int):Option (List Int):=(bx (cy (au k (a.getD [])))).map (List.filter fun p=>decide (d0 (dn k a b c o d p) f=1))
def vX (k:Int) (a b c:Option (List E9)) (o:Option (List E5)) (d f:Int):Option (List Int):=(bx (cy (au k (a.getD [])))).map (List.filter fun p=>decide (d0 (dn k a b c o d p) f≠0))
omit ha hb hc ho in
theorem k89s (he:aQ (aA a b c o) false true 0 f [d,k]=0):FN (n+109) 89 [d9 (bo k a),d9 (bo k b),d9 (bo k c),d5 (f7 k o),il f,il d,.fn 90 []]=some (0,[.d (dI (mI k a b c o d f))]):=by
 rw [k89 n d f (.fn 90 []) (fun z=>decide (z=1)) (fun z=>d90 (n+105) z) (fun z=>d90 (n+106) z) (c5 he).1 (f8 k he)]
 unfold mI dn
 rw [aw,aw,aw,cB]
omit ha hb hc ho in
theorem k89m (he:aQ (aA a b c o) false true 0 f [d,k]=0):FN (n+109) 89 [d9 (bo k a),d9 (bo k b),d9 (bo k c),d5 (f7 k o),il f,il d,.fn 91 []]=some (0,[.d (dI (vX k a b c o d f))]):=by
 rw [k89 n d f (.fn 91 []) (fun z=>decide (z≠0)) (fun z=>d91 (n+105) z) (fun z=>d91 (n+106) z) (c5 he).1 (f8 k he)]
 unfold vX dn
 rw [aw,aw,aw,cB]
theorem s32:FN (n+110) 32 [d9 a,d9 b,d9 c,d5 o,il f,il d,il k]=if aQ (aA a b c o) false true 0 f [d,k]=0 then some (0,[.d (dI (mI k a b c o d f)),.d (il 0)]) else some (0,[.d (dI none),.d (il (aQ (aA a b c o) false true 0 f [d,k]))]):=by
 rw [FS,O9]
 simp only [G32,ah,s79,ab,ac,ag,aM,bL,ja (n+99) 0 f d k a b c o ha hb hc ho false true]
 by_cases he:aQ (aA a b c o) false true 0 f [d,k]=0
 ·rw [T1 he]
  have hp:∀ q:List D→aq,(RP (n+109)).ptrW 4 (an (bo k a) (bo k b) (bo k c) (f7 k o)) q=q [d9 (bo k a),d9 (bo k b),d9 (bo k c),d5 (f7 k o)]:=fun q=>bP _ 4 q rfl
  simp only [df,he,T6,ab,ac,ag,ae,aL,X5,Tx,Tk,aa,T0,T9,hp,ak,ar,gp,k89s n f d k a b c o he,ao]
 ·rw [T5 he]
  simp only [df,T5 he,ab,ac,ag,ae,aL,aa]
  rw [T1 (by simpa using he)]
  simp [dI,dR]
theorem s29:FN (n+110) 29 [d9 a,d9 b,d9 c,d5 o,il f,il d,il k]=if aQ (aA a b c o) false true 0 f [d,k]=0 then some (0,[.d (il (((mI k a b c o d f).getD []).length:Int)),.d (il (((vX k a b c o d f).getD []).length:Int)),.d (il 0)]) else some (0,[.d (il 0),.d (il 0),.d (il (aQ (aA a b c o) false true 0 f [d,k]))]):=by
 rw [FS,Oc]
 simp only [G29,ah,s79,ab,ac,ag,aM,bL,ja (n+99) 0 f d k a b c o ha hb hc ho false true]
 by_cases he:aQ (aA a b c o) false true 0 f [d,k]=0
 ·rw [T1 he]
  have hp:∀ q:List D→aq,(RP (n+109)).ptrW 4 (an (bo k a) (bo k b) (bo k c) (f7 k o)) q=q [d9 (bo k a),d9 (bo k b),d9 (bo k c),d5 (f7 k o)]:=fun q=>bP _ 4 q rfl
  simp only [df,he,T6,ab,ac,ag,ae,aL,X5,Tx,Tk,aa,T0,T9,hp,ak,ar,gp,k89s n f d k a b c o he,k89m n f d k a b c o he,cA,ao]
 ·rw [T5 he]
  simp only [df,T5 he,ab,ac,ag,ae,aL,aa]
  rw [T1 (by simpa using he)]
  simp
end
end
section
def xT (s:Int) (l:List E9):List E9:=l.filter fun e=>!decide (e.src=s)
def L4 (s:Int) (l:List E5):List E5:=l.filter fun e=>!decide (e.src=s)
def s0 (s:Int) (o:Option (List E9)):Option (List E9):=o.map (xT s)
def JQ (s:Int) (o:Option (List E5)):Option (List E5):=o.map (L4 s)
theorem v5 (s:Int):s0 s none=none:=rfl
theorem v6 (s:Int):JQ s none=none:=rfl
theorem dw (s:Int) (o:Option (List E9)):(s0 s o).getD []=xT s (o.getD []):=by cases o<;>rfl
theorem mG (s:Int) (o:Option (List E5)):(JQ s o).getD []=L4 s (o.getD []):=by cases o<;>rfl
theorem le (s:Int) (l:List E9):(xT s l).length≤l.length:=We _ _
theorem Av (s:Int) (l:List E5):(L4 s l).length≤l.length:=We _ _
theorem tT {s:Int} {l:List E9} {e:E9} (h:e∈xT s l):e∈l:=(Xc.1 h).1
theorem GoodK.wo {a b c:List E9} {o:List E5} (h:GoodK a b c o) (s:Int):GoodK (xT s a) (xT s b) (xT s c) (L4 s o) :=
 ⟨fun e he=>h.fam e (tT he),fun e he=>h.less e (tT he),fun e he=>h.by0 e (tT he),Vn (le ..) h.la,Vn (le ..) h.lb,Vn (le ..) h.lc,Vn (Av ..) h.lo⟩
theorem s98 (n:Nat) (e:E9) (s:Int):FN (n+1) 98 (r9 e++[il s])=some (0,[.d (bl (decide (e.src=s)))]):=by
 rw [r9]
 simp only [Tr,V5]
 rw [FS,Nj]
 simp only [G98,aV,ao]
theorem d98 (n:Nat) (e:E9) (s:Int):FD (n+1) (.fn 98 [.dp [il s] 0]) [.agg 9] (r9 e)=some (0,[.d (bl (decide (e.src=s)))]) :=
 fj [.agg 9,.ptr 1] [.agg (r9 e)] (by decide) rfl (by kernel_rfl) rfl (by kernel_rfl) (s98 n e s)
theorem s100 (n:Nat) (e:E9) (s:Int):FN (n+1) 100 (r9 e++[il s])=some (0,[.d (bl (decide (e.src=s)))]):=by
 rw [r9]
 simp only [Tr,V5]
 rw [FS,IR]
 simp only [G100,aV,ao]
theorem d100 (n:Nat) (e:E9) (s:Int):FD (n+1) (.fn 100 [.dp [il s] 0]) [.agg 9] (r9 e)=some (0,[.d (bl (decide (e.src=s)))]) :=
 fj [.agg 9,.ptr 1] [.agg (r9 e)] (by decide) rfl (by kernel_rfl) rfl (by kernel_rfl) (s100 n e s)
theorem s102 (n:Nat) (e:E9) (s:Int):FN (n+1) 102 (r9 e++[il s])=some (0,[.d (bl (decide (e.src=s)))]):=by
 rw [r9]
 simp only [Tr,V5]
 rw [FS,IP]
 simp only [G102,aV,ao]
theorem d102 (n:Nat) (e:E9) (s:Int):FD (n+1) (.fn 102 [.dp [il s] 0]) [.agg 9] (r9 e)=some (0,[.d (bl (decide (e.src=s)))]) :=
 fj [.agg 9,.ptr 1] [.agg (r9 e)] (by decide) rfl (by kernel_rfl) rfl (by kernel_rfl) (s102 n e s)
theorem s104 (n:Nat) (e:E5) (s:Int):FN (n+1) 104 (r5 e++[il s])=some (0,[.d (bl (decide (e.src=s)))]):=by
 rw [r5]
 simp only [Tr,V5]
 rw [FS,IN]
 simp only [G104,aV,ao]
theorem d104 (n:Nat) (e:E5) (s:Int):FD (n+1) (.fn 104 [.dp [il s] 0]) [.agg 5] (r5 e)=some (0,[.d (bl (decide (e.src=s)))]) :=
 fj [.agg 5,.ptr 1] [.agg (r5 e)] (by decide) rfl (by kernel_rfl) rfl (by kernel_rfl) (s104 n e s)
theorem Da (n:Nat) (s:Int) (l:List E9) (hl:l.length*72≤140737488351232):∃ rest:Rr,FN (n+3) 1000097 [.sl 9 (l.map r9),.fn 98 [.dp [il s] 0]]=some (0,[.d (d9 (s0 s (some l))),.d (.sl 9 rest)]):=by
 obtain ⟨rest,h⟩:=vu (n+1) (.fn 98 [.dp [il s] 0]) (fun e=>decide (e.src=s)) l (by omega) (fun e _=>d98 n e s) (fun e _=>d98 (n+1) e s)
 refine ⟨rest,h.trans ?_⟩
 simp only [d9,s0,xT,Th,dR]
theorem D9 (n:Nat) (s:Int) (l:List E9) (hl:l.length*72≤140737488351232):∃ rest:Rr,FN (n+3) 1000099 [.sl 9 (l.map r9),.fn 100 [.dp [il s] 0]]=some (0,[.d (d9 (s0 s (some l))),.d (.sl 9 rest)]):=by
 obtain ⟨rest,h⟩:=vr (n+1) (.fn 100 [.dp [il s] 0]) (fun e=>decide (e.src=s)) l (by omega) (fun e _=>d100 n e s) (fun e _=>d100 (n+1) e s)
 refine ⟨rest,h.trans ?_⟩
 simp only [d9,s0,xT,Th,dR]
theorem D8 (n:Nat) (s:Int) (l:List E9) (hl:l.length*72≤140737488351232):∃ rest:Rr,FN (n+3) 1000101 [.sl 9 (l.map r9),.fn 102 [.dp [il s] 0]]=some (0,[.d (d9 (s0 s (some l))),.d (.sl 9 rest)]):=by
 obtain ⟨rest,h⟩:=vq (n+1) (.fn 102 [.dp [il s] 0]) (fun e=>decide (e.src=s)) l (by omega) (fun e _=>d102 n e s) (fun e _=>d102 (n+1) e s)
 refine ⟨rest,h.trans ?_⟩
 simp only [d9,s0,xT,Th,dR]
theorem D7 (n:Nat) (s:Int) (l:List E5) (hl:l.length*40≤140737488351232):∃ rest:Rr,FN (n+3) 1000103 [.sl 5 (l.map r5),.fn 104 [.dp [il s] 0]]=some (0,[.d (d5 (JQ s (some l))),.d (.sl 5 rest)]):=by
 obtain ⟨rest,h⟩:=vp (n+1) (.fn 104 [.dp [il s] 0]) (fun e=>decide (e.src=s)) l (by omega) (fun e _=>d104 n e s) (fun e _=>d104 (n+1) e s)
 refine ⟨rest,h.trans ?_⟩
 simp only [d5,JQ,L4,Th,dR]
theorem if2 {α:Type} (p q:Prop) [Decidable p] [Decidable q] (x y:α):(if p then (if q then x else y) else y)=if p∧q then x else y:=by
 by_cases h1:p<;>by_cases h2:q<;>simp [h1,h2]
theorem if3 {α:Type} (p q r:Prop) [Decidable p] [Decidable q] [Decidable r] (x y:α):(if p then (if q then (if r then x else y) else y) else y)=if p∧q∧r then x else y:=by
 by_cases h1:p<;>by_cases h2:q<;>by_cases h3:r<;>simp [h1,h2,h3]
theorem if4 {α:Type} (p q r s:Prop) [Decidable p] [Decidable q] [Decidable r] [Decidable s] (x y:α):(if p then (if q then (if r then (if s then x else y) else y) else y) else y)=if p∧q∧r∧s then x else y:=by
 by_cases h1:p<;>by_cases h2:q<;>by_cases h3:r<;>by_cases h4:s<;>simp [h1,h2,h3,h4]
def pv (s:Int) (a b c:List E9) (o:List E5):Prop:=((xT s a).length:Int)=a.length∧((xT s b).length:Int)=b.length∧((xT s c).length:Int)=c.length∧((L4 s o).length:Int)=o.length
instance (s:Int) (a b c:List E9) (o:List E5):Decidable (pv s a b c o):=by unfold pv;infer_instance
def Au (s k:Int) (a b c:Option (List E9)) (o:Option (List E5)) (d:Int):Int→List Int:=bC (au k (xT s (a.getD []))) (au k (xT s (b.getD []))) (au k (xT s (c.getD []))) (dj k (L4 s (o.getD []))) d
def Gr (s k:Int) (a b c:Option (List E9)) (o:Option (List E5)) (d:Int):Option (List Int):=(bx (cy (a.getD []))).map (List.filter (jE (fk k a b c o d) (Au s k a b c o d)))
theorem GW (s k:Int) (a b c:Option (List E9)) (o:Option (List E5)) (d:Int):fo (bo k (s0 s a)) (bo k (s0 s b)) (bo k (s0 s c)) (f7 k (JQ s o)) d=Au s k a b c o d:=by
 funext p;unfold fo Au;rw [aw,aw,aw,cB,dw,dw,dw,mG]
set_option maxHeartbeats 4000000 in
theorem s39 (n:Nat) (s d k:Int) (a b c:Option (List E9)) (o:Option (List E5)) (ha:(a.getD []).length*72≤140737488351232) (hb:(b.getD []).length*72≤140737488351232) (hc:(c.getD []).length*72≤140737488351232) (ho:(o.getD []).length*40≤140737488351232) :
  FN (n+109) 39 [d9 a,d9 b,d9 c,d5 o,il s,il d,il k]=if aQ (aA a b c o) false false 0 0 [d,k]=0 then (if pv s a b c o then some (0,[.d (dI none),.d (il 3)]) else some (0,[.d (dI (Gr s k a b c o d)),.d (il 0)])) else some (0,[.d (dI none),.d (il (aQ (aA a b c o) false false 0 0 [d,k]))]):=by
 rw [FS,O4]
 have h73:=ja (n+98) 0 0 d k a b c o ha hb hc ho false false
 by_cases he:aQ (aA a b c o) false false 0 0 [d,k]=0
 ·rw [T1 he]
  have g:=f8 k he
  have gw:GoodK ((bo k (s0 s a)).getD []) ((bo k (s0 s b)).getD []) ((bo k (s0 s c)).getD []) ((f7 k (JQ s o)).getD []):=by
   rw [aw,aw,aw,cB,dw,dw,dw,mG]
   exact ((eC (bU he)).wo s).cnt k
  have hla:=(iY (bU he)).1
  have h93:=k93 n a (d9 b) (d9 c) (d5 o) d (by omega) (c5 he).1 g gw
  rw [Ka,GW] at h93
  have h94:=s94 (n+103) k (s0 s a) (s0 s b) (s0 s c) (JQ s o) (by rw [dw];have:=le s (a.getD []);omega) (by rw [dw];have:=le s (b.getD []);omega) (by rw [dw];have:=le s (c.getD []);omega) (by rw [mG];have:=Av s (o.getD []);omega)
  have hp:∀ (a b c:Option (List E9)) (o:Option (List E5)) (q:List D→aq),(RP (n+108)).ptrW 4 (an a b c o) q=q [d9 a,d9 b,d9 c,d5 o]:=fun a b c o q=>bP _ 4 q rfl
  have hx:(bx (cy (a.getD []))).map (List.filter (jE (fk k a b c o d) (Au s k a b c o d)))=Gr s k a b c o d:=rfl
  rw [hx] at h93
  generalize Gr s k a b c o d=M at h93 ⊢
  have h96:=s96 (n+106) a b c o ha hb hc ho
  have hN:pv s a b c o=((((s0 s a).getD []).length:Int)=(a.getD []).length∧(((s0 s b).getD []).length:Int)=(b.getD []).length∧(((s0 s c).getD []).length:Int)=(c.getD []).length∧(((JQ s o).getD []).length:Int)=(o.getD []).length):=by
   rw [dw,dw,dw,mG];rfl
  simp only [hN]
  clear hN hx
  simp only [ae,aK,G39,ah,aM,bL,h73,df,he,T6,ab,ac,ag,aL,X5,Tx,Tk,aa,T0,T9,h96]
  clear h73 he g gw hla
  obtain ⟨_,ka⟩:=sk (Da (n+105) s)
  obtain ⟨_,kb⟩:=sk (D9 (n+105) s)
  obtain ⟨_,kc⟩:=sk (D8 (n+105) s)
  obtain ⟨_,ko⟩:=sk (D7 (n+105) s)
  cases a<;>cases b<;>cases c<;>cases o<;>try simp only [v5,v6] at h94 h93
  all_goals
   try simp only [T7] at ha hb hc ho
   simp only [Option.isSome_none,Option.isSome_some,GL,↓ab,↓cI,lv9,lv5]
   simp (disch:=first | exact ha | exact hb | exact hc | exact ho) only [ah,s97n,s99n,JU,JT,ka,kb,kc,ko,v5,v6,ab,ac,ag,aN,b9,aI,aR,T6,ao,gp,gO,bR,ga,cS,yD,aV,aa,T4,h94,hp,ak,ar,h93,ae,cc,Xx,Wm]
   first | rfl | exact if2 _ _ _ _ | exact if3 _ _ _ _ _ | exact if4 _ _ _ _ _ _
 ·rw [T5 he]
  simp only [G39,ah,ae,aK,aM,bL,h73,df,T5 he,ab,ac,ag,aL,aa]
  rw [T1 (by simpa using he)]
  simp [dI,dR]
end
section
def kinA:Option (List E9):=some [⟨1,10,3,0,0,100,100,0,0⟩,⟨2,11,3,0,0,100,100,0,0⟩,⟨3,12,5,0,10,90,100,0,0⟩,⟨4,11,7,40,50,60,60,0,0⟩]
def kinB:Option (List E9):=some [⟨20,5,3,20,30,70,70,8,0⟩]
def kinC:Option (List E9):=some [⟨30,10,0,50,50,52,55,0,0⟩,⟨31,12,10,0,0,100,100,0,0⟩]
def kinO:Option (List E5):=some [⟨40,11,9,5,0⟩]
theorem s168 (n:Nat) (x:Int):FN (n+1) 168 [il x]=some (0,[.d (il x),.d (il x)]):=by rw [FS,I8];simp [G168]
theorem s88 (n:Nat):FN (n+2) 88 []=some (0,[.d (d9 kinA),.d (d9 kinB),.d (d9 kinC),.d (d5 kinO)]):=by
 rw [FS,Ns]
 simp only [G88,ah,ae,s168,ab,ac,ag,bj,aM,aI,Tb,Td,aR,T6,aU,bL,ao,Tg,Tq]
 simp [kinA,kinB,kinC,kinO,d9,d5,r9,r5,dR]
theorem kA:(kinA.getD []).length*72≤140737488351232:=by decide
theorem kB:(kinB.getD []).length*72≤140737488351232:=by decide
theorem kC:(kinC.getD []).length*72≤140737488351232:=by decide
theorem kO:(kinO.getD []).length*40≤140737488351232:=by decide
theorem x1 (n:Nat):FN (n+110) 12 [d9 kinA,d9 kinB,d9 kinC,d5 kinO,il 11,il 45,il 9]=some (0,[.d (dI (some [3,7])),.d (il 0)]):=by
 rw [s12 (n+99) 11 45 9 kinA kinB kinC kinO kA kB kC kO,T1 (by decide +kernel),show aY 45 11 (au 9 (kinA.getD []))=[3,7] by decide +kernel]
theorem x2 (n:Nat):FN (n+110) 14 [d9 kinA,d9 kinB,d9 kinC,d5 kinO,il 5,il 25,il 9]=some (0,[.d (dI (some [3,5])),.d (il 0)]):=by
 rw [s14 (n+5) 5 25 9 kinA kinB kinC kinO kA kB kC kO,T1 (by decide +kernel),show aj 25 (au 9 (kinB.getD [])) 5=[3,5] by decide +kernel]
theorem x3 (n:Nat):FN (n+110) 16 [d9 kinA,d9 kinB,d9 kinC,d5 kinO,il 12,il 51,il 9]=some (0,[.d (dI (some [0])),.d (il 0)]):=by
 rw [s16 (n+4) 12 51 9 kinA kinB kinC kinO kA kB kC kO,T1 (by decide +kernel),show dn 9 kinA kinB kinC kinO 51 12=[0] by decide +kernel]
theorem x4 (n:Nat):FN (n+110) 18 [d9 kinA,d9 kinB,d9 kinC,d5 kinO,il 12,il 53,il 9]=some (0,[.d (il 2),.d (il 0)]):=by
 rw [s18 (n+3) 12 53 9 kinA kinB kinC kinO kA kB kC kO,T1 (by decide +kernel),show dN (au 9 (kinA.getD [])) (au 9 (kinC.getD [])) (dj 9 (kinO.getD [])) 53 12=2 by decide +kernel]
theorem x5 (n:Nat):FN (n+110) 20 [d9 kinA,d9 kinB,d9 kinC,d5 kinO,il 11,il 7,il 55,il 9]=some (0,[.d (il 1),.d (il 0)]):=by
 rw [s20 (n+3) 11 7 55 9 kinA kinB kinC kinO kA kB kC kO,T1 (by decide +kernel),show d0 (dn 9 kinA kinB kinC kinO 55 11) 7=1 by decide +kernel]
theorem x6 (n:Nat):FN (n+110) 32 [d9 kinA,d9 kinB,d9 kinC,d5 kinO,il 3,il 35,il 9]=some (0,[.d (dI (some [10,11,12])),.d (il 0)]):=by
 rw [s32 n 3 35 9 kinA kinB kinC kinO kA kB kC kO,T1 (by decide +kernel),show mI 9 kinA kinB kinC kinO 35 3=some [10,11,12] by decide +kernel]
theorem x7 (n:Nat):FN (n+110) 29 [d9 kinA,d9 kinB,d9 kinC,d5 kinO,il 3,il 53,il 9]=some (0,[.d (il 0),.d (il 2),.d (il 0)]):=by
 rw [s29 n 3 53 9 kinA kinB kinC kinO kA kB kC kO,T1 (by decide +kernel),show (((mI 9 kinA kinB kinC kinO 53 3).getD []).length:Int)=0 by decide +kernel,show (((vX 9 kinA kinB kinC kinO 53 3).getD []).length:Int)=2 by decide +kernel]
theorem x8 (n:Nat):FN (n+110) 39 [d9 kinA,d9 kinB,d9 kinC,d5 kinO,il 30,il 53,il 9]=some (0,[.d (dI (some [10,12])),.d (il 0)]):=by
 rw [s39 (n+1) 30 53 9 kinA kinB kinC kinO kA kB kC kO,T1 (by decide +kernel),T5 (by decide +kernel),show Gr 30 9 kinA kinB kinC kinO 53=some [10,12] by decide +kernel]
theorem x9 (n:Nat):FN (n+110) 37 [d9 kinA,d9 kinB,d9 kinC,d5 kinO,il 10,il 4,il 9]=some (0,[.d (dI (some [11])),.d (il 0)]):=by
 rw [s37 (n+1) 10 4 9 kinA kinB kinC kinO kA kB kC kO,T1 (by decide +kernel),show (bx (cy (kinA.getD []))).map (List.filter (jE (fk 4 kinA kinB kinC kinO 10) (fk 9 kinA kinB kinC kinO 10)))=some [11] by decide +kernel]
theorem bn (n:Nat):FN (n+110) 18 [d9 kinA,d9 kinB,d9 kinC,d5 kinO,il 11,il 10,il 9]=some (0,[.d (il 0),.d (il 0)]):=by
 rw [s18 (n+3) 11 10 9 kinA kinB kinC kinO kA kB kC kO,T1 (by decide +kernel),show dN (au 9 (kinA.getD [])) (au 9 (kinC.getD [])) (dj 9 (kinO.getD [])) 10 11=0 by decide +kernel]
theorem nS (n:Nat) (l:List Int) (hl:l.length≤100):FN (n+1) 22 [dI (some l),dI (some l)]=some (0,[.d (bl true)]):=by
 rw [s22 n (some l) (some l) (by simp only [T7];omega)];simp
theorem a23 {Fn:Nat→List D→aq} {FnD:D→List Sh→List D→aq} {m:Nat} (A B C O L1 L2 L3 L6 L8 L9:D) (h88:Fn 88 []=some (0,[.d A,.d B,.d C,.d O]))
  (h1:Fn 12 [A,B,C,O,il 11,il 45,il 9]=some (0,[.d L1,.d (il 0)])) (h2:Fn 14 [A,B,C,O,il 5,il 25,il 9]=some (0,[.d L2,.d (il 0)])) (h3:Fn 16 [A,B,C,O,il 12,il 51,il 9]=some (0,[.d L3,.d (il 0)]))
  (h4:Fn 18 [A,B,C,O,il 12,il 53,il 9]=some (0,[.d (il 2),.d (il 0)])) (h5:Fn 20 [A,B,C,O,il 11,il 7,il 55,il 9]=some (0,[.d (il 1),.d (il 0)])) (h6:Fn 32 [A,B,C,O,il 3,il 35,il 9]=some (0,[.d L6,.d (il 0)]))
  (h7:Fn 29 [A,B,C,O,il 3,il 53,il 9]=some (0,[.d (il 0),.d (il 2),.d (il 0)])) (h8:Fn 39 [A,B,C,O,il 30,il 53,il 9]=some (0,[.d L8,.d (il 0)])) (h9:Fn 37 [A,B,C,O,il 10,il 4,il 9]=some (0,[.d L9,.d (il 0)]))
  (h10:Fn 18 [A,B,C,O,il 11,il 10,il 9]=some (0,[.d (il 0),.d (il 0)]))
  (q1:Fn 22 [L1,.sl 1 [[il 3],[il 7]]]=some (0,[.d (bl true)])) (q2:Fn 22 [L2,.sl 1 [[il 3],[il 5]]]=some (0,[.d (bl true)])) (q3:Fn 22 [L3,.sl 1 [[il 0]]]=some (0,[.d (bl true)])) (q6:Fn 22 [L6,.sl 1 [[il 10],[il 11],[il 12]]]=some (0,[.d (bl true)]))
  (q8:Fn 22 [L8,.sl 1 [[il 10],[il 12]]]=some (0,[.d (bl true)])) (q9:Fn 22 [L9,.sl 1 [[il 11]]]=some (0,[.d (bl true)])):G23 (af Fn FnD m)=some (0,[.d (bl true)]):=by
 simp only [G23,ah,ae,h88,ab,ac,ag,h1,h2,h3,h4,h5,h6,h7,h8,h9,h10,aV,T8,aa,T6,aM,bL,DJ,ao,q1,q2,q3,q6,q8,q9,T0,T9,Vr]
theorem s23 (n:Nat):FN (n+111) 23 []=some (0,[.d (bl true)]):=by
 rw [FS,Og]
 exact a23 (d9 kinA) (d9 kinB) (d9 kinC) (d5 kinO) (dI (some [3,7])) (dI (some [3,5])) (dI (some [0])) (dI (some [10,11,12])) (dI (some [10,12])) (dI (some [11])) (s88 (n+108)) (x1 n) (x2 n) (x3 n) (x4 n) (x5 n) (x6 n) (x7 n) (x8 n) (x9 n) (bn n)
  (nS (n+109) [3,7] (by decide)) (nS (n+109) [3,5] (by decide)) (nS (n+109) [0] (by decide)) (nS (n+109) [10,11,12] (by decide)) (nS (n+109) [10,12] (by decide)) (nS (n+109) [11] (by decide))
end
section
end
section
theorem s31 (n:Nat) (a:Option (List E9)) (b c o:D) (hl:(a.getD []).length≤1000000):FN (n+2) 31 [d9 a,b,c,o]=some (0,[.d (dI (bx (cy (a.getD []))))]):=by
 rw [FS,Oa]
 simp only [G31,cS,ae,aD]
 by_cases hne:a.getD []=[]
 ·rw [hne]
  have h0:ax [td (RP (n+1)),t9 (RP (n+1))] M0 0 [d9 a,il (([]:List E9).length:Int),il 0]=some (0,[]) :=
   e9 (σ:=Unit) [td (RP (n+1)),t9 (RP (n+1))] (fun _=>(0,[.d (d9 a),.d (il (([]:List E9).length:Int)),.d (il 0)])) (fun _=>0) (fun _=>True) (fun _=>some (0,[])) (fun s k _ _=>⟨_,rfl,by simp [td]⟩) M0 () trivial (by unfold M0;omega)
  rw [h0]
  rfl
 ·have hL:((a.getD []).map (·.a)).length=(a.getD []).length:=by simp
  have hat:∀ (i:Nat) (x:Int),((a.getD []).map (·.a))[i]?=some x→∃ e,(a.getD [])[i]?=some e∧e.a=x:=fun i x hi=>by
   rw [Tm] at hi
   cases h0:(a.getD [])[i]? with
   | none=>rw [h0] at hi;simp at hi
   | some e=>rw [h0] at hi;exact ⟨e,rfl,by simpa using hi⟩
  have:=lh ((a.getD []).map (·.a)) (by simpa using hl) (by simpa using hne) (td (RP (n+1))) (t9 (RP (n+1))) (fun i=>[.d (d9 a),.d (il (a.getD []).length),.d (il (i:Nat))])
   (fun i acc=>[.d (dI (some acc)),.d (d9 a),.d (il (a.getD []).length),.d (il (i:Nat))]) (fun acc=>some (1,[.d (dI (some acc))])) ?_ ?_ ?_
  ·rw [show il 0=il ((0:Nat):Int) from rfl,this,qe (vN hne)]
   simp [cy]
  ·intro acc k
   rw [hL]
   simp [t9]
  ·intro x k hi hlt
   rw [hL] at hlt
   obtain ⟨e,he,rfl⟩:=hat _ _ hi
   have h9:=ct (Fn:=FN (n+1)) (FnD:=c6 Tryz.prog (di tb Tryz.prog) (FN (n+1))) (m:=M0) he
   simp only [td,ac,ag,aC,aa,V9,hlt,T8,T6]
   rw [show ((il 0):D)=il ((0:Nat):Int) from rfl,h9]
   simp only [r9,ak,ar,ah,cc,mV,ab,ac,ae,ay,V9]
   rw [show IntKind.i64.wrap (0+1)=((1:Nat):Int) from rfl]
  ·intro i x acc k hi hlt hw hu hal
   rw [hL] at hlt
   obtain ⟨e,he,rfl⟩:=hat _ _ hi
   have hput:=Fq n (some acc) e.a (by simp only [T7];omega) hu
   simp only [T7] at hput
   simp only [t9,ac,ag,aC,aa,hlt,T8,T6,ct he,r9,ak,ar,ah,hput,ab,ae,ay,hw]
theorem EY {Fn:Nat→List D→aq} {FnD:D→List Sh→List D→aq} {m:Nat} {l:List Int} {e0:List Yr} {e1:Rr→List Yr} {k0 k1:List Yr→aq} {R:D→aq} (h0:k0 e0=R (.lit (.slice none 0 0))) (h1:∀ w ws,k1 (e1 (w::ws))=R (.sl 1 (w::ws))) :
  (af Fn FnD m).bnd (ff e0 e1 (l.map rI)) [k0,k1]=R (dI (bx l)):=by
 cases l with
 | nil=>exact h0
 | cons w ws=>exact h1 (rI w) (ws.map rI)
section
variable {a b c:List E9} {o:List E5} (n:Nat) (f d x3 p:Int) (hd:0≤d∧d≤4166) (g:GoodK a b c o) (P:List Int) (hP:P.length≤1000000)
include hd g hP
theorem l33:ax [Bz (RP (n+8)),By (RP (n+8))] M0 0 [il p,il f,il d,il x3,dI (bx P),il P.length,il 0,d9 (bx a),d9 (bx b),d9 (bx c),d5 (bx o)] =
  ff [] (fun rs=>[.n rs.length,.n rs.length,.r rs]) ((P.filter fun q=>decide (d0 (bC a b c o d q) f=1)).map rI):=by
 rw [←fD]
 refine cq P (by omega) (fun q=>if decide (d0 (bC a b c o d q) f=1) then some (rI q) else none) _ _ (fun i=>[.d (il p),.d (il f),.d (il d),.d (il x3),.d (dI (bx P)),.d (il P.length),.d (il (i:Nat)),.d (d9 (bx a)),.d (d9 (bx b)),.d (d9 (bx c)),.d (d5 (bx o))])
  (fun i rs=>[.d (il p),.d (il f),.d (il d),.d (il x3),.n rs.length,.n rs.length,.d (dI (bx P)),.d (il P.length),.d (il (i:Nat)),.r rs,.d (d9 (bx a)),.d (d9 (bx b)),.d (d9 (bx c)),.d (d5 (bx o))]) [] (fun rs=>[.n rs.length,.n rs.length,.r rs]) ?_ ?_ ?_ ?_
 ·intro k;simp [Bz]
 ·intro rs k;simp [By]
 ·intro i q k hi hlt hw
  have hi':((bx P).getD [])[i]?=some q:=by rw [aJ];exact hi
  have hlen:(bC a b c o d q).length≤100:=eA (dK ..) fun z hz=>dB g.fam g.less hz
  have h87:=s87 (n+6) (some (bC a b c o d q)) f (by simp only [T7];omega)
  simp only [T7] at h87
  simp only [Bz,ac,ag,aC,aa,hlt,T8,T6,cQ hi',rI,ak,ah,Ei n d q hd g,ab,h87,aV,ae,bj,aI,aM,aR,aU,Tb,Td,Tg,Tq,bT,bc,ay,hw]
  by_cases hc:d0 (bC a b c o d q) f=1
  ·simp only [hc,T8,T6]
   rw [T1 (by simp [])]
  ·simp only [hc,Tk,T9,T0]
 ·intro i q rs k hi hlt hw hrs
  have hi':((bx P).getD [])[i]?=some q:=by rw [aJ];exact hi
  have hlen:(bC a b c o d q).length≤100:=eA (dK ..) fun z hz=>dB g.fam g.less hz
  have h87:=s87 (n+6) (some (bC a b c o d q)) f (by simp only [T7];omega)
  simp only [T7] at h87
  simp only [By,ac,ag,b8,aZ,aN,b9,aC,aa,hlt,T8,T6,cQ hi',rI,ak,ah,Ei n d q hd g,ab,h87,aV,ae,bj,aI,aM,aR,aU,Tb,Td,Tg,Tq,bc,ay,hw,bV,cX,Tp]
  by_cases hc:d0 (bC a b c o d q) f=1
  ·simp only [hc,T8,T6]
   rw [T1 (by simp [];omega)]
  ·simp only [hc,Tk,T9,T0]
theorem l35:ax [Bx (RP (n+8)),Bw (RP (n+8))] M0 0 [il p,il f,il d,il x3,dI (bx P),il P.length,il 0,d9 (bx a),d9 (bx b),d9 (bx c),d5 (bx o)] =
  ff [] (fun rs=>[.n rs.length,.n rs.length,.r rs]) ((P.filter fun q=>decide (f∈bC a b c o d q)).map rI):=by
 rw [←fD]
 refine cq P (by omega) (fun q=>if decide (f∈bC a b c o d q) then some (rI q) else none) _ _ (fun i=>[.d (il p),.d (il f),.d (il d),.d (il x3),.d (dI (bx P)),.d (il P.length),.d (il (i:Nat)),.d (d9 (bx a)),.d (d9 (bx b)),.d (d9 (bx c)),.d (d5 (bx o))])
  (fun i rs=>[.d (il p),.d (il f),.d (il d),.d (il x3),.n rs.length,.n rs.length,.d (dI (bx P)),.d (il P.length),.d (il (i:Nat)),.r rs,.d (d9 (bx a)),.d (d9 (bx b)),.d (d9 (bx c)),.d (d5 (bx o))]) [] (fun rs=>[.n rs.length,.n rs.length,.r rs]) ?_ ?_ ?_ ?_
 ·intro k;simp [Bx]
 ·intro rs k;simp [Bw]
 ·intro i q k hi hlt hw
  have hi':((bx P).getD [])[i]?=some q:=by rw [aJ];exact hi
  have hlen:(bC a b c o d q).length≤100:=eA (dK ..) fun z hz=>dB g.fam g.less hz
  have h41:=s41 (n+7) (some (bC a b c o d q)) f (by simp only [T7];omega)
  simp only [T7] at h41
  simp only [Bx,ac,ag,aC,aa,hlt,T8,T6,cQ hi',rI,ak,ah,Ei n d q hd g,ab,h41,bj,aI,aM,aR,aU,Tb,Td,Tg,Tq,bT,bc,ae,ay,hw]
  by_cases hc:f∈bC a b c o d q
  ·simp only [hc,T8,T6]
   rw [T1 (by simp [])]
  ·simp only [hc,Tk,T9,T0]
 ·intro i q rs k hi hlt hw hrs
  have hi':((bx P).getD [])[i]?=some q:=by rw [aJ];exact hi
  have hlen:(bC a b c o d q).length≤100:=eA (dK ..) fun z hz=>dB g.fam g.less hz
  have h41:=s41 (n+7) (some (bC a b c o d q)) f (by simp only [T7];omega)
  simp only [T7] at h41
  simp only [Bw,ac,ag,b8,aZ,aN,b9,aC,aa,hlt,T8,T6,cQ hi',rI,ak,ah,Ei n d q hd g,ab,h41,bj,aI,aM,aR,aU,Tb,Td,Tg,Tq,bc,ae,ay,hw,bV,cX,Tp]
  by_cases hc:f∈bC a b c o d q
  ·simp only [hc,T8,T6]
   rw [T1 (by simp [];omega)]
  ·simp only [hc,Tk,T9,T0]
end
end
section
section
variable {a b c a' b' c':List E9} {o o':List E5} (n:Nat) (d:Int) (hd:0≤d∧d≤4166) (g:GoodK a b c o) (g':GoodK a' b' c' o') (P:List Int) (hP:P.length≤1000000)
include hd g g' hP
end
section
variable (n:Nat) (p f d k l:Int) (a b c:Option (List E9)) (o:Option (List E5)) (ha:(a.getD []).length*72≤140737488351232) (hb:(b.getD []).length*72≤140737488351232) (hc:(c.getD []).length*72≤140737488351232) (ho:(o.getD []).length*40≤140737488351232)
def pP (k:Int) (a b c:Option (List E9)) (o:Option (List E5)) (d f:Int):List Int:=(cy (au k (a.getD []))).filter fun q=>decide (d0 (dn k a b c o d q) f=1)
def vW (k:Int) (a b c:Option (List E9)) (o:Option (List E5)) (d f:Int):List Int:=(cy (au k (a.getD []))).filter fun q=>decide (f∈dn k a b c o d q)
theorem G0:(mI k a b c o d f).getD []=pP k a b c o d f:=qg
theorem M3:(vX k a b c o d f).getD []=vW k a b c o d f:=by
 unfold vX vW
 rw [qg]
 congr 1;funext q
 unfold d0
 by_cases h:f∈dn k a b c o d q
 ·simp only [h,T6,T8];split<;>rfl
 ·simp [h]
include ha hb hc ho
theorem s33:FN (n+9) 33 [d9 a,d9 b,d9 c,d5 o,il p,il f,il d,il k]=if aQ (aA a b c o) true true 1 f [d,k]=0 then some (0,[.d (dI (bx (pP k a b c o d f))),.d (il 0)]) else some (0,[.d (dI none),.d (il (aQ (aA a b c o) true true 1 f [d,k]))]):=by
 rw [FS,O8]
 have h76:=s76 (n+2) 1 f d k a b c o ha hb hc ho
 simp only [G33,ah,aK,s77,ab,ac,ag,T6,T0,T9,h76,ae]
 by_cases he:aQ (aA a b c o) true true 1 f [d,k]=0
 ·rw [T1 he,T1 he]
  have g:=(eC (bU he)).cnt k
  have hla:=g.la
  have hlp:=eb (au k (a.getD []))
  have h31:=s31 (n+6) (bx (au k (a.getD []))) (d9 (bx (au k (b.getD [])))) (d9 (bx (au k (c.getD [])))) (d5 (bx (dj k (o.getD [])))) (by rw [aJ];omega)
  rw [aJ] at h31
  simp only [ab,ac,ag,aL,X5,Tx,Tk,aa,T0,T9,h31,cA,aJ,aD,l33 n f d k p (c5 he).1 g (cy (au k (a.getD []))) (by omega)]
  exact EY (R:=fun x=>some (0,[.d x,.d (il 0)])) (by simp) (by intros;simp)
 ·rw [T5 he,T5 he]
  simp only [pf,ab,ac,ag,aL,aa]
  rw [T1 (by simpa using he)]
  simp [dI,dR]
theorem s35:FN (n+9) 35 [d9 a,d9 b,d9 c,d5 o,il p,il f,il d,il k]=if aQ (aA a b c o) true true 1 f [d,k]=0 then some (0,[.d (dI (bx (vW k a b c o d f))),.d (il 0)]) else some (0,[.d (dI none),.d (il (aQ (aA a b c o) true true 1 f [d,k]))]):=by
 rw [FS,O7]
 have h76:=s76 (n+2) 1 f d k a b c o ha hb hc ho
 simp only [G35,ah,aK,s77,ab,ac,ag,T6,T0,T9,h76,ae]
 by_cases he:aQ (aA a b c o) true true 1 f [d,k]=0
 ·rw [T1 he,T1 he]
  have g:=(eC (bU he)).cnt k
  have hla:=g.la
  have hlp:=eb (au k (a.getD []))
  have h31:=s31 (n+6) (bx (au k (a.getD []))) (d9 (bx (au k (b.getD [])))) (d9 (bx (au k (c.getD [])))) (d5 (bx (dj k (o.getD [])))) (by rw [aJ];omega)
  rw [aJ] at h31
  simp only [ab,ac,ag,aL,X5,Tx,Tk,aa,T0,T9,h31,cA,aJ,aD,l35 n f d k p (c5 he).1 g (cy (au k (a.getD []))) (by omega)]
  exact EY (R:=fun x=>some (0,[.d x,.d (il 0)])) (by simp) (by intros;simp)
 ·rw [T5 he,T5 he]
  simp only [pf,ab,ac,ag,aL,aa]
  rw [T1 (by simpa using he)]
  simp [dI,dR]
theorem s36:FN (n+10) 36 [d9 a,d9 b,d9 c,d5 o,il p,il f,il d,il k]=if aQ (aA a b c o) true true 1 f [d,k]=0 then some (0,[.d (il ((pP k a b c o d f).length:Int)),.d (il ((vW k a b c o d f).length:Int)),.d (il 0)]) else some (0,[.d (il 0),.d (il 0),.d (il (aQ (aA a b c o) true true 1 f [d,k]))]):=by
 rw [FS,O6]
 simp only [G36,ah,s33 n p f d k a b c o ha hb hc ho,s35 n p f d k a b c o ha hb hc ho]
 by_cases he:aQ (aA a b c o) true true 1 f [d,k]=0
 ·rw [T1 he,T1 he,T1 he]
  simp only [ab,ac,ag,cA,aJ,ao]
 ·rw [T5 he,T5 he,T5 he]
  simp only [ab,ac,ag,cA,Vu,Td,ao]
  rfl
end
end
section
open Go.Shelf
set_option maxRecDepth 100000
def rho:Ren:=⟨fun x=>if x=21 then 159 else if x=27 then 212 else if x=28 then 213 else if x=35 then 217 else if x=39 then 220 else 0,fun x=>if x=22 then 30 else x,fun x=>x⟩
theorem lays21:Lays2.n21 Tryz.prog rho where
 mixed:=by kernel_rfl
 f21:=by kernel_rfl
 f27:=by kernel_rfl
 f28:=by kernel_rfl
 f35:=by kernel_rfl
 f39:=by kernel_rfl
 t0:=by kernel_rfl
 a0:=fun w=>by kernel_rfl
 z0:=fun w=>by kernel_rfl
 v0:=fun w=>by kernel_rfl
 t3:=by kernel_rfl
 a3:=fun w=>by kernel_rfl
 z3:=fun w=>by kernel_rfl
 v3:=fun w=>by kernel_rfl
 t4:=by kernel_rfl
 a4:=fun w=>by kernel_rfl
 z4:=fun w=>by kernel_rfl
 v4:=fun w=>by kernel_rfl
 t22:=by kernel_rfl
 a22:=fun w=>by kernel_rfl
 z22:=fun w=>by kernel_rfl
 v22:=fun w=>by kernel_rfl
 i3:=by kernel_rfl
theorem Lk:rY Tryz.prog (di tb Tryz.prog):=by
 intro f p h
 by_cases hf:f=159
 ·subst hf
  have e:(di tb Tryz.prog).sp 159=some (1,3,8):=by kernel_rfl
  rw [e] at h
  cases h
  exact Et lays21
 ·exfalso
  have e:(di tb Tryz.prog).sp f=none:=by
   show spT f=none
   unfold spT
   split
   ·exact absurd rfl hf
   ·rfl
  rw [e] at h
  cases h
end
end Go.VE
