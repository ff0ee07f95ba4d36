/- Bell: Serve, by the reference: all fields. -/
import Derived.Test.YtaagapoglhndjaaGreatDoorMg4
namespace Go.VE
open Go.RowKit Go.Proofs
section
set_option maxRecDepth 100000
theorem pN (me:Int) (e:aT) (f:Fld):(eX me e f).length≤6:=by
 unfold eX
 split
 ·simp
 ·rw [K5];exact Tk _ (List.range 6)
def uu {α:Type} (g:α→List aY) (l:List α) (i:Nat):Rr:=((l[i]?).elim [] g).map rS
theorem rR {α:Type} (g:α→List aY):∀ l:List α,(List.range l.length).flatMap (uu g l)=(l.flatMap g).map rS
 | []=>rfl
 | a::t=>by
  have:=rR g t
  rw [Jy,List.range_succ_eq_map,List.flatMap_cons,List.flatMap_map,List.flatMap_cons,Mm,← this]
  rfl
theorem ut {α:Type} {g:α→List aY} {l:List α} {i:Nat} {e:α} (h:l[i]?=some e):uu g l i=(g e).map rS:=by simp [uu,h]
def Ca (me:Int) (ss:List aY) (e:aT):List aY:=eX me e (aI me e fd0 ss).1
theorem l26_2 (n:Nat) {me h:Int} (b:Option (List aT)) (o:Option (List aY)) (h1:bS me (b.getD []) (o.getD []) h=true) (c3 z1 z2:D) :
  bh [wu (RP (n+7)),wq (RP (n+7))] M0 0 [.d (il me),.d (dB b),.d (dS o),.d c3,.d (il 0),.d z1,.d z2] =
   eD (some (0,[.d (il me),.d (dB b),.d (dS o),.d c3,.d z1,.d z2])) (fun acc=>some (1,[.d (il me),.d (dB b),.d (dS o),.d c3,.n acc.length,.n acc.length,.r acc,.d z1,.d z2])) ((gB me (b.getD []) (o.getD [])).map rS):=by
 have hb4:=cU h1
 have hl:=du h1
 have h66:=fW h1
 have hm:=jR h1
 have hW:=h1
 rw [gL] at hW
 have hok:=(dF hW).2.2
 have:=BH (b.getD []).length 6 (by omega) (uu (Ca me (o.getD [])) (b.getD [])) (fun i=>by
   unfold uu
   cases (b.getD [])[i]? with
   | none=>simp
   | some e=>rw [K5];exact pN ..) (wu (RP (n+7))) (wq (RP (n+7)))
  (fun i=>[.d (il me),.d (dB b),.d (dS o),.d c3,.d (il i),.d z1,.d z2]) (fun i acc=>[.d (il me),.d (dB b),.d (dS o),.d c3,.n acc.length,.n acc.length,.d (il i),.r acc,.d z1,.d z2])
  (some (0,[.d (il me),.d (dB b),.d (dS o),.d c3,.d z1,.d z2])) (fun acc=>some (1,[.d (il me),.d (dB b),.d (dS o),.d c3,.n acc.length,.n acc.length,.r acc,.d z1,.d z2])) ?_ ?_ ?_ ?_
 ·rw [rR] at this
  exact this
 ·intro k;simp [wu,b7]
 ·intro k a t _;simp [wq,b7]
 ·intro i k hi hw
  obtain ⟨e,he⟩:∃ e,(b.getD [])[i]?=some e:=⟨_,Jz hi⟩
  have h6:=h66 e (Ka he)
  have hlt':(i:Int) < ((b.getD []).length:Int):=by omega
  have h75:=BK (n+1) e h6 hm o (by omega) hok
  have hr:nG (aI me e fd0 (o.getD [])).1:=jt _ _ hok Ch
  rw [ut he,Ca]
  generalize (aI me e fd0 (o.getD [])).1=f at h75 hr ⊢
  have h26:=l26_0 (n+2) e h6 hm f hr (dB b) (dS o) c3 (il i) z1 z2
  simp only [dY,K2,K7,K0,Kb] at h75 h26
  simp only [wu,ae,aj,b7,aB,hlt',Jt,ac,Jv,bO he,eC,fL,an,h75,ab,bf,ah]
  rw [h26]
  cases eX me e f with
  | nil=>simp only [Kb,eD,ab,ae,aj,aF,hw,kW,b5]
  | cons a t=>simp only [K0,eD,bH,ae,aj,aw,ax,av,aA,aF,hw,kW,b5,Jy]
 ·intro i k a t hi ha hw
  obtain ⟨e,he⟩:∃ e,(b.getD [])[i]?=some e:=⟨_,Jz hi⟩
  have h6:=h66 e (Ka he)
  have hlt':(i:Int) < ((b.getD []).length:Int):=by omega
  have h75:=BK (n+1) e h6 hm o (by omega) hok
  have hr:nG (aI me e fd0 (o.getD [])).1:=jt _ _ hok Ch
  rw [ut he,Ca]
  generalize (aI me e fd0 (o.getD [])).1=f at h75 hr ⊢
  have h26:=l26_3 (n+2) e h6 hm f hr (dB b) (dS o) c3 (il i) z1 z2 (a::t) (by omega)
  simp only [dY,K2,K7,K0,Kb] at h75 h26
  simp only [wq,ae,aj,aw,ax,av,aA,b7,aB,hlt',Jt,ac,Jv,bO he,eC,fL,an,h75,ab,bf,ah]
  rw [h26]
  simp only [ab,ae,aj,aw,ax,av,aA,aF,hw,b5,K2]
theorem Ax {me h:Int} {bs:List aT} {ss:List aY} (_:bS me bs ss h=true):gz (gB me bs ss)=false:=by
 unfold gz
 rw [List.any_eq_false]
 intro s hs
 simp only [gB,List.mem_flatMap] at hs
 obtain ⟨e,-,hs⟩:=hs
 unfold eX at hs
 split at hs
 ·cases hs
 ·simp only [M5,M7] at hs
  obtain ⟨q,⟨-,hq⟩,rfl⟩:=hs
  simp only [kc,Js,Ju] at hq
  simp only [Ju]
  omega
theorem xo {me h:Int} {bs:List aT} {ss:List aY} (h1:bS me bs ss h=true):(gB me bs ss).length≤24:=by
 have hb4:=cU h1
 have:∀ l:List aT,(l.flatMap fun e=>eX me e (aI me e fd0 ss).1).length≤6*l.length:=by
  intro l
  induction l with
  | nil=>simp
  | cons e r ih =>
   rw [List.flatMap_cons,Kc,Jy]
   have:=pN me e (aI me e fd0 ss).1
   omega
 have:=this bs
 unfold gB
 omega
theorem s26 (n:Nat) (me h:Int) (b:Option (List aT)) (o:Option (List aY)) (hl:(o.getD []).length≤4611686018427387904) (hb:(b.getD []).length≤4611686018427387904) :
  FN (n+8) 75 [il me,dB b,dS o,il h]=if bS me (b.getD []) (o.getD []) h=true then et me h (some (b.getD [])) (o.getD []) (0,gB me (b.getD []) (o.getD [])) else eP 92:=by
 rw [FS,IM]
 simp only [G75,an,Hq _ _ _ _ _ hl hb,← gL,ab,ae,ah,br,iX _ 92 (by omega),ac,au]
 by_cases h1:bS me (b.getD []) (o.getD []) h=true
 ·have hb4:=cU h1
  have hl4:=du h1
  have h24:=xo h1
  have hno:=Ax h1
  simp only [h1,K1,Jq,Jx,Jv,bf]
  rw [l26_2 n b o h1]
  generalize gB me (b.getD []) (o.getD [])=w at h24 hno ⊢
  have hc:=s82 (n+5) me h b o (match w with | []=>none | a::t=>some (a::t)) (by omega) hl4 (by
   cases w with
   | nil=>simp
   | cons a t=>simp only [M1];omega)
  cases w with
  | nil =>
   simp only [n5,dl,T5,kQ hno] at hc
   simp only [Kb,eD,ab,ae,aj,fw,hc]
   unfold et
   simp [show ¬ (120 < (o.getD []).length) by omega]
  | cons a t =>
   have htk:((a::t).map rS).take (t.length+1)=(a::t).map rS:=Kl (by simp)
   simp only [gY,M1,kQ hno] at hc
   simp only [K0] at hc htk
   simp only [K0,eD,bH,ae,aj,aw,ax,av,aA,aQ,Jy,K5,aS,Jv,aN,htk,dt,hc]
   unfold et
   by_cases g:120 < (o.getD []).length+(t.length+1)
   ·simp [g,eP]
   ·simp [g]
 ·simp [h1,eP,dl]
end
section
set_option maxRecDepth 100000
def fF (en0:Nat→List Yr) (en1:Nat→Rr→List Yr) (i:Nat) (acc:Rr) (j:Nat):Nat×List Yr:=match acc with
 | []=>(0,en0 i)
 | a::t=>(j,en1 i (a::t))
section
variable {Fn:Nat→List D→az} {FnD:D→List Sh→List D→az} {m:Nat}
theorem dA (x y:Int) (k:D→az):(aa Fn FnD m).mm true (il x) (il y) k=k (il (max x y)):=r_mm true x y k
end
theorem qv {me a:Int} {bs:List aT} {ss:List aY} {t:ge} {j:Nat} {e:aT} (hx:dg t.1 bs=some j) (hg:bs.getD j (0,0)=e) (hh:bU e.2 a=true):da me a bs ss t=(if (fl me bs ss j).ask a.toNat < t.2.2 then [(3,t.1,a,t.2.2)] else [])++(if (fl me bs ss j).no a.toNat < t.2.1∧aK me a t.2.1=true∧(fl me bs ss j).opn=false then [(1,t.1,a,t.2.1)] else []):=by
 unfold da
 rw [hx]
 simp only [hg,hh,Jv]
 rfl
theorem Hm (n:Nat) {me h a to:Int} (b:Option (List aT)) (o:Option (List aY)) (h1:bS me (b.getD []) (o.getD []) h=true) (tl:Option (List ge)) (hpa:dR a=true) (hne:a≠me) (c3 z1 z2:D) {i:Nat} {t:ge} (hi:(tl.getD [])[i]?=some t) (hlti:(i:Int) < ((tl.getD []).length:Int)) (hw:IntKind.i64.wrap ((i:Int)+1)=(i:Int)+1) :
  ∃ (l:List aY) (j:Nat),(j=1∨j=2)∧l=da me a (b.getD []) (o.getD []) t∧∀ k:Nat→List Yr→az,iG (RP (n+7)) k [.d (il me),.d (dB b),.d (dS o),.d c3,.d (il a),.d (il to),.d (dT tl),.d (il i),.d z1,.d z2]=k (fF (fun i=>[.d (il me),.d (dB b),.d (dS o),.d c3,.d (il a),.d (il to),.d (dT tl),.d (il i),.d z1,.d z2]) (fun i acc=>[.d (il me),.d (dB b),.d (dS o),.d c3,.d (il a),.d (il to),.d (dT tl),.n acc.length,.n acc.length,.d (il i),.r acc,.d z1,.d z2]) (i+1) (([]:Rr)++l.map rS) j).1 (fF (fun i=>[.d (il me),.d (dB b),.d (dS o),.d c3,.d (il a),.d (il to),.d (dT tl),.d (il i),.d z1,.d z2]) (fun i acc=>[.d (il me),.d (dB b),.d (dS o),.d c3,.d (il a),.d (il to),.d (dT tl),.n acc.length,.n acc.length,.d (il i),.r acc,.d z1,.d z2]) (i+1) (([]:Rr)++l.map rS) j).2:=by
 have hbb:(b.getD []).length≤4611686018427387904:=by have:=cU h1;omega
 have hl:=du h1
 have hm:=jR h1
 have hlt:=bP hpa
 have hW:=h1
 rw [gL] at hW
 have hok:=(dF hW).2.2
 have f1:=nV (a:=0) (b:=1) (c:=32) (by omega) (by omega) (by omega)
 have f2:=nV (a:=1) (b:=1) (c:=32) (by omega) (by omega) (by omega)
 cases hx:dg t.1 (b.getD []) with
 | none =>
  have hT:da me a (b.getD []) (o.getD []) t=[]:=by unfold da;rw [hx]
  have hneg:oE t.1 (b.getD []) < 0:=cR.2 hx
  refine ⟨_,1,.inl rfl,rfl,fun k=>?_⟩
  rw [hT]
  simp only [iG,ae,aj,b7,aB,hlti,Jt,ac,Jv,eh hi,kr,an,lD _ _ hbb,ab,hneg,ah,aF,hw,Kb,Kj,fF,b5]
 | some j =>
  obtain ⟨e,he,hfld,hg,hj⟩:=eg hx
  have h6:=fW h1 e (Ka he)
  have hnn:¬ ((j:Int) < 0):=by omega
  have hix:oE t.1 (b.getD [])=(j:Int):=im hx
  have hmax:max (j:Int) 0=(j:Int):=by omega
  cases hh:bU e.2 a with
  | false =>
   have hT:da me a (b.getD []) (o.getD []) t=[]:=by unfold da;rw [hx];simp [he,hh]
   refine ⟨_,1,.inl rfl,rfl,fun k=>?_⟩
   rw [hT]
   simp only [iG,ae,aj,b7,aB,hlti,Jt,ac,Jv,eh hi,kr,an,lD _ _ hbb,ab,hnn,Jw,Jq,Jx,hix,ah,dA,hmax,bO he,eC,fL,jE _ _ h6,hh,aJ,M6,aF,hw,Kb,Kj,fF,b5]
  | true =>
   have hT:=qv (me:=me) (ss:=o.getD []) hx hg hh
   have h75:=BK (n+1) e h6 hm o (by omega) hok
   rw [show (aI me e fd0 (o.getD [])).1=fl me (b.getD []) (o.getD []) j by unfold fl;rw [hg]] at h75
   rw [hT]
   generalize fl me (b.getD []) (o.getD []) j=f at h75 ⊢
   have hu:∀ q:Nat,(RP (n+7)).updN a.toNat q (il t.2.1) (il (f.no q))=il (cd f.no a.toNat t.2.1 q):=fun q=>by rw [iU,tF];rfl
   have ha':((a.toNat:Nat):Int)=a:=by have:=(bn.1 hpa).1;omega
   have h88:FN (n+7) 106 [il e.1,il e.2,il (cd f.no a.toNat t.2.1 0),il (cd f.no a.toNat t.2.1 1),il (cd f.no a.toNat t.2.1 2),il (cd f.no a.toNat t.2.1 3),il (cd f.no a.toNat t.2.1 4),il (cd f.no a.toNat t.2.1 5),bl (f.af 0),bl (f.af 1),bl (f.af 2),bl (f.af 3),bl (f.af 4),bl (f.af 5),il (gK me f 0),il (gK me f 1),il (gK me f 2),il (gK me f 3),il (gK me f 4),il (gK me f 5),bl f.opn,il me,il ((a.toNat:Nat):Int)]=some (0,[.d (bl (aK me ((a.toNat:Nat):Int) (cd f.no a.toNat t.2.1 a.toNat)))]):=Gv (n+6) e me { f with no:=cd f.no a.toNat t.2.1 } hlt
   rw [ha',show cd f.no a.toNat t.2.1 a.toNat=t.2.1 by simp [cd]] at h88
   simp only [dY,K2,K7,K0,Kb] at h75
   by_cases w1:f.ask a.toNat < t.2.2
   ·by_cases w2:f.no a.toNat < t.2.1
    ·cases w3:aK me a t.2.1 with
     | false =>
      refine ⟨_,2,by simp,rfl,fun k=>?_⟩
      simp only [iG,hlti,hnn,hix,hh,K1,Jw,Jq,Jx,ae,aj,aw,ax,av,aA,ah,b7,aB,Jt,ac,Jv,an,ab,aJ,aC,bo hpa,aH,bC hlt,be,dh _ hlt,bz,aO,aQ,Jy,K8,K4,aS,aN,List.take,aL,Kk,aF,hw,eh hi,kr,nr,nq,eC,fL,lD _ _ hbb,jE _ _ h6,dA,hmax,bO he,h75,hu,cE hpa hne,bH,au,w1,cl,f1,f2,w2,h88,w3]
      simp [fF,rS]
     | true =>
      cases w4:f.opn with
      | true =>
       rw [w4] at h75 h88
       refine ⟨_,2,by simp,rfl,fun k=>?_⟩
       simp only [iG,hlti,hnn,hix,hh,K1,Jw,Jq,Jx,ae,aj,aw,ax,av,aA,ah,b7,aB,Jt,ac,Jv,an,ab,aJ,aC,bo hpa,aH,bC hlt,be,dh _ hlt,bz,aO,aQ,Jy,K8,K4,aS,aN,List.take,aL,Kk,aF,hw,eh hi,kr,nr,nq,eC,fL,lD _ _ hbb,jE _ _ h6,dA,hmax,bO he,h75,hu,cE hpa hne,bH,au,w1,cl,f1,f2,w2,h88,w3]
       simp [fF,rS]
      | false =>
       rw [w4] at h75 h88
       refine ⟨_,2,by simp,rfl,fun k=>?_⟩
       simp only [iG,hlti,hnn,hix,hh,K1,Jw,Jq,Jx,ae,aj,aw,ax,av,aA,ah,b7,aB,Jt,ac,Jv,an,ab,aJ,aC,bo hpa,aH,bC hlt,be,dh _ hlt,bz,aO,aQ,Jy,K8,K4,aS,aN,List.take,aL,Kk,aF,hw,eh hi,kr,nr,nq,eC,fL,lD _ _ hbb,jE _ _ h6,dA,hmax,bO he,h75,hu,cE hpa hne,bH,au,w1,cl,f1,f2,w2,h88,w3,M6]
       simp [fF,rS]
    ·refine ⟨_,2,by simp,rfl,fun k=>?_⟩
     simp only [iG,hlti,hnn,hix,hh,K1,Jw,Jq,Jx,ae,aj,aw,ax,av,aA,ah,b7,aB,Jt,ac,Jv,an,ab,aJ,aC,bo hpa,aH,bC hlt,be,dh _ hlt,bz,aO,aQ,Jy,K8,K4,aS,aN,List.take,aL,Kk,aF,hw,eh hi,kr,nr,nq,eC,fL,lD _ _ hbb,jE _ _ h6,dA,hmax,bO he,h75,hu,cE hpa hne,bH,au,w1,cl,f1,f2,w2,h88]
     simp [fF,rS]
   ·by_cases w2:f.no a.toNat < t.2.1
    ·cases w3:aK me a t.2.1 with
     | false =>
      refine ⟨_,1,by simp,rfl,fun k=>?_⟩
      simp only [iG,hlti,hnn,hix,hh,K1,Jw,Jq,Jx,ae,aj,ah,b7,aB,Jt,ac,Jv,an,ab,aJ,aC,bo hpa,aH,bC hlt,be,dh _ hlt,bz,aO,aQ,Jy,K8,K4,aS,aN,List.take,aL,Kk,aF,hw,eh hi,kr,nr,nq,eC,fL,lD _ _ hbb,jE _ _ h6,dA,hmax,bO he,h75,hu,cE hpa hne,au,w1,cl,f1,w2,h88,w3]
      simp [fF]
     | true =>
      cases w4:f.opn with
      | true =>
       rw [w4] at h75 h88
       refine ⟨_,1,by simp,rfl,fun k=>?_⟩
       simp only [iG,hlti,hnn,hix,hh,K1,Jw,Jq,Jx,ae,aj,ah,b7,aB,Jt,ac,Jv,an,ab,aJ,aC,bo hpa,aH,bC hlt,be,dh _ hlt,bz,aO,aQ,Jy,K8,K4,aS,aN,List.take,aL,Kk,aF,hw,eh hi,kr,nr,nq,eC,fL,lD _ _ hbb,jE _ _ h6,dA,hmax,bO he,h75,hu,cE hpa hne,au,w1,cl,f1,w2,h88,w3]
       simp [fF]
      | false =>
       rw [w4] at h75 h88
       refine ⟨_,1,by simp,rfl,fun k=>?_⟩
       simp only [iG,hlti,hnn,hix,hh,K1,Jw,Jq,Jx,ae,aj,ah,b7,aB,Jt,ac,Jv,an,ab,aJ,aC,bo hpa,aH,bC hlt,be,dh _ hlt,bz,aO,aQ,Jy,K8,K4,aS,aN,List.take,aL,Kk,aF,hw,eh hi,kr,nr,nq,eC,fL,lD _ _ hbb,jE _ _ h6,dA,hmax,bO he,h75,hu,cE hpa hne,au,w1,cl,f1,w2,h88,w3,M6]
       simp [fF,rS]
    ·refine ⟨_,1,by simp,rfl,fun k=>?_⟩
     simp only [iG,hlti,hnn,hix,hh,K1,Jw,Jq,Jx,ae,aj,ah,b7,aB,Jt,ac,Jv,an,ab,aJ,aC,bo hpa,aH,bC hlt,be,dh _ hlt,bz,aO,aQ,Jy,K8,K4,aS,aN,List.take,aL,Kk,aF,hw,eh hi,kr,nr,nq,eC,fL,lD _ _ hbb,jE _ _ h6,dA,hmax,bO he,h75,hu,cE hpa hne,au,w1,cl,f1,w2,h88]
     simp [fF]
theorem Hl (n:Nat) {me h a to:Int} (b:Option (List aT)) (o:Option (List aY)) (h1:bS me (b.getD []) (o.getD []) h=true) (tl:Option (List ge)) (hpa:dR a=true) (hne:a≠me) (c3 z1 z2:D) {i:Nat} {t:ge} (hi:(tl.getD [])[i]?=some t) (hlti:(i:Int) < ((tl.getD []).length:Int)) (hw:IntKind.i64.wrap ((i:Int)+1)=(i:Int)+1) (acc:Rr) (hacc:acc.length≤1000) :
  ∀ k:Nat→List Yr→az,iF (RP (n+7)) k [.d (il me),.d (dB b),.d (dS o),.d c3,.d (il a),.d (il to),.d (dT tl),.n acc.length,.n acc.length,.d (il i),.r acc,.d z1,.d z2]=k 1 ((fun (i:Nat) (acc:Rr)=>[.d (il me),.d (dB b),.d (dS o),.d c3,.d (il a),.d (il to),.d (dT tl),.n acc.length,.n acc.length,.d (il i),.r acc,.d z1,.d z2]) (i+1) (acc++(da me a (b.getD []) (o.getD []) t).map rS)):=by
 have hbb:(b.getD []).length≤4611686018427387904:=by have:=cU h1;omega
 have hl:=du h1
 have hm:=jR h1
 have hlt:=bP hpa
 have hW:=h1
 rw [gL] at hW
 have hok:=(dF hW).2.2
 have f1:=nV (a:=acc.length) (b:=1) (c:=32) (by omega) (by omega) (by omega)
 have f2:=nV (a:=acc.length+1) (b:=1) (c:=32) (by omega) (by omega) (by omega)
 have q1:acc.length≤9223372036854775806:=by omega
 have q2:acc.length+1≤9223372036854775806:=by omega
 have q3:acc.length≤9223372036854775805:=by omega
 cases hx:dg t.1 (b.getD []) with
 | none =>
  have hT:da me a (b.getD []) (o.getD []) t=[]:=by unfold da;rw [hx]
  have hneg:oE t.1 (b.getD []) < 0:=cR.2 hx
  intro k
  rw [hT]
  simp only [iF,ae,aj,aw,ax,av,aA,b7,aB,hlti,Jt,ac,Jv,eh hi,kr,an,lD _ _ hbb,ab,hneg,ah,aF,hw,Kb,Kj,b5]
 | some j =>
  obtain ⟨e,he,hfld,hg,hj⟩:=eg hx
  have h6:=fW h1 e (Ka he)
  have hnn:¬ ((j:Int) < 0):=by omega
  have hix:oE t.1 (b.getD [])=(j:Int):=im hx
  have hmax:max (j:Int) 0=(j:Int):=by omega
  cases hh:bU e.2 a with
  | false =>
   have hT:da me a (b.getD []) (o.getD []) t=[]:=by unfold da;rw [hx];simp [he,hh]
   intro k
   rw [hT]
   simp only [iF,ae,aj,aw,ax,av,aA,b7,aB,hlti,Jt,ac,Jv,eh hi,kr,an,lD _ _ hbb,ab,hnn,Jw,Jq,Jx,hix,ah,dA,hmax,bO he,eC,fL,jE _ _ h6,hh,aJ,M6,aF,hw,Kb,Kj,b5]
  | true =>
   have hT:=qv (me:=me) (ss:=o.getD []) hx hg hh
   have h75:=BK (n+1) e h6 hm o (by omega) hok
   rw [show (aI me e fd0 (o.getD [])).1=fl me (b.getD []) (o.getD []) j by unfold fl;rw [hg]] at h75
   rw [hT]
   generalize fl me (b.getD []) (o.getD []) j=f at h75 ⊢
   have hu:∀ q:Nat,(RP (n+7)).updN a.toNat q (il t.2.1) (il (f.no q))=il (cd f.no a.toNat t.2.1 q):=fun q=>by rw [iU,tF];rfl
   have ha':((a.toNat:Nat):Int)=a:=by have:=(bn.1 hpa).1;omega
   have h88:FN (n+7) 106 [il e.1,il e.2,il (cd f.no a.toNat t.2.1 0),il (cd f.no a.toNat t.2.1 1),il (cd f.no a.toNat t.2.1 2),il (cd f.no a.toNat t.2.1 3),il (cd f.no a.toNat t.2.1 4),il (cd f.no a.toNat t.2.1 5),bl (f.af 0),bl (f.af 1),bl (f.af 2),bl (f.af 3),bl (f.af 4),bl (f.af 5),il (gK me f 0),il (gK me f 1),il (gK me f 2),il (gK me f 3),il (gK me f 4),il (gK me f 5),bl f.opn,il me,il ((a.toNat:Nat):Int)]=some (0,[.d (bl (aK me ((a.toNat:Nat):Int) (cd f.no a.toNat t.2.1 a.toNat)))]):=Gv (n+6) e me { f with no:=cd f.no a.toNat t.2.1 } hlt
   rw [ha',show cd f.no a.toNat t.2.1 a.toNat=t.2.1 by simp [cd]] at h88
   simp only [dY,K2,K7,K0,Kb] at h75
   by_cases w1:f.ask a.toNat < t.2.2
   ·by_cases w2:f.no a.toNat < t.2.1
    ·cases w3:aK me a t.2.1 with
     | false =>
      intro k
      simp only [iF,hlti,hnn,hix,hh,K1,Jw,Jq,Jx,ae,aj,aw,ax,av,aA,ah,b7,aB,Jt,ac,Jv,an,ab,aJ,aC,bo hpa,aH,bC hlt,be,dh _ hlt,bz,aO,aQ,Jy,K8,K4,aS,aN,List.take,aL,Kk,aF,hw,eh hi,kr,nr,nq,eC,fL,lD _ _ hbb,jE _ _ h6,dA,hmax,bO he,h75,hu,cE hpa hne,au,w1,bp,f1,f2,w2,h88,w3]
      simp [rS]
     | true =>
      cases w4:f.opn with
      | true =>
       rw [w4] at h75 h88
       intro k
       simp only [iF,hlti,hnn,hix,hh,K1,Jw,Jq,Jx,ae,aj,aw,ax,av,aA,ah,b7,aB,Jt,ac,Jv,an,ab,aJ,aC,bo hpa,aH,bC hlt,be,dh _ hlt,bz,aO,aQ,Jy,K8,K4,aS,aN,List.take,aL,Kk,aF,hw,eh hi,kr,nr,nq,eC,fL,lD _ _ hbb,jE _ _ h6,dA,hmax,bO he,h75,hu,cE hpa hne,au,w1,bp,f1,f2,w2,h88,w3]
       simp [rS]
      | false =>
       rw [w4] at h75 h88
       intro k
       simp only [iF,hlti,hnn,hix,hh,K1,Jw,Jq,Jx,ae,aj,aw,ax,av,aA,ah,b7,aB,Jt,ac,Jv,an,ab,aJ,aC,bo hpa,aH,bC hlt,be,dh _ hlt,bz,aO,aQ,Jy,K8,K4,aS,aN,List.take,aL,Kk,aF,hw,eh hi,kr,nr,nq,eC,fL,lD _ _ hbb,jE _ _ h6,dA,hmax,bO he,h75,hu,cE hpa hne,au,w1,bp,f1,f2,w2,h88,w3,M6]
       simp [rS]
    ·intro k
     simp only [iF,hlti,hnn,hix,hh,K1,Jw,Jq,Jx,ae,aj,aw,ax,av,aA,ah,b7,aB,Jt,ac,Jv,an,ab,aJ,aC,bo hpa,aH,bC hlt,be,dh _ hlt,bz,aO,aQ,Jy,K8,K4,aS,aN,List.take,aL,Kk,aF,hw,eh hi,kr,nr,nq,eC,fL,lD _ _ hbb,jE _ _ h6,dA,hmax,bO he,h75,hu,cE hpa hne,au,w1,bp,f1,f2,w2,h88]
     simp [rS]
   ·by_cases w2:f.no a.toNat < t.2.1
    ·cases w3:aK me a t.2.1 with
     | false =>
      intro k
      simp only [iF,hlti,hnn,hix,hh,K1,Jw,Jq,Jx,ae,aj,aw,ax,av,aA,ah,b7,aB,Jt,ac,Jv,an,ab,aJ,aC,bo hpa,aH,bC hlt,be,dh _ hlt,bz,aO,aQ,Jy,K8,K4,aS,aN,List.take,aL,Kk,aF,hw,eh hi,kr,nr,nq,eC,fL,lD _ _ hbb,jE _ _ h6,dA,hmax,bO he,h75,hu,cE hpa hne,au,w1,bp,f1,w2,h88,w3]
      simp []
     | true =>
      cases w4:f.opn with
      | true =>
       rw [w4] at h75 h88
       intro k
       simp only [iF,hlti,hnn,hix,hh,K1,Jw,Jq,Jx,ae,aj,aw,ax,av,aA,ah,b7,aB,Jt,ac,Jv,an,ab,aJ,aC,bo hpa,aH,bC hlt,be,dh _ hlt,bz,aO,aQ,Jy,K8,K4,aS,aN,List.take,aL,Kk,aF,hw,eh hi,kr,nr,nq,eC,fL,lD _ _ hbb,jE _ _ h6,dA,hmax,bO he,h75,hu,cE hpa hne,au,w1,bp,f1,w2,h88,w3]
       simp []
      | false =>
       rw [w4] at h75 h88
       intro k
       simp only [iF,hlti,hnn,hix,hh,K1,Jw,Jq,Jx,ae,aj,aw,ax,av,aA,ah,b7,aB,Jt,ac,Jv,an,ab,aJ,aC,bo hpa,aH,bC hlt,be,dh _ hlt,bz,aO,aQ,Jy,K8,K4,aS,aN,List.take,aL,Kk,aF,hw,eh hi,kr,nr,nq,eC,fL,lD _ _ hbb,jE _ _ h6,dA,hmax,bO he,h75,hu,cE hpa hne,au,w1,bp,f1,w2,h88,w3,M6]
       simp [rS]
    ·intro k
     simp only [iF,hlti,hnn,hix,hh,K1,Jw,Jq,Jx,ae,aj,aw,ax,av,aA,ah,b7,aB,Jt,ac,Jv,an,ab,aJ,aC,bo hpa,aH,bC hlt,be,dh _ hlt,bz,aO,aQ,Jy,K8,K4,aS,aN,List.take,aL,Kk,aF,hw,eh hi,kr,nr,nq,eC,fL,lD _ _ hbb,jE _ _ h6,dA,hmax,bO he,h75,hu,cE hpa hne,au,w1,bp,f1,w2,h88]
     simp []
theorem Hk (n:Nat) {me h a to:Int} (b:Option (List aT)) (o:Option (List aY)) (h1:bS me (b.getD []) (o.getD []) h=true) (tl:Option (List ge)) (hpa:dR a=true) (hne:a≠me) (c3 z1 z2:D) {i:Nat} {t:ge} (hi:(tl.getD [])[i]?=some t) (hlti:(i:Int) < ((tl.getD []).length:Int)) (hw:IntKind.i64.wrap ((i:Int)+1)=(i:Int)+1) (acc:Rr) (hacc:acc.length≤1000) :
  ∀ k:Nat→List Yr→az,iE (RP (n+7)) k [.d (il me),.d (dB b),.d (dS o),.d c3,.d (il a),.d (il to),.d (dT tl),.n acc.length,.n acc.length,.d (il i),.r acc,.d z1,.d z2]=k 2 ((fun (i:Nat) (acc:Rr)=>[.d (il me),.d (dB b),.d (dS o),.d c3,.d (il a),.d (il to),.d (dT tl),.n acc.length,.n acc.length,.d (il i),.r acc,.d z1,.d z2]) (i+1) (acc++(da me a (b.getD []) (o.getD []) t).map rS)):=by
 have hbb:(b.getD []).length≤4611686018427387904:=by have:=cU h1;omega
 have hl:=du h1
 have hm:=jR h1
 have hlt:=bP hpa
 have hW:=h1
 rw [gL] at hW
 have hok:=(dF hW).2.2
 have f1:=nV (a:=acc.length) (b:=1) (c:=32) (by omega) (by omega) (by omega)
 have f2:=nV (a:=acc.length+1) (b:=1) (c:=32) (by omega) (by omega) (by omega)
 have q1:acc.length≤9223372036854775806:=by omega
 have q2:acc.length+1≤9223372036854775806:=by omega
 have q3:acc.length≤9223372036854775805:=by omega
 cases hx:dg t.1 (b.getD []) with
 | none =>
  have hT:da me a (b.getD []) (o.getD []) t=[]:=by unfold da;rw [hx]
  have hneg:oE t.1 (b.getD []) < 0:=cR.2 hx
  intro k
  rw [hT]
  simp only [iE,ae,aj,aw,ax,av,aA,b7,aB,hlti,Jt,ac,Jv,eh hi,kr,an,lD _ _ hbb,ab,hneg,ah,aF,hw,Kb,Kj,b5]
 | some j =>
  obtain ⟨e,he,hfld,hg,hj⟩:=eg hx
  have h6:=fW h1 e (Ka he)
  have hnn:¬ ((j:Int) < 0):=by omega
  have hix:oE t.1 (b.getD [])=(j:Int):=im hx
  have hmax:max (j:Int) 0=(j:Int):=by omega
  cases hh:bU e.2 a with
  | false =>
   have hT:da me a (b.getD []) (o.getD []) t=[]:=by unfold da;rw [hx];simp [he,hh]
   intro k
   rw [hT]
   simp only [iE,ae,aj,aw,ax,av,aA,b7,aB,hlti,Jt,ac,Jv,eh hi,kr,an,lD _ _ hbb,ab,hnn,Jw,Jq,Jx,hix,ah,dA,hmax,bO he,eC,fL,jE _ _ h6,hh,aJ,M6,aF,hw,Kb,Kj,b5]
  | true =>
   have hT:=qv (me:=me) (ss:=o.getD []) hx hg hh
   have h75:=BK (n+1) e h6 hm o (by omega) hok
   rw [show (aI me e fd0 (o.getD [])).1=fl me (b.getD []) (o.getD []) j by unfold fl;rw [hg]] at h75
   rw [hT]
   generalize fl me (b.getD []) (o.getD []) j=f at h75 ⊢
   have hu:∀ q:Nat,(RP (n+7)).updN a.toNat q (il t.2.1) (il (f.no q))=il (cd f.no a.toNat t.2.1 q):=fun q=>by rw [iU,tF];rfl
   have ha':((a.toNat:Nat):Int)=a:=by have:=(bn.1 hpa).1;omega
   have h88:FN (n+7) 106 [il e.1,il e.2,il (cd f.no a.toNat t.2.1 0),il (cd f.no a.toNat t.2.1 1),il (cd f.no a.toNat t.2.1 2),il (cd f.no a.toNat t.2.1 3),il (cd f.no a.toNat t.2.1 4),il (cd f.no a.toNat t.2.1 5),bl (f.af 0),bl (f.af 1),bl (f.af 2),bl (f.af 3),bl (f.af 4),bl (f.af 5),il (gK me f 0),il (gK me f 1),il (gK me f 2),il (gK me f 3),il (gK me f 4),il (gK me f 5),bl f.opn,il me,il ((a.toNat:Nat):Int)]=some (0,[.d (bl (aK me ((a.toNat:Nat):Int) (cd f.no a.toNat t.2.1 a.toNat)))]):=Gv (n+6) e me { f with no:=cd f.no a.toNat t.2.1 } hlt
   rw [ha',show cd f.no a.toNat t.2.1 a.toNat=t.2.1 by simp [cd]] at h88
   simp only [dY,K2,K7,K0,Kb] at h75
   by_cases w1:f.ask a.toNat < t.2.2
   ·by_cases w2:f.no a.toNat < t.2.1
    ·cases w3:aK me a t.2.1 with
     | false =>
      intro k
      simp only [iE,hlti,hnn,hix,hh,K1,Jw,Jq,Jx,ae,aj,aw,ax,av,aA,ah,b7,aB,Jt,ac,Jv,an,ab,aJ,aC,bo hpa,aH,bC hlt,be,dh _ hlt,bz,aO,aQ,Jy,K8,K4,aS,aN,List.take,aL,Kk,aF,hw,eh hi,kr,nr,nq,eC,fL,lD _ _ hbb,jE _ _ h6,dA,hmax,bO he,h75,hu,cE hpa hne,au,w1,bp,f1,f2,w2,h88,w3]
      simp [rS]
     | true =>
      cases w4:f.opn with
      | true =>
       rw [w4] at h75 h88
       intro k
       simp only [iE,hlti,hnn,hix,hh,K1,Jw,Jq,Jx,ae,aj,aw,ax,av,aA,ah,b7,aB,Jt,ac,Jv,an,ab,aJ,aC,bo hpa,aH,bC hlt,be,dh _ hlt,bz,aO,aQ,Jy,K8,K4,aS,aN,List.take,aL,Kk,aF,hw,eh hi,kr,nr,nq,eC,fL,lD _ _ hbb,jE _ _ h6,dA,hmax,bO he,h75,hu,cE hpa hne,au,w1,bp,f1,f2,w2,h88,w3]
       simp [rS]
      | false =>
       rw [w4] at h75 h88
       intro k
       simp only [iE,hlti,hnn,hix,hh,K1,Jw,Jq,Jx,ae,aj,aw,ax,av,aA,ah,b7,aB,Jt,ac,Jv,an,ab,aJ,aC,bo hpa,aH,bC hlt,be,dh _ hlt,bz,aO,aQ,Jy,K8,K4,aS,aN,List.take,aL,Kk,aF,hw,eh hi,kr,nr,nq,eC,fL,lD _ _ hbb,jE _ _ h6,dA,hmax,bO he,h75,hu,cE hpa hne,au,w1,bp,f1,f2,w2,h88,w3,M6]
       simp [rS]
    ·intro k
     simp only [iE,hlti,hnn,hix,hh,K1,Jw,Jq,Jx,ae,aj,aw,ax,av,aA,ah,b7,aB,Jt,ac,Jv,an,ab,aJ,aC,bo hpa,aH,bC hlt,be,dh _ hlt,bz,aO,aQ,Jy,K8,K4,aS,aN,List.take,aL,Kk,aF,hw,eh hi,kr,nr,nq,eC,fL,lD _ _ hbb,jE _ _ h6,dA,hmax,bO he,h75,hu,cE hpa hne,au,w1,bp,f1,f2,w2,h88]
     simp [rS]
   ·by_cases w2:f.no a.toNat < t.2.1
    ·cases w3:aK me a t.2.1 with
     | false =>
      intro k
      simp only [iE,hlti,hnn,hix,hh,K1,Jw,Jq,Jx,ae,aj,aw,ax,av,aA,ah,b7,aB,Jt,ac,Jv,an,ab,aJ,aC,bo hpa,aH,bC hlt,be,dh _ hlt,bz,aO,aQ,Jy,K8,K4,aS,aN,List.take,aL,Kk,aF,hw,eh hi,kr,nr,nq,eC,fL,lD _ _ hbb,jE _ _ h6,dA,hmax,bO he,h75,hu,cE hpa hne,au,w1,bp,f1,w2,h88,w3]
      simp []
     | true =>
      cases w4:f.opn with
      | true =>
       rw [w4] at h75 h88
       intro k
       simp only [iE,hlti,hnn,hix,hh,K1,Jw,Jq,Jx,ae,aj,aw,ax,av,aA,ah,b7,aB,Jt,ac,Jv,an,ab,aJ,aC,bo hpa,aH,bC hlt,be,dh _ hlt,bz,aO,aQ,Jy,K8,K4,aS,aN,List.take,aL,Kk,aF,hw,eh hi,kr,nr,nq,eC,fL,lD _ _ hbb,jE _ _ h6,dA,hmax,bO he,h75,hu,cE hpa hne,au,w1,bp,f1,w2,h88,w3]
       simp []
      | false =>
       rw [w4] at h75 h88
       intro k
       simp only [iE,hlti,hnn,hix,hh,K1,Jw,Jq,Jx,ae,aj,aw,ax,av,aA,ah,b7,aB,Jt,ac,Jv,an,ab,aJ,aC,bo hpa,aH,bC hlt,be,dh _ hlt,bz,aO,aQ,Jy,K8,K4,aS,aN,List.take,aL,Kk,aF,hw,eh hi,kr,nr,nq,eC,fL,lD _ _ hbb,jE _ _ h6,dA,hmax,bO he,h75,hu,cE hpa hne,au,w1,bp,f1,w2,h88,w3,M6]
       simp [rS]
    ·intro k
     simp only [iE,hlti,hnn,hix,hh,K1,Jw,Jq,Jx,ae,aj,aw,ax,av,aA,ah,b7,aB,Jt,ac,Jv,an,ab,aJ,aC,bo hpa,aH,bC hlt,be,dh _ hlt,bz,aO,aQ,Jy,K8,K4,aS,aN,List.take,aL,Kk,aF,hw,eh hi,kr,nr,nq,eC,fL,lD _ _ hbb,jE _ _ h6,dA,hmax,bO he,h75,hu,cE hpa hne,au,w1,bp,f1,w2,h88]
     simp []
end
section
set_option maxRecDepth 100000
theorem Ba (me a:Int) (bs:List aT) (ss:List aY) (t:ge):(da me a bs ss t).length≤2:=by
 unfold da
 split
 ·simp
 ·split
  ·exact Bb ..
  ·simp
theorem nP (me a:Int) (bs:List aT) (ss:List aY):∀ l:List ge,(bu me a bs ss l).length≤2*l.length
 | []=>by simp [bu]
 | t::r=>by
  have h1:=Ba me a bs ss t
  have h2:=nP me a bs ss r
  unfold bu at h2 ⊢
  rw [List.flatMap_cons,Kc,Jy]
  omega
theorem l28 (n:Nat) {me h a to:Int} (b:Option (List aT)) (o:Option (List aY)) (h1:bS me (b.getD []) (o.getD []) h=true) (tl:Option (List ge)) (hpa:dR a=true) (hne:a≠me) (hl4:(tl.getD []).length≤4) (c3 z1 z2:D) (k0 k1:List Yr→az) :
  (RP (n+7)).bnd (bh [iG (RP (n+7)),iF (RP (n+7)),iE (RP (n+7))] M0 0 [.d (il me),.d (dB b),.d (dS o),.d c3,.d (il a),.d (il to),.d (dT tl),.d (il 0),.d z1,.d z2]) [k0,k1,k1] =
   (RP (n+7)).bnd (eD (some (0,[.d (il me),.d (dB b),.d (dS o),.d c3,.d z1,.d z2])) (fun acc=>some (1,[.d (il me),.d (dB b),.d (dS o),.d c3,.n acc.length,.n acc.length,.r acc,.d z1,.d z2])) ((bu me a (b.getD []) (o.getD []) (tl.getD [])).map rS)) [k0,k1,k1]:=by
 have hln:∀ k:D→az,(RP (n+7)).lenD (dT tl) k=k (il (tl.getD []).length):=fun k=>b7 _ _ _ k
 have:=zj (σ:=Nat×Rr×Nat) [iG (RP (n+7)),iF (RP (n+7)),iE (RP (n+7))] (fun s=>fF (fun i=>[.d (il me),.d (dB b),.d (dS o),.d c3,.d (il a),.d (il to),.d (dT tl),.d (il i),.d z1,.d z2]) (fun i acc=>[.d (il me),.d (dB b),.d (dS o),.d c3,.d (il a),.d (il to),.d (dT tl),.n acc.length,.n acc.length,.d (il i),.r acc,.d z1,.d z2]) s.1 s.2.1 s.2.2) (fun s=>(tl.getD []).length - s.1)
  (fun s=>s.1≤(tl.getD []).length∧(s.2.2=1∨s.2.2=2)∧s.2.1=(bu me a (b.getD []) (o.getD []) ((tl.getD []).take s.1)).map rS)
  (fun out=>(RP (n+7)).bnd out [k0,k1,k1]=(RP (n+7)).bnd (eD (some (0,[.d (il me),.d (dB b),.d (dS o),.d c3,.d z1,.d z2])) (fun acc=>some (1,[.d (il me),.d (dB b),.d (dS o),.d c3,.n acc.length,.n acc.length,.r acc,.d z1,.d z2])) ((bu me a (b.getD []) (o.getD []) (tl.getD [])).map rS)) [k0,k1,k1]) ?_ M0 (0,[],1) ⟨by simp,.inl rfl,rfl⟩ (by simp only [M0];omega)
 ·exact this
 ·rintro ⟨i,acc,j⟩ k ⟨hi,hj,hacc⟩ ih
  simp only at hi hj hacc
  by_cases hN:i=(tl.getD []).length
  ·subst hN
   rw [T1] at hacc
   rw [←hacc]
   have hlt:¬ (((tl.getD []).length:Int) < ((tl.getD []).length:Int)):=by omega
   cases acc with
   | nil =>
    refine ⟨_,rfl,?_⟩
    simp only [fF,eD,iG,ae,aj,hln,aB,hlt,Jw,ac,Jq,Jx,au]
   | cons x r =>
    rcases hj with rfl | rfl
    ·refine ⟨_,rfl,?_⟩
     simp only [fF,eD,iF,ae,aj,aw,ax,av,aA,hln,aB,hlt,Jw,ac,Jq,Jx,au]
    ·refine ⟨_,rfl,?_⟩
     simp only [fF,eD,iE,ae,aj,aw,ax,av,aA,hln,aB,hlt,Jw,ac,Jq,Jx,au,bH,CE]
  ·have hi':i < (tl.getD []).length:=by omega
   have hw:=dX hi' (by omega)
   obtain ⟨t,ht⟩:∃ t,(tl.getD [])[i]?=some t:=⟨_,Jz hi'⟩
   have hlti:(i:Int) < ((tl.getD []).length:Int):=by omega
   have hta:bu me a (b.getD []) (o.getD []) ((tl.getD []).take (i+1))=bu me a (b.getD []) (o.getD []) ((tl.getD []).take i)++da me a (b.getD []) (o.getD []) t:=by
    rw [hH ht,bu,List.flatMap_append]
    simp [bu]
   have hal:acc.length≤1000:=by
    have:=nP me a (b.getD []) (o.getD []) ((tl.getD []).take i)
    have h2:((tl.getD []).take i).length≤4:=by rw [M4];omega
    rw [hacc,K5]
    omega
   have ihj:=fun j' (hj':j'=1∨j'=2)=>ih (i+1,acc++(da me a (b.getD []) (o.getD []) t).map rS,j') ⟨hi',hj',by simp only;rw [hta,Mm,hacc]⟩ (by simp only;omega)
   cases acc with
   | nil =>
    obtain ⟨l,j',hj',rfl,hk⟩:=Hm n b o h1 tl (to:=to) hpa hne c3 z1 z2 ht hlti hw
    refine ⟨_,rfl,?_⟩
    have hk':=hk k
    simp only [fF] at hk' ⊢
    rw [hk']
    exact ihj j' hj'
   | cons x r =>
    rcases hj with rfl | rfl
    ·refine ⟨_,rfl,?_⟩
     have hk':=Hl n b o h1 tl (to:=to) hpa hne c3 z1 z2 ht hlti hw (x::r) hal k
     simp only [fF] at hk' ⊢
     rw [hk']
     exact ihj 1 (.inl rfl)
    ·refine ⟨_,rfl,?_⟩
     have hk':=Hk n b o h1 tl (to:=to) hpa hne c3 z1 z2 ht hlti hw (x::r) hal k
     simp only [fF] at hk' ⊢
     rw [hk']
     exact ihj 2 (.inr rfl)
theorem De {me a to:Int} {bs:List aT} {ss:List aY} {l:List ge} (h2:gm a to l=true):gz (bu me a bs ss l)=false:=by
 simp only [gm,Js] at h2
 unfold gz
 rw [List.any_eq_false]
 intro s hs
 simp only [bu,List.mem_flatMap] at hs
 obtain ⟨t,ht,hs⟩:=hs
 have htd:=(jS h2.2.2.2.2 t ht).1
 simp only [jQ,eZ,Js,Ju] at htd
 have hx:s.2.2.2≤99999:=by
  unfold da at hs
  split at hs
  ·cases hs
  ·split at hs
   ·unfold gq at hs
    rw [Kp] at hs
    rcases hs with hs | hs
    ·split at hs
     ·rw [M2] at hs;subst hs;exact htd.2.2.2
     ·cases hs
    ·split at hs
     ·rw [M2] at hs;subst hs;exact htd.2.1.2
     ·cases hs
   ·cases hs
 simp only [Ju]
 omega
theorem s28 (n:Nat) (me h a to:Int) (b:Option (List aT)) (o:Option (List aY)) (t:Option (List ge)) (hl:(o.getD []).length≤4611686018427387904) (hb:(b.getD []).length≤4611686018427387904) (ht:(t.getD []).length≤4611686018427387904) :
  FN (n+8) 80 [il me,dB b,dS o,il h,il a,il to,dT t]=if bS me (b.getD []) (o.getD []) h=true then (if gm a to (t.getD [])=true∧to=me then et me h (some (b.getD [])) (o.getD []) (0,bu me a (b.getD []) (o.getD []) (t.getD [])) else eP 93) else eP 92:=by
 rw [FS,IH]
 simp only [G80,an,Hq _ _ _ _ _ hl hb,← gL,s17 _ _ _ _ ht,ab,ae,ah,br,iX _ 92 (by omega),iX _ 93 (by omega),ac,au]
 by_cases h1:bS me (b.getD []) (o.getD []) h=true
 ·by_cases h2:gm a to (t.getD [])=true
  ·by_cases h3:to=me
   ·have hb4:=cU h1
    have hl4:=du h1
    have hno:=De (me:=me) (bs:=b.getD []) (ss:=o.getD []) h2
    have h2':=h2
    simp only [gm,Js,Ju,Md,Mk] at h2'
    have h8:=nP me a (b.getD []) (o.getD []) (t.getD [])
    have h24:(bu me a (b.getD []) (o.getD []) (t.getD [])).length≤8:=by omega
    have h2m:gm a me (t.getD [])=true:=h3 ▸ h2
    simp only [h1,h3,h2m,My,Mf,Jw,K1,Jq,Jx,Jv,Kk,bf]
    rw [l28 n b o h1 t h2'.1 (h3 ▸ h2'.2.2.1) h2'.2.2.2.1]
    generalize bu me a (b.getD []) (o.getD []) (t.getD [])=w at h24 hno ⊢
    have hc:=s82 (n+5) me h b o (match w with | []=>none | a::t=>some (a::t)) (by omega) hl4 (by
     cases w with
     | nil=>simp
     | cons a t=>simp only [M1];omega)
    cases w with
    | nil =>
     simp only [n5,dl,T5,kQ hno] at hc
     simp only [Kb,eD,ab,ae,aj,fw,hc]
     unfold et
     simp [show ¬ (120 < (o.getD []).length) by omega]
    | cons x t =>
     have htk:((x::t).map rS).take (t.length+1)=(x::t).map rS:=Kl (by simp)
     simp only [gY,M1,kQ hno] at hc
     simp only [K0] at hc htk
     simp only [K0,eD,bH,ae,aj,aw,ax,av,aA,aQ,Jy,K5,aS,Jv,aN,htk,dt,hc]
     unfold et
     by_cases g:120 < (o.getD []).length+(t.length+1)
     ·simp [g,eP]
     ·simp [g]
   ·simp [h1,h2,h3,eP,dl]
  ·simp [h1,h2,eP,dl]
 ·simp [h1,eP,dl]
end
section
def bB (me:Int) (f:Fld) (o:Nat):Bool:=!decide ((o:Int)=me)&&(decide (f.no o≠0)&&!cq me o f)
def bG (me:Int) (f:Fld) (o:Nat):Bool:=!decide ((o:Int)=me)&&(decide (f.no o≠0)&&cq me o f)
def cu (me:Int) (f:Fld) (o:Nat):Bool:=!decide ((o:Int)=me)&&decide (f.ask o≠0)
def fI (fld:Int) (f:Fld) (o:Nat):aY:=(1,fld,(o:Int),f.no o)
def kn (fld:Int) (f:Fld) (o:Nat):aY:=(3,fld,(o:Int),f.ask o)
def bN (me fld:Int) (f:Fld) (i:Nat):List aY:=((rg i).filter (bB me f)).map (fI fld f)
def cp (me fld:Int) (f:Fld) (i:Nat):List aY:=((rg i).filter (bG me f)).map (fI fld f)
def cG (me fld:Int) (f:Fld) (i:Nat):List aY:=((rg i).filter (cu me f)).map (kn fld f)
def iC (me fld:Int) (f:Fld):List aY:=bN me fld f 0++((if f.wants≠0 then [(2,fld,0,f.wants)] else [])++(cp me fld f 0++(cG me fld f 0++(if f.opn=true then [(4,fld,0,1)] else []))))
def dU (me:Int) (bs:List aT) (ss:List aY):List aY:=bs.flatMap fun e=>iC me e.1 (aI me e fd0 ss).1
theorem Hu (i:Nat):(rg i).length=6 - i:=by simp [rg]
theorem gV (i:Nat) (p:Nat→Bool) (g:Nat→aY):(((rg i).filter p).map g).length≤6:=by
 rw [K5]
 exact Tb (Tk _ _) (by rw [Hu];omega)
theorem o8 (me fld:Int) (f:Fld):(iC me fld f).length≤20:=by
 have h1:=gV 0 (bB me f) (fI fld f)
 have h2:=gV 0 (bG me f) (fI fld f)
 have h3:=gV 0 (cu me f) (kn fld f)
 have h4:(if f.wants≠0 then [(2,fld,0,f.wants)] else []:List aY).length≤1:=by split<;>simp
 have h5:(if f.opn=true then [(4,fld,0,1)] else []:List aY).length≤1:=by split<;>simp
 simp only [iC,bN,cp,cG,Kc]
 omega
theorem uC {me:Int} {ss:List aY}:∀ bs:List aT,(dU me bs ss).length≤20*bs.length
 | []=>by simp [dU]
 | e::r=>by
  have h1:=o8 me e.1 (aI me e fd0 ss).1
  have h2:=uC (me:=me) (ss:=ss) r
  simp only [dU,List.flatMap_cons,Kc,Jy] at h2 ⊢
  omega
theorem jz {a b c:Nat} (ha:a≤120000) (hb:b≤120000) (hc:c≤32):(a+b)*c≤140737488355328∧a+b≤9223372036854775807:=nV ha hb hc
end
section
set_option maxRecDepth 100000
theorem jy {i:Nat} (h:i < 6) (p:Nat→Bool) (g:Nat→aY):((rg i).filter p).map g=(if p i=true then [g i] else [])++((rg (i+1)).filter p).map g:=by
 rw [p8 h,V0]
 split<;>simp
theorem l98 (n:Nat) (b:aT) (me fld:Int) (hm:dR me=true) (f:Fld) :
  bh [qZ (RP (n+2))] M0 0 (.d (il me)::.d (il fld)::.n 0::.n 0::.n 0::.d (il 0)::.r []::.r []::.r []::(dY b me f).map .d) =
   some (0,.d (il me)::.d (il fld)::.n (bN me fld f 0).length::.n (cp me fld f 0).length::.n (cG me fld f 0).length::.r ((cG me fld f 0).map rS)::.r ((cp me fld f 0).map rS)::.r ((bN me fld f 0).map rS)::(dY b me f).map .d):=by
 have:=ew (β:=List aY×List aY×List aY) 6 (by omega) (qZ (RP (n+2)))
  (fun i g=>.d (il me)::.d (il fld)::.n g.2.2.length::.n g.2.1.length::.n g.1.length::.d (il i)::.r (g.1.map rS)::.r (g.2.1.map rS)::.r (g.2.2.map rS)::(dY b me f).map .d)
  (fun i g=>g.1.length≤i∧g.2.1.length≤i∧g.2.2.length≤i)
  (fun i g=>some (0,.d (il me)::.d (il fld)::.n (g.2.2++bN me fld f i).length::.n (g.2.1++cp me fld f i).length::.n (g.1++cG me fld f i).length::.r ((g.1++cG me fld f i).map rS)::.r ((g.2.1++cp me fld f i).map rS)::.r ((g.2.2++bN me fld f i).map rS)::(dY b me f).map .d)) ?_ ?_ ([],[],[]) ⟨by simp,by simp,by simp⟩
 ·simpa using this
 ·intro g k _
  simp [qZ,dY,bN,cp,cG,rg]
 ·rintro i ⟨ga,gc,gd⟩ k hi ⟨h1,h2,h3⟩ hw ih
  simp only at h1 h2 h3
  have hp:dR (i:Int)=true:=bn.2 (by omega)
  have h89:=s89 n b me hm f hp
  simp only [dY,K2,K7] at h89
  have fa:=jz (a:=ga.length) (b:=1) (c:=32) (by omega) (by omega) (by omega)
  have fc:=jz (a:=gc.length) (b:=1) (c:=32) (by omega) (by omega) (by omega)
  have fd:=jz (a:=gd.length) (b:=1) (c:=32) (by omega) (by omega) (by omega)
  have hwn:(i:Int)≠me→gK me f i=f.ask i:=fun h=>by simp [gK,h]
  have hd:bN me fld f i=(if bB me f i=true then [fI fld f i] else [])++bN me fld f (i+1):=jy hi _ _
  have hcl:cp me fld f i=(if bG me f i=true then [fI fld f i] else [])++cp me fld f (i+1):=jy hi _ _
  have has:cG me fld f i=(if cu me f i=true then [kn fld f i] else [])++cG me fld f (i+1):=jy hi _ _
  have one:∀ (c:Bool) (x:aY),(if c=true then [x] else []).length≤1:=fun c x=>by cases c<;>simp
  have ih0:=ih (ga++(if cu me f i=true then [kn fld f i] else []),gc++(if bG me f i=true then [fI fld f i] else []),gd++(if bB me f i=true then [fI fld f i] else [])) (by
   have o1:=one (cu me f i) (kn fld f i)
   have o2:=one (bG me f i) (fI fld f i)
   have o3:=one (bB me f i) (fI fld f i)
   simp only [Kc]
   omega)
  rw [hd,hcl,has]
  simp only [←Kh]
  rw [←ih0]
  simp only [dY,K0,Kb]
  simp only [qZ,ae,aj,aw,ax,av,aA,ah,aB,show ((i:Int) < 6) by omega,Jt,ac,Jv,ba,aF,hw,b5,cu,bG,bB,kn,fI]
  by_cases hme:(i:Int)=me
  ·simp [hme]
  ·by_cases h0:f.no i=0
   ·by_cases ha:f.ask i=0 <;>
    simp only [hme,Jw,Jq,Jx,aC,cQ hi,aH,bC hi,be,dh _ hi,au,ab,ae,aj,aw,ax,av,aA,br,ac,hwn hme,an,h89,aO,aQ,Jy,K8,K5,aS,aN,List.take,aL,fa,fc,fd,Kk,Jv,aF,hw,bp,K4,M6,Kf,h0,ha,My,Mf,Kw,Jt]<;>simp [rS]
   ·rcases Mh (cq me (i:Int) f) with hc | hc<;>by_cases ha:f.ask i=0<;>simp only [hc,hme,Jw,Jq,Jx,aC,cQ hi,aH,bC hi,be,dh _ hi,au,ab,ae,aj,aw,ax,av,aA,br,ac,hwn hme,an,h89,aO,aQ,Jy,K8,K5,aS,aN,List.take,aL,fa,fc,fd,Kk,Jv,aF,hw,bp,K4,M6,Kf,h0,ha,My,Mf,Kw,Jt]<;>simp [rS]
end
section
set_option maxRecDepth 100000
def oU {α:Type}:List α→Option (List α)
 | []=>none
 | a::t=>some (a::t)
theorem cZ {α:Type} (l:List α):(oU l).getD []=l:=by cases l<;>rfl
theorem uM (n:Nat) {α:Type} (s:Nat) (f:α→List D) (l:List α):(RP n).slN s (l.map f)=dL s f (oU l):=by cases l<;>rfl
theorem s98 (n:Nat) (b:aT) (me:Int) (hm:dR me=true) (f:Fld):FN (n+3) 108 (il me::dY b me f)=some (0,[.d (dS (oU (iC me b.1 f)))]):=by
 have h:=l98 n b me b.1 hm f
 have hlt:=bP hm
 have hw:=jH hm f
 have a1:=gV 0 (bB me f) (fI b.1 f)
 have a2:=gV 0 (bG me f) (fI b.1 f)
 have a3:=gV 0 (cu me f) (kn b.1 f)
 simp only [dY,K0,Kb] at h ⊢
 rw [FS,Gc]
 unfold iC
 change (bN me b.1 f 0).length≤6 at a1
 change (cp me b.1 f 0).length≤6 at a2
 change (cG me b.1 f 0).length≤6 at a3
 generalize bN me b.1 f 0=ld at h a1 ⊢
 generalize cp me b.1 f 0=lc at h a2 ⊢
 generalize cG me b.1 f 0=la at h a3 ⊢
 have f1:=jz (a:=ld.length) (b:=1) (c:=32) (by omega) (by omega) (by omega)
 have f2:=jz (a:=ld.length) (b:=lc.length) (c:=32) (by omega) (by omega) (by omega)
 have f3:=jz (a:=ld.length+1) (b:=lc.length) (c:=32) (by omega) (by omega) (by omega)
 have f4:=jz (a:=ld.length+lc.length) (b:=la.length) (c:=32) (by omega) (by omega) (by omega)
 have f5:=jz (a:=ld.length+1+lc.length) (b:=la.length) (c:=32) (by omega) (by omega) (by omega)
 have f6:=jz (a:=ld.length+lc.length+la.length) (b:=1) (c:=32) (by omega) (by omega) (by omega)
 have f7:=jz (a:=ld.length+1+lc.length+la.length) (b:=1) (c:=32) (by omega) (by omega) (by omega)
 simp only [G108,bf,aC,ah,aO,h,ab]
 by_cases h0:f.wants=0<;>rcases Mh f.opn with ho | ho <;>
 simp only [ab,ae,aj,aw,ax,av,aA,bo hm,aH,bC hlt,be,dh _ hlt,hw,h0,ho,br,My,Mf,Kw,Jw,Jt,Jq,Jx,Jv,ac,aQ,Jy,K8,K5,Kc,aS,K4,aN,List.take,aL,f1,f2,f3,f4,f5,f6,f7,Kk,bp,au,Kj,K7]
 all_goals
  refine congrArg (fun x=>some (0,[Y.d x])) (Eq.trans ?_ (uM (n+2) 4 rS _))
  simp [rS]
end
end Go.VE
