/- Bell: Recopy and Bind, by the reference. -/
import Derived.Test.YtaagapoglhndjaaGreatDoorMg5
namespace Go.VE
open Go.RowKit Go.Proofs
section
set_option maxRecDepth 100000
theorem zc {me h:Int} {bs:List aT} {ss:List aY} (h1:bS me bs ss h=true):∀ s∈ss,gQ s=true:=(dF (gL _ _ _ _ ▸ h1)).2.2
theorem l54 (n:Nat) {me h:Int} (b:Option (List aT)) (o:Option (List aY)) (h1:bS me (b.getD []) (o.getD []) h=true) (R:Rr) (n1 n2:Nat) (c0 c1 c2 c3:D) :
  bh [wo (RP (n+6))] M0 0 [.d (il me),.d (dB b),.d (dS o),.d c0,.d (il 0),.r [],.r R,.d (il me),.n n1,.n n2,.n 0,.d c1,.d c2,.d c3] =
   some (0,[.r ((dU me (b.getD []) (o.getD [])).map rS),.r R,.d (il me),.n n1,.n n2,.n (dU me (b.getD []) (o.getD [])).length,.d c1,.d c2,.d c3]):=by
 have hb4:=cU h1
 have hl:=du h1
 have hm:=jR h1
 have h66:=fW h1
 have hok:=zc h1
 have:=aZ (β:=List aY) (b.getD []) (by omega) (wo (RP (n+6))) (fun i g=>[.d (il me),.d (dB b),.d (dS o),.d c0,.d (il i),.r (g.map rS),.r R,.d (il me),.n n1,.n n2,.n g.length,.d c1,.d c2,.d c3])
  (fun i g=>g.length≤20*i)
  (fun i r g=>some (0,[.r ((g++dU me r (o.getD [])).map rS),.r R,.d (il me),.n n1,.n n2,.n (g++dU me r (o.getD [])).length,.d c1,.d c2,.d c3])) ?_ ?_ M0 [] (by simp) (cc (by omega))
 ·simpa using this
 ·intro g k _
  simp [wo,b7,dU]
 ·intro i e r g k hi hd hlt hw hg ih
  have hlt':(i:Int) < ((b.getD []).length:Int):=by omega
  have h75:=BK n e (h66 e (Ka hi)) hm o (by omega) hok
  have h98:=s98 (n+3) e me hm (aI me e fd0 (o.getD [])).1
  have hal:=o8 me e.1 (aI me e fd0 (o.getD [])).1
  have hfit:=jz (a:=g.length) (b:=(iC me e.1 (aI me e fd0 (o.getD [])).1).length) (c:=32) (by omega) (by omega) (by omega)
  have ih0:=ih (g++iC me e.1 (aI me e fd0 (o.getD [])).1) (by rw [Kc];omega)
  simp only [dY,K2,K7,K0,Kb] at h75 h98
  simp only [dU,List.flatMap_cons] at ih0 ⊢
  rw [←Kh,← ih0]
  simp only [wo,ae,aj,aw,ax,av,aA,b7,ah,aB,hlt',Jt,ac,Jv,bO hi,eC,fL,an,h75,ab,h98,jb,cZ,aQ,K5,Kc,aS,aH,aL,hfit,Kk,aF,hw,b5,bp,Mm]
theorem s54 (n:Nat) (me h:Int) (b:Option (List aT)) (o:Option (List aY)) (hl:(o.getD []).length≤4611686018427387904) (hb:(b.getD []).length≤4611686018427387904) :
  FN (n+8) 78 [il me,dB b,dS o,il h]=if bS me (b.getD []) (o.getD []) h=true then some (0,[.d (il me),.d (dB (some (b.getD []))),.d (dS (oU (dU me (b.getD []) (o.getD [])))),.d (il (dU me (b.getD []) (o.getD [])).length),.d (il 0)]) else eP 92:=by
 rw [FS,IJ]
 simp only [G78,an,Hq _ _ _ _ _ hl hb,← gL,ab,ae,ah,br,iX _ 92 (by omega),ac,au]
 by_cases h1:bS me (b.getD []) (o.getD []) h=true
 ·have hb4:=cU h1
  have hf:=jz (a:=0) (b:=(b.getD []).length) (c:=16) (by omega) (by omega) (by omega)
  have ht:((b.getD []).map rB).take (b.getD []).length=(b.getD []).map rB:=Kl (by simp)
  simp only [K4] at hf
  simp only [h1,K1,Jq,Jx,Jv,jb,aC,aO,aQ,K8,aS,aH,K4,K5,aL,hf,Kk,bp,K7,bf]
  rw [l54 (n+1) b o h1]
  simp only [ab,ae,aj,aw,ax,av,aA,K5,Jv,aN,ht,dt,uM,dj]
  rfl
 ·simp [h1,eP,dl]
theorem s50 (n:Nat) (me h:Int) (b:Option (List aT)) (o:Option (List aY)) (hl:(o.getD []).length≤4611686018427387904) (hb:(b.getD []).length≤4611686018427387904) :
  FN (n+8) 76 [il me,dB b,dS o,il h]=if bS me (b.getD []) (o.getD []) h=true then some (0,[.d (il me),.d (dB (some (b.getD []))),.d (dS (some (o.getD []))),.d (il (o.getD []).length),.d (il 0)]) else eP 92:=by
 rw [FS,IL]
 simp only [G76,an,Hq _ _ _ _ _ hl hb,← gL,ab,ae,ah,br,iX _ 92 (by omega),ac,au]
 by_cases h1:bS me (b.getD []) (o.getD []) h=true
 ·have hb4:=cU h1
  have hl4:=du h1
  have ht:((o.getD []).map rS).take (o.getD []).length=(o.getD []).map rS:=Kl (by simp)
  simp only [h1,K1,Jq,Jx,Jv,s81 _ _ _ _ _ (show (b.getD []).length≤120 by omega) hl4,ab,ae,aj,av,aA,aQ,K5,aS,aN,ht,dt,dj]
  rfl
 ·simp [h1,eP,dl]
end
section
set_option maxRecDepth 100000
def bQ (x m:Int):Int:=(x.tmod m+m).tmod m
theorem dV {x m:Int} (hm:0 < m):0≤bQ x m∧bQ x m < m:=by
 have h1:=Int.lt_tmod_of_pos x hm
 have h2:0≤x.tmod m+m:=by omega
 exact ⟨Int.tmod_nonneg _ h2,Int.tmod_lt_of_pos _ hm⟩
def ft (ss:List aY) (h left:Int):Nat:=(h+bQ left ((ss.length:Int) - h+1)).toNat
theorem jI {ss:List aY} {h left:Int} (h0:0≤h) (h1:h≤ss.length):(h+bQ left ((ss.length:Int) - h+1)=ft ss h left)∧ft ss h left≤ss.length:=by
 have:=dV (x:=left) (m:=(ss.length:Int) - h+1) (by omega)
 unfold ft
 omega
theorem qg {me h:Int} {bs:List aT} {ss:List aY} (h1:bS me bs ss h=true):0≤h∧h≤ss.length:=by
 simp only [bS,Js] at h1
 have:=h1.2.2.2.1
 simpa [eZ] using this
theorem sums {x m:Int} (h0:0 < m) (h1:m≤200):IntKind.i64.wrap (x.tmod m+m)=x.tmod m+m:=by
 have h2:=Int.lt_tmod_of_pos x h0
 have h3:=Int.tmod_lt_of_pos x h0
 exact cP (by omega) (by omega)
theorem uf (n:Nat) (x m:Int) (h0:0 < m) (h1:m≤200):FN (n+1) 6 [il x,il m]=some (0,[.d (il (bQ x m))]):=by
 rw [FS,G6_eq]
 simp only [G6,eF _ _ _ _ (show m≠0 by omega),aF,sums h0 h1,au,bQ]
theorem l52 (n:Nat) (o:Option (List aY)) (N:Nat) (hl:(o.getD []).length≤120) (hN:N≤(o.getD []).length) (c0 c1 c2 c3 c4 c5 c6 c7:D) :
  bh [wp (RP n)] M0 0 [.d c0,.d c1,.d (dS o),.d c2,.d (il N),.d (il 0),.r [],.d c3,.d c4,.n 0,.d c5,.d c6,.d c7]=some (0,[.r (((o.getD []).take N).map rS),.d c3,.d c4,.n N,.d c5,.d c6,.d c7]):=by
 have hlen:((o.getD []).take N).length=N:=by rw [M4];omega
 have:=aZ (β:=List aY) ((o.getD []).take N) (by omega) (wp (RP n)) (fun i g=>[.d c0,.d c1,.d (dS o),.d c2,.d (il N),.d (il i),.r (g.map rS),.d c3,.d c4,.n g.length,.d c5,.d c6,.d c7])
  (fun i g=>g.length=i)
  (fun i r g=>some (0,[.r ((g++r).map rS),.d c3,.d c4,.n (g++r).length,.d c5,.d c6,.d c7])) ?_ ?_ M0 [] (by simp) (cc (by omega))
 ·simpa [hlen] using this
 ·intro g k hg
  simp [wp,hlen]
 ·intro i e r g k hi hd hlt hw hg ih
  rw [hlen] at hlt
  have hi':(o.getD [])[i]?=some e:=by rw [List.getElem?_take_of_lt hlt] at hi;exact hi
  have hlt':(i:Int) < (N:Int):=by omega
  have hfit:=jz (a:=g.length) (b:=1) (c:=32) (by omega) (by omega) (by omega)
  have ih0:=ih (g++[e]) (by simp [hg])
  rw [show g++e::r=(g++[e])++r by simp,← ih0]
  simp only [wp,ae,aj,aw,ax,av,aA,aB,hlt',Jt,ac,Jv,lx hi',wX,vU,wW,vS,aC,aO,aQ,Jy,K8,K5,Kc,aS,K4,aN,List.take,aH,aL,hfit,Kk,aF,ah,hw,b5,bp,Mm,K0,Kb]
  rfl
theorem s52 (n:Nat) (me h left:Int) (b:Option (List aT)) (o:Option (List aY)) (hl:(o.getD []).length≤4611686018427387904) (hb:(b.getD []).length≤4611686018427387904) :
  FN (n+8) 77 [il me,dB b,dS o,il h,il left]=if bS me (b.getD []) (o.getD []) h=true then some (0,[.d (il me),.d (dB (some (b.getD []))),.d (dS (oU ((o.getD []).take (ft (o.getD []) h left)))),.d (il h),.d (il 0)]) else eP 92:=by
 rw [FS,IK]
 simp only [G77,an,Hq _ _ _ _ _ hl hb,← gL,ab,ae,ah,br,iX _ 92 (by omega),ac,au]
 by_cases h1:bS me (b.getD []) (o.getD []) h=true
 ·have hb4:=cU h1
  have hl4:=du h1
  have hh:=qg h1
  obtain ⟨t1,t2⟩:=jI (left:=left) hh.1 hh.2
  have w1:IntKind.i64.wrap (((o.getD []).length:Int) - h)=((o.getD []).length:Int) - h:=cP (by omega) (by omega)
  have w2:IntKind.i64.wrap (((o.getD []).length:Int) - h+1)=((o.getD []).length:Int) - h+1:=cP (by omega) (by omega)
  have w3:IntKind.i64.wrap (h+bQ left (((o.getD []).length:Int) - h+1))=ft (o.getD []) h left:=by rw [t1];exact cP (by omega) (by omega)
  have hlen:((o.getD []).take (ft (o.getD []) h left)).length=ft (o.getD []) h left:=by rw [M4];omega
  simp only [h1,K1,Jq,Jx,Jv,b7,q9,w1,aF,w2,uf _ left (((o.getD []).length:Int) - h+1) (by omega) (by omega),ab,ae,w3,s81 _ _ _ _ _ (show (b.getD []).length≤120 by omega) hl4,ae,aj,bf,aC,aO,l52 _ o _ hl4 t2,aw,ax,av,aQ,K5,hlen,aS,uM]
 ·simp [h1,eP,dl]
theorem eL49:@L8_0=@kg:=rfl
theorem eL51:@GR=@kg:=rfl
theorem s49 (n:Nat) (me h:Int) (b:Option (List aT)) (o:Option (List aY)) (hl:(o.getD []).length≤4611686018427387904) (hb:(b.getD []).length≤4611686018427387904) :
  FN (n+6) 8 [il me,dB b,dS o,il h]=if bS me (b.getD []) (o.getD []) h=true then some (0,[.d (il me),.d (dB b),.d (dS (some (o.getD []))),.d (il (o.getD []).length),.d (il 0)]) else eP 92:=by
 rw [FS,G8_eq]
 have hop:z8 (RP (n+5)) (il me) (dB b) (dS o) (il h)=_:=op25 (n+1) me h b o hl hb
 unfold G8
 rw [eL49]
 refine gJ hop ?_
 by_cases h1:bS me (b.getD []) (o.getD []) h=true
 ·have ht:((o.getD []).map rS).take (o.getD []).length=(o.getD []).map rS:=Kl (by simp)
  simp only [h1,Jv,bH,ae,aj,aw,ax,av,aA,ah,br,My,Mf,Jw,ac,Jq,Jx,aQ,K5,aS,aN,ht,dt,dj,au]
  rfl
 ·simp [h1,eP,dl]
theorem s51 (n:Nat) (me h left:Int) (b:Option (List aT)) (o:Option (List aY)) (hl:(o.getD []).length≤4611686018427387904) (hb:(b.getD []).length≤4611686018427387904) :
  FN (n+6) 10 [il me,dB b,dS o,il h,il left]=if bS me (b.getD []) (o.getD []) h=true then some (0,[.d (il me),.d (dB b),.d (dS (some ((o.getD []).take (ft (o.getD []) h left)))),.d (il h),.d (il 0)]) else eP 92:=by
 rw [FS,Jg]
 have hop:F5 (RP (n+5)) (il me) (dB b) (dS o) (il h) (il left)=_:=op2 (n+1) me h b o (il left) hl hb
 unfold G10
 rw [eL51]
 refine gJ hop ?_
 by_cases h1:bS me (b.getD []) (o.getD []) h=true
 ·have hl4:=du h1
  have hh:=qg h1
  obtain ⟨t1,t2⟩:=jI (left:=left) hh.1 hh.2
  have hm:((o.getD []).length:Int) - h+1≠0:=by omega
  have w1:IntKind.i64.wrap (((o.getD []).length:Int) - h)=((o.getD []).length:Int) - h:=cP (by omega) (by omega)
  have w2:IntKind.i64.wrap (((o.getD []).length:Int) - h+1)=((o.getD []).length:Int) - h+1:=cP (by omega) (by omega)
  have w3:=sums (x:=left) (m:=((o.getD []).length:Int) - h+1) (by omega) (by omega)
  have w4:IntKind.i64.wrap (h+(left.tmod (((o.getD []).length:Int) - h+1)+(((o.getD []).length:Int) - h+1)).tmod (((o.getD []).length:Int) - h+1))=ft (o.getD []) h left:=by
   have:h+(left.tmod (((o.getD []).length:Int) - h+1)+(((o.getD []).length:Int) - h+1)).tmod (((o.getD []).length:Int) - h+1)=ft (o.getD []) h left:=t1
   rw [this];exact cP (by omega) (by omega)
  have hcut:∀ (k:Nat→Nat→az) (e:az),(RP (n+5)).cut none (some (il (ft (o.getD []) h left))) (o.getD []).length k e=k 0 (ft (o.getD []) h left):=fun k e=>by
   show (if (0:Int)≤0∧(0:Int)≤(ft (o.getD []) h left:Int)∧(ft (o.getD []) h left:Int)≤((o.getD []).length:Nat) then (if (0:Int)=0∨(0:Int) < (ft (o.getD []) h left:Int) then k (0:Int).toNat ((ft (o.getD []) h left:Int) - 0).toNat else e) else none)=_
   rw [K9 (by omega),K9 (by omega)]
   simp
  simp only [h1,Jv,bH,ae,aj,aw,ax,av,aA,ah,br,My,Mf,Jw,ac,Jq,Jx,dj,q9,w1,aF,w2,eF _ _ _ _ hm,w3,w4,aQ,K5,aS,hcut,aN,← Vf,dt,au]
  rfl
 ·simp [h1,eP,dl]
end
section
set_option maxRecDepth 100000
theorem l53_1 (n:Nat) {e:aT} (me:Int) {bs:List aT} {fs:List Fld} {j:Nat} {f:Fld} (hx:dg e.1 bs=some j) (hf:fs[j]?=some f) (h6:j7 e.2) (hno:∀ o:Nat,f.no o≠0→e.2.toNat.testBit o=true) (R:Rr) (m1 m2 m3 n1 n2:Nat) (c1 c2 cB ch z1 z2:D) (out:List aY) (hl:out.length≤100) :
  bh [DW (RP (n+3)) (rB e)] M0 0 [.d (il e.1),.d (il e.2),.d (il 0),.n out.length,.n m1,.n m2,.d c1,.d c2,.m (mapM bs fs),.r R,.r (out.map rS),.n m3,.d (il me),.d cB,.n n1,.n n2,.d ch,.d z1,.d z2]=some (0,[.n (out++bN me e.1 f 0).length,.n m1,.n m2,.d c1,.d c2,.m (mapM bs fs),.r R,.r ((out++bN me e.1 f 0).map rS),.n m3,.d (il me),.d cB,.n n1,.n n2,.d ch,.d z1,.d z2]):=by
 have:=ew (β:=List aY) 6 (by omega) (DW (RP (n+3)) (rB e)) (fun i g=>[.d (il e.1),.d (il e.2),.d (il i),.n g.length,.n m1,.n m2,.d c1,.d c2,.m (mapM bs fs),.r R,.r (g.map rS),.n m3,.d (il me),.d cB,.n n1,.n n2,.d ch,.d z1,.d z2]) (fun i g=>g.length≤100+i)
  (fun i g=>some (0,[.n (g++bN me e.1 f i).length,.n m1,.n m2,.d c1,.d c2,.m (mapM bs fs),.r R,.r ((g++bN me e.1 f i).map rS),.n m3,.d (il me),.d cB,.n n1,.n n2,.d ch,.d z1,.d z2])) ?_ ?_ out hl
 ·exact this
 ·intro g k _
  simp [DW,rg,bN]
 ·rintro i g k hi hg hw ih
  have hle3:3*i≤17:=by omega
  have hle4:3*i≤19:=by omega
  have hlt:(i:Int) < 6:=by omega
  have hd:bN me e.1 f i=(if bB me f i=true then [fI e.1 f i] else [])++bN me e.1 f (i+1):=jy hi _ _
  have one:∀ (c:Bool) (x:aY),(if c=true then [x] else []).length≤1:=fun c x=>by cases c<;>simp
  have ih0:=ih (g++(if bB me f i=true then [fI e.1 f i] else [])) (by
   have o1:=one (bB me f i) (fI e.1 f i)
   simp only [Kc]
   omega)
  have hfit:=jz (a:=g.length) (b:=1) (c:=32) (by omega) (by omega) (by omega)
  have hcl:cq me (i:Int) f=(aK me i (f.no i)&&(gR f.wants&&f.af i)):=by simp only [cq,Km]
  rw [hd,← Kh,← ih0]
  simp only [DW,bB,fI,hcl,ae,aj,aP,aU,aw,ax,av,aA,ah,b8,aB,Jt,ac,Jv,br,an,ab,aC,cQ hi,aH,bW,cr,ck,ed,bw,K4,Kq,bb hf,eK f hi,xY f hi,dZ,hlt,pR _ _ h6,bM hi,E9,hx,hle3,hle4,Nat.reduceAdd,Nat.reduceLeDiff,eF _ _ _ _ (show (2:Int)≠0 by decide),ba,aO,aQ,Jy,K8,K5,Kc,aS,aN,List.take,aL,hfit,Kk,aF,hw,b5,bp,au,My,eC]
  by_cases h1:(i:Int)=me
  ·simp [h1]
  ·by_cases h2:e.2.toNat.testBit i=true
   ·by_cases h3:f.no i=0
    ·simp [h1,h2,h3]
    ·rcases Mh (aK me (i:Int) (f.no i)) with h4 | h4
     ·by_cases h5:f.wants.tmod 2=1
      ·rcases Mh (f.af i) with h7 | h7<;>simp only [h1,h2,h3,h4,h5,h7,ae,aj,aP,aU,aw,ax,av,aA,Jt,Jw,ac,Jv,ab,e7,Kw]<;>simp [rS,gR,h5]
      ·simp only [h1,h2,h3,h4,h5,ae,aj,aP,aU,aw,ax,av,aA,Jt,Jw,ac,Jv,Jx,Jq,ab,e7,Kw]
       simp [rS,gR,h5]
     ·simp only [h1,h2,h3,h4,ae,aj,aP,aU,aw,ax,av,aA,Jt,Jw,ac,Jv,Jx,Jq,ab,e7,Kw]
      simp [rS]
   ·have h3:f.no i=0:=by
     by_cases h:f.no i=0
     ·exact h
     ·exact absurd (hno i h) h2
    simp [h1,h2,h3]
theorem GE (n:Nat) {e:aT} (me:Int) {bs:List aT} {fs:List Fld} {j:Nat} {f:Fld} (hx:dg e.1 bs=some j) (hf:fs[j]?=some f) (h6:j7 e.2) (hno:∀ o:Nat,f.no o≠0→e.2.toNat.testBit o=true) (R:Rr) (y:List Yr) (hy:(RP (n+3)).ld y 8=il e.1) (m1 m2 m3 n1 n2:Nat) (c1 c2 cB ch z1 z2:D) (out:List aY) (hl:out.length≤100) :
  bh [DV (RP (n+3)) y] M0 0 [.d (il e.1),.d (il e.2),.d (il 0),.n out.length,.r R,.r (out.map rS),.m (mapM bs fs),.n m1,.n m2,.d c1,.d c2,.n m3,.d (il me),.d cB,.n n1,.n n2,.d ch,.d z1,.d z2]=some (0,[.n (out++cp me e.1 f 0).length,.r R,.r ((out++cp me e.1 f 0).map rS),.m (mapM bs fs),.n m1,.n m2,.d c1,.d c2,.n m3,.d (il me),.d cB,.n n1,.n n2,.d ch,.d z1,.d z2]):=by
 have:=ew (β:=List aY) 6 (by omega) (DV (RP (n+3)) y) (fun i g=>[.d (il e.1),.d (il e.2),.d (il i),.n g.length,.r R,.r (g.map rS),.m (mapM bs fs),.n m1,.n m2,.d c1,.d c2,.n m3,.d (il me),.d cB,.n n1,.n n2,.d ch,.d z1,.d z2]) (fun i g=>g.length≤100+i)
  (fun i g=>some (0,[.n (g++cp me e.1 f i).length,.r R,.r ((g++cp me e.1 f i).map rS),.m (mapM bs fs),.n m1,.n m2,.d c1,.d c2,.n m3,.d (il me),.d cB,.n n1,.n n2,.d ch,.d z1,.d z2])) ?_ ?_ out hl
 ·exact this
 ·intro g k _
  simp [DV,rg,cp]
 ·rintro i g k hi hg hw ih
  have hle3:3*i≤17:=by omega
  have hle4:3*i≤19:=by omega
  have hlt:(i:Int) < 6:=by omega
  have hd:cp me e.1 f i=(if bG me f i=true then [fI e.1 f i] else [])++cp me e.1 f (i+1):=jy hi _ _
  have one:∀ (c:Bool) (x:aY),(if c=true then [x] else []).length≤1:=fun c x=>by cases c<;>simp
  have ih0:=ih (g++(if bG me f i=true then [fI e.1 f i] else [])) (by
   have o1:=one (bG me f i) (fI e.1 f i)
   simp only [Kc]
   omega)
  have hfit:=jz (a:=g.length) (b:=1) (c:=32) (by omega) (by omega) (by omega)
  have hcl:cq me (i:Int) f=(aK me i (f.no i)&&(gR f.wants&&f.af i)):=by simp only [cq,Km]
  rw [hd,← Kh,← ih0]
  simp only [DV,bG,fI,hcl,hy,ae,aj,aP,aU,aw,ax,av,aA,ah,b8,aB,Jt,ac,Jv,br,an,ab,aC,cQ hi,aH,bW,cr,ck,ed,bw,K4,Kq,bb hf,eK f hi,xY f hi,dZ,hlt,pR _ _ h6,bM hi,E9,hx,hle3,hle4,Nat.reduceAdd,Nat.reduceLeDiff,eF _ _ _ _ (show (2:Int)≠0 by decide),ba,aO,aQ,Jy,K8,K5,Kc,aS,aN,List.take,aL,hfit,Kk,aF,hw,b5,bp,au,My]
  by_cases h1:(i:Int)=me
  ·simp [h1]
  ·by_cases h2:e.2.toNat.testBit i=true
   ·by_cases h3:f.no i=0
    ·simp [h1,h2,h3]
    ·rcases Mh (aK me (i:Int) (f.no i)) with h4 | h4
     ·by_cases h5:f.wants.tmod 2=1
      ·rcases Mh (f.af i) with h7 | h7<;>simp only [h1,h2,h3,h4,h5,h7,ae,aj,aP,aU,aw,ax,av,aA,Jt,Jw,ac,Jv,ab,e7,Kw]<;>simp [rS,gR,h5]
      ·simp only [h1,h2,h3,h4,h5,ae,aj,aP,aU,aw,ax,av,aA,Jt,Jw,ac,Jv,Jx,Jq,ab,e7,Kw]
       simp [gR,h5]
     ·simp only [h1,h2,h3,h4,ae,aj,aP,aU,aw,ax,av,aA,Jt,Jw,ac,Jv,Jx,Jq,ab,e7,Kw]
      simp []
   ·have h3:f.no i=0:=by
     by_cases h:f.no i=0
     ·exact h
     ·exact absurd (hno i h) h2
    simp [h1,h2,h3]
theorem GD (n:Nat) {e:aT} (me:Int) {bs:List aT} {fs:List Fld} {j:Nat} {f:Fld} (_:dg e.1 bs=some j) (hf:fs[j]?=some f) (h6:j7 e.2) (hask:∀ o:Nat,f.ask o≠0→e.2.toNat.testBit o=true) (R:Rr) (n1 n2:Nat) (c1 c2 cB ch z1 _:D) (out:List aY) (hl:out.length≤100) :
  bh [DU (RP (n+3))] M0 0 [.d (il e.1),.d (il e.2),.d (il 0),.n out.length,.d c1,.d c2,.d (il me),.d cB,.n n1,.n n2,.d ch,.d (il e.1),.d z1,.n j,.n 0,.m (mapM bs fs),.r (out.map rS),.r R]=some (0,[.n (out++cG me e.1 f 0).length,.d c1,.d c2,.d (il me),.d cB,.n n1,.n n2,.d ch,.d (il e.1),.d z1,.n j,.n 0,.m (mapM bs fs),.r ((out++cG me e.1 f 0).map rS),.r R]):=by
 have:=ew (β:=List aY) 6 (by omega) (DU (RP (n+3))) (fun i g=>[.d (il e.1),.d (il e.2),.d (il i),.n g.length,.d c1,.d c2,.d (il me),.d cB,.n n1,.n n2,.d ch,.d (il e.1),.d z1,.n j,.n 0,.m (mapM bs fs),.r (g.map rS),.r R]) (fun i g=>g.length≤100+i)
  (fun i g=>some (0,[.n (g++cG me e.1 f i).length,.d c1,.d c2,.d (il me),.d cB,.n n1,.n n2,.d ch,.d (il e.1),.d z1,.n j,.n 0,.m (mapM bs fs),.r ((g++cG me e.1 f i).map rS),.r R])) ?_ ?_ out hl
 ·exact this
 ·intro g k _
  simp [DU,rg,cG]
 ·rintro i g k hi hg hw ih
  have hle3:3*i≤17:=by omega
  have hle4:3*i≤19:=by omega
  have hlt:(i:Int) < 6:=by omega
  have hd:cG me e.1 f i=(if cu me f i=true then [kn e.1 f i] else [])++cG me e.1 f (i+1):=jy hi _ _
  have one:∀ (c:Bool) (x:aY),(if c=true then [x] else []).length≤1:=fun c x=>by cases c<;>simp
  have ih0:=ih (g++(if cu me f i=true then [kn e.1 f i] else [])) (by
   have o1:=one (cu me f i) (kn e.1 f i)
   simp only [Kc]
   omega)
  have hfit:=jz (a:=g.length) (b:=1) (c:=32) (by omega) (by omega) (by omega)
  have hcl:cq me (i:Int) f=(aK me i (f.no i)&&(gR f.wants&&f.af i)):=by simp only [cq,Km]
  rw [hd,← Kh,← ih0]
  simp only [DU,cu,kn,ae,aj,aP,aU,aw,ax,av,aA,ah,aB,Jt,ac,Jv,br,an,ab,aC,cQ hi,aH,bW,cr,ck,bw,K4,Kq,bb hf,jW f hi,hlt,pR _ _ h6,bM hi,hle3,Nat.reduceLeDiff,aO,aQ,Jy,K8,K5,Kc,aS,aN,List.take,aL,hfit,Kk,aF,hw,b5,bp,au,My]
  by_cases h1:(i:Int)=me
  ·simp [h1]
  ·by_cases h2:e.2.toNat.testBit i=true
   ·by_cases h3:f.ask i=0
    ·simp [h1,h2,h3]
    ·simp only [h1,h2,h3,Jt,Jw,Jv,Kw]
     simp [rS]
   ·have h3:f.ask i=0:=by
     by_cases h:f.ask i=0
     ·exact h
     ·exact absurd (hask i h) h2
    simp [h1,h2,h3]
end
section
set_option maxRecDepth 100000
theorem Dl {me P:Int} {f g:Fld} {s:aY} (h:bi me P f s=some g) (hf:∀ o:Nat,f.no o≠0→P.toNat.testBit o=true):∀ o:Nat,g.no o≠0→P.toNat.testBit o=true:=by
 unfold bi at h
 repeat' split at h
 all_goals first
  | (cases h;done)
  | (simp only [Jr] at h;subst h;exact hf)
  | skip
 ·rename_i hc
  simp only [Jr] at h
  subst h
  intro o ho
  simp only [cd] at ho
  by_cases he:o=s.2.2.1.toNat
  ·have hp:bU P s.2.2.1=true:=by
    cases hh:bU P s.2.2.1 with
    | true=>rfl
    | false=>simp [hh] at hc
   have:=bn.1 (fD hp)
   rw [he,← bM (P:=P) (bP (fD hp)),Int.toNat_of_nonneg this.1]
   exact hp
  ·rw [Kg (fun h=>he h.symm)] at ho
   exact hf o ho
theorem mX (me:Int) (b:aT):∀ (ss:List aY) (f:Fld),(∀ o:Nat,f.no o≠0→b.2.toNat.testBit o=true)→∀ o:Nat,(aI me b f ss).1.no o≠0→b.2.toNat.testBit o=true
 | [],_,hf=>hf
 | s::r,f,hf=>by
  unfold aI
  split
  ·cases hs:bi me b.2 f s with
   | none=>exact hf
   | some g=>exact mX me b r g (Dl hs hf)
  ·exact mX me b r f hf
theorem l53_5 (n:Nat) {me h:Int} (b:Option (List aT)) {ss:List aY} (h1:bS me (b.getD []) ss h=true) (R:Rr) (n1 n2:Nat) (ch z1 z2:D) :
  bh [DT (RP (n+3))] M0 0 [.d (dB b),.d (il (b.getD []).length),.d (il 0),.m (mapM (b.getD []) (pg me (b.getD []) ss)),.r R,.r [],.n 0,.d (il me),.d (dB b),.n n1,.n n2,.d ch,.d z1,.d z2] =
   some (0,[.m (mapM (b.getD []) (pg me (b.getD []) ss)),.r R,.r ((dU me (b.getD []) ss).map rS),.n (dU me (b.getD []) ss).length,.d (il me),.d (dB b),.n n1,.n n2,.d ch,.d z1,.d z2]):=by
 have hb4:=cU h1
 have hr:=cN h1
 have h66:=fW h1
 have:=aZ (β:=List aY) (b.getD []) (by omega) (DT (RP (n+3))) (fun i g=>[.d (dB b),.d (il (b.getD []).length),.d (il i),.m (mapM (b.getD []) (pg me (b.getD []) ss)),.r R,.r (g.map rS),.n g.length,.d (il me),.d (dB b),.n n1,.n n2,.d ch,.d z1,.d z2])
  (fun i g=>g.length≤20*i)
  (fun i r g=>some (0,[.m (mapM (b.getD []) (pg me (b.getD []) ss)),.r R,.r ((g++dU me r ss).map rS),.n (g++dU me r ss).length,.d (il me),.d (dB b),.n n1,.n n2,.d ch,.d z1,.d z2])) ?_ ?_ M0 [] (by simp) (cc (by omega))
 ·simpa using this
 ·intro g k _
  simp [DT,dU]
 ·intro i e r g k hi hd hlt hw hg ih
  have hlt':(i:Int) < ((b.getD []).length:Int):=by omega
  have h6:=h66 e (Ka hi)
  have hx:=DG hr hi
  have hff:fl me (b.getD []) ss i=(aI me e fd0 ss).1:=by
   simp only [fl]
   rw [gU _ hi]
  have hf:(pg me (b.getD []) ss)[i]?=some (aI me e fd0 ss).1:=by rw [mH h1 hlt,hff]
  have hno:=mX me e ss fd0 (by simp [fd0])
  have hask:=jv me e ss fd0 (by simp [fd0])
  have hal:=o8 me e.1 (aI me e fd0 ss).1
  have ih0:=ih (g++iC me e.1 (aI me e fd0 ss).1) (by rw [Kc];omega)
  simp only [dU,List.flatMap_cons] at ih0 ⊢
  rw [←Kh,← ih0]
  unfold iC
  generalize (aI me e fd0 ss).1=f at hf hno hask
  have a1:=gV 0 (bB me f) (fI e.1 f)
  have a2:=gV 0 (bG me f) (fI e.1 f)
  have a3:=gV 0 (cu me f) (kn e.1 f)
  change (bN me e.1 f 0).length≤6 at a1
  change (cp me e.1 f 0).length≤6 at a2
  change (cG me e.1 f 0).length≤6 at a3
  have tY:=jz (a:=(g++bN me e.1 f 0).length) (b:=1) (c:=32) (by rw [Kc];omega) (by omega) (by omega)
  simp only [DT,ae,aj,aP,aU,aw,ax,av,aA,aB,hlt',Jt,ac,Jv,bO hi,eC,fL,ed,hx,bf,ah,aC]
  rw [l53_1 n me hx hf h6 hno R i 0 g.length n1 n2 (il e.1) (il e.2) (dB b) ch z1 z2 g (by omega)]
  simp only [ab,ae,aj,aP,aU,aw,ax,av,aA,ck,bb hf,aH,cr,K4,Nat.reduceAdd,Nat.reduceLeDiff,Jv,bw,dZ,br,ac]
  by_cases h0:f.wants=0
  ·simp only [h0,My,Mf,Jw,Jq,Jx,au,ab,ae,aj,aP,aU,aw,ax,av,aA,K7]
   rw [GE n me hx hf h6 hno R _ rfl i 0 _ n1 n2 (il e.1) (il e.2) (dB b) ch z1 z2 (g++bN me e.1 f 0) (by simp only [Kc];omega)]
   simp only [ab,ae,aj,aP,aU,aw,ax,av,aA]
   rw [GD n me hx hf h6 hask R n1 n2 z1 z2 (dB b) ch (il e.2) (il e.2) ((g++bN me e.1 f 0)++cp me e.1 f 0) (by simp only [Kc];omega)]
   have g4l:(((g++bN me e.1 f 0)++cp me e.1 f 0)++cG me e.1 f 0).length≤1000:=by simp only [Kc];omega
   generalize hg4:(((g++bN me e.1 f 0)++cp me e.1 f 0)++cG me e.1 f 0)=G at g4l
   have fit2:=jz (a:=G.length) (b:=1) (c:=32) (by omega) (by omega) (by omega)
   have hN:G.length≤9223372036854775806:=by omega
   rcases Mh f.opn with ho | ho
   all_goals
    simp only [ho,Jq,Jx,ab,ae,aj,aP,aU,aw,ax,av,aA,ck,bb hf,K4,Nat.reduceAdd,Nat.reduceLeDiff,Jv,fX,ac,aF,hw,aO,aQ,Jy,K8,K5,aS,aN,List.take,aL,fit2.1,hN,Kk,bp,b5]
    subst hg4
    simp [rS,Ta,Nat.add_comm,Nat.add_left_comm]
  ·simp only [h0,My,Kw,Jt,Jv,aO,aQ,Jy,K8,K5,aS,K4,aN,List.take,aL,tY,Kk,bp,au,ab,ae,aj,aP,aU,aw,ax,av,aA]
   have hap:(g++bN me e.1 f 0).map rS++[[il 2,il e.1,il 0,il f.wants]]=(g++bN me e.1 f 0++[((2,e.1,0,f.wants):aY)]).map rS:=by simp [rS]
   have hln:(g++bN me e.1 f 0).length+1=(g++bN me e.1 f 0++[((2,e.1,0,f.wants):aY)]).length:=by simp [Ta]
   rw [hap,hln]
   rw [GE n me hx hf h6 hno R _ rfl i 0 _ n1 n2 (il e.1) (il e.2) (dB b) ch z1 z2 (g++bN me e.1 f 0++[(2,e.1,0,f.wants)]) (by simp only [Kc,Jy,K8];omega)]
   simp only [ab,ae,aj,aP,aU,aw,ax,av,aA]
   rw [GD n me hx hf h6 hask R n1 n2 z1 z2 (dB b) ch (il e.2) (il e.2) ((g++bN me e.1 f 0++[(2,e.1,0,f.wants)])++cp me e.1 f 0) (by simp only [Kc,Jy,K8];omega)]
   have g4l:(((g++bN me e.1 f 0++[(2,e.1,0,f.wants)])++cp me e.1 f 0)++cG me e.1 f 0).length≤1000:=by simp only [Kc,Jy,K8];omega
   generalize hg4:(((g++bN me e.1 f 0++[(2,e.1,0,f.wants)])++cp me e.1 f 0)++cG me e.1 f 0)=G at g4l
   have fit2:=jz (a:=G.length) (b:=1) (c:=32) (by omega) (by omega) (by omega)
   have hN:G.length≤9223372036854775806:=by omega
   rcases Mh f.opn with ho | ho
   all_goals
    simp only [ho,Jq,Jx,ab,ae,aj,aP,aU,aw,ax,av,aA,ck,bb hf,K4,Nat.reduceAdd,Nat.reduceLeDiff,Jv,fX,ac,aF,hw,K5,fit2.1,hN,Kk,b5]
    subst hg4
    simp [rS,Ta,Nat.add_comm,Nat.add_left_comm]
theorem eL53:@L9_0=@kg:=rfl
theorem s53 (n:Nat) (me h:Int) (b:Option (List aT)) (o:Option (List aY)) (hl:(o.getD []).length≤4611686018427387904) (hb:(b.getD []).length≤4611686018427387904) :
  FN (n+6) 9 [il me,dB b,dS o,il h]=if bS me (b.getD []) (o.getD []) h=true then some (0,[.d (il me),.d (dB b),.d (dS (oU (dU me (b.getD []) (o.getD [])))),.d (il (dU me (b.getD []) (o.getD [])).length),.d (il 0)]) else eP 92:=by
 rw [FS,G9_eq]
 have hop:z8 (RP (n+5)) (il me) (dB b) (dS o) (il h)=_:=op25 (n+1) me h b o hl hb
 unfold G9
 rw [eL53]
 refine gJ hop ?_
 by_cases h1:bS me (b.getD []) (o.getD []) h=true
 ·simp only [h1,Jv,bH,ae,aj,aP,aU,aw,ax,av,aA,ah,br,My,Mf,Jw,ac,Jq,Jx,b7,bf,aO,aC]
  rw [l53_5 (n+2) b h1]
  simp only [ab,ae,aj,aw,ax,av,aA,aQ,K5,aS,Jv,uM,dj,au]
 ·simp [h1,eP,dl]
end
section
def rf (me:Int) (e:aT) (ss:List aY):Fld:=(aI me e fd0 ss).1
def rk (me:Int) (e:aT) (ss:List aY):Bool:=(aI me e fd0 ss).2
theorem cW {me:Int} {e:aT}:∀ {l1:List aY} {f:Fld} {l2:List aY},(aI me e f l1).2=true→aI me e f (l1++l2)=aI me e (aI me e f l1).1 l2
 | [],f,l2,_=>rfl
 | s::r,f,l2,h=>by
  simp only [K2]
  rw [aI,aI]
  rw [aI] at h
  split
  ·rename_i hs
   rw [K9 hs] at h
   cases hf:bi me e.2 f s with
   | none=>rw [hf] at h;cases h
   | some g =>
    rw [hf] at h
    exact cW h
  ·rename_i hs
   rw [Kg hs] at h
   exact cW h
theorem ju {me:Int} {e:aT}:∀ {l1:List aY} {f:Fld} {l2:List aY},(aI me e f (l1++l2)).2=true→(aI me e f l1).2=true
 | [],f,l2,_=>rfl
 | s::r,f,l2,h=>by
  simp only [K2] at h
  rw [aI] at h ⊢
  split
  ·rename_i hs
   rw [K9 hs] at h
   cases hf:bi me e.2 f s with
   | none=>rw [hf] at h;cases h
   | some g =>
    rw [hf] at h
    exact ju h
  ·rename_i hs
   rw [Kg hs] at h
   exact ju h
theorem iQ {me:Int} {e:aT}:∀ {l:List aY} {f:Fld},(∀ s∈l,s.2.1≠e.1)→aI me e f l=(f,true)
 | [],_,_=>rfl
 | s::r,f,h=>by
  rw [aI,Kg (h s (by simp))]
  exact iQ fun x hx=>h x (by simp [hx])
theorem qA {α:Type} {me:Int} {e:aT} {key:α→Int} {g:α→List aY} (hg:∀ x,∀ s∈g x,s.2.1=key x):∀ {l:List α} {f:Fld},(∀ x∈l,key x≠e.1)→aI me e f (l.flatMap g)=(f,true):=by
 intro l f h
 refine iQ fun s hs=>?_
 obtain ⟨x,hx,hs⟩:=List.mem_flatMap.1 hs
 rw [hg x s hs]
 exact h x hx
theorem gu {α:Type} {me:Int} {e:aT} {key:α→Int} {g:α→List aY} (hg:∀ x,∀ s∈g x,s.2.1=key x):∀ {l:List α} {f:Fld} {x:α},(l.Pairwise fun a b=>key a≠key b)→x∈l→key x=e.1→aI me e f (l.flatMap g)=aI me e f (g x)
 | [],_,_,_,hx,_=>by cases hx
 | y::r,f,x,hp,hx,hk=>by
  cases hp with
  | cons h1 h2 =>
   rw [List.flatMap_cons]
   rcases Ki.1 hx with rfl | hx
   ·cases hb:(aI me e f (g x)).2 with
    | true =>
     rw [cW hb,qA hg (fun y hy=>by have:=h1 y hy;rw [hk] at this;exact fun h=>this h.symm)]
     exact Prod.ext rfl hb.symm
    | false =>
     have:∀ {l1:List aY} {f:Fld} {l2:List aY},(aI me e f l1).2=false→aI me e f (l1++l2)=aI me e f l1:=by
      intro l1
      induction l1 with
      | nil=>intro f l2 h;cases h
      | cons s t ih =>
       intro f l2 h
       simp only [K2]
       rw [aI] at h
       rw [aI,aI]
       split
       ·rename_i hs
        rw [K9 hs] at h
        cases hf:bi me e.2 f s with
        | none=>rfl
        | some g=>rw [hf] at h;exact ih h
       ·rename_i hs
        rw [Kg hs] at h
        exact ih h
     exact this hb
   ·have hne:key y≠e.1:=by have:=h1 x hx;rwa [hk] at this
    have ho:aI me e f (g y)=(f,true):=iQ fun s hs=>by rw [hg y s hs];exact hne
    rw [cW (by rw [ho]),ho]
    exact gu hg h2 hx hk
theorem Dk {me P:Int} {f g:Fld} {s:aY} (h:bi me P f s=some g) (o:Nat):f.no o≤g.no o:=by
 unfold bi at h
 repeat' split at h
 all_goals first
  | (cases h;done)
  | (simp only [Jr] at h;subst h;exact Mu _)
  | skip
 rename_i hc
 simp only [Jr] at h
 subst h
 simp only [cd]
 split
 ·rename_i he
  subst he
  simp only [Mg,Ju,not_or] at hc
  omega
 ·exact Mu _
theorem jr {me:Int} {e:aT} (o:Nat):∀ {l:List aY} {f:Fld},f.no o≤(aI me e f l).1.no o
 | [],_=>Mu _
 | s::r,f=>by
  rw [aI]
  split
  ·cases hf:bi me e.2 f s with
   | none=>exact Mu _
   | some g=>exact Int.le_trans (Dk hf o) (jr o)
  ·exact jr o
theorem i6 {me:Int} {e:aT}:∀ {l:List aY} {f:Fld} {o:Nat},(aI me e f l).1.no o≠f.no o→((1,e.1,(o:Int),(aI me e f l).1.no o):aY)∈l
 | [],_,_,h=>absurd rfl h
 | s::r,f,o,h=>by
  rw [aI] at h ⊢
  split
  ·rename_i he
   rw [K9 he] at h
   cases hf:bi me e.2 f s with
   | none=>rw [hf] at h;exact absurd rfl h
   | some g =>
    rw [hf] at h
    simp only at h ⊢
    by_cases hg:(aI me e g r).1.no o=g.no o
    ·rw [hg] at h ⊢
     have hgf:g.no o≠f.no o:=h
     unfold bi at hf
     repeat' split at hf
     all_goals first
      | (cases hf;done)
      | (simp only [Jr] at hf;subst hf;exact absurd rfl hgf)
      | skip
     rename_i h1 hc
     simp only [Jr] at hf
     subst hf
     simp only [cd] at hgf ⊢
     split at hgf
     ·rename_i ho
      rw [K9 ho]
      simp only [Mg,Ju,not_or,Md] at hc
      have hp:dR s.2.2.1=true:=fD (by simpa using hc.1.1.2)
      have:=bn.1 hp
      refine Ki.2 (.inl ?_)
      obtain ⟨a,b,c,d⟩:=s
      simp only at h1 he ho this ⊢
      rw [h1,he,← ho]
      simp only [Ku,Tp,Vi]
      omega
     ·exact absurd rfl hgf
    ·exact Kz _ (i6 hg)
  ·rename_i he
   rw [Kg he] at h
   exact Kz _ (i6 h)
theorem Bo {me P:Int} {f g:Fld} {s:aY} (h:bi me P f s=some g) (hf:f.opn=true→dC me P f=[]):g.opn=true→dC me P g=[]:=by
 unfold bi at h
 repeat' split at h
 all_goals first
  | (cases h;done)
  | skip
 ·rename_i hc
  simp only [Jr] at h
  subst h
  intro ho
  simp only [Mg,not_or] at hc
  exact absurd ho hc.1.2
 ·simp only [Jr] at h;subst h;exact hf
 ·simp only [Jr] at h;subst h;exact hf
 ·rename_i hc
  simp only [Jr] at h
  subst h
  intro ho
  simp only at ho
  simp only [Mg,not_or,ho,Kf,Md,Bool.not_eq_false] at hc
  have:=hc.2
  have e:dC me P f=[]:=by simpa using this
  exact e
theorem nT {me:Int} {e:aT}:∀ {l:List aY} {f:Fld},(f.opn=true→dC me e.2 f=[])→(aI me e f l).1.opn=true→dC me e.2 (aI me e f l).1=[]
 | [],_,hf=>hf
 | s::r,f,hf=>by
  rw [aI]
  split
  ·cases hs:bi me e.2 f s with
   | none=>exact hf
   | some g=>exact nT (Bo hs hf)
  ·exact nT hf
end
section
theorem eU {me h:Int} {bs:List aT} {ss:List aY}:bS me bs ss h=true↔dR me=true∧cC me bs=true∧ss.length≤120∧(0≤h∧h≤ss.length)∧(∀ s∈ss,mI bs s=true)∧∀ e∈bs,rk me e ss=true:=by
 rw [gL,HP]
 simp only [Js,Ju,eZ,Kt,rk]
theorem t7 {bs:List aT} (h:lA bs) {a b:aT} (ha:a∈bs) (hb:b∈bs) (he:a.1=b.1):a=b:=by
 induction bs with
 | nil=>cases ha
 | cons c r ih =>
  cases h with
  | cons h1 h2 =>
   rcases Ki.1 ha with ha' | ha'<;>rcases Ki.1 hb with hb' | hb'
   ·rw [ha',hb']
   ·have:=h1 b hb';rw [ha'] at he;omega
   ·have:=h1 a ha';rw [hb'] at he;omega
   ·exact ih h2 ha' hb'
theorem tw {me h:Int} {bs:List aT} {ss L:List aY} (h1:bS me bs ss h=true) (hs:∀ s∈L,mI bs s=true) (hr:∀ e∈bs,(aI me e (rf me e ss) L).2=true) (hl:ss.length+L.length≤120):bS me bs (ss++L) h=true:=by
 obtain ⟨a1,a2,a3,a4,a5,a6⟩:=eU.1 h1
 refine eU.2 ⟨a1,a2,by rw [Kc];exact hl,⟨a4.1,by rw [Kc];omega⟩,fun s hm=>?_,fun e he=>?_⟩
 ·rcases Kp.1 hm with hm | hm
  ·exact a5 s hm
  ·exact hs s hm
 ·unfold rk
  rw [cW (a6 e he)]
  exact hr e he
theorem nc {fld:Int} {bs:List aT} {j:Nat} (hx:dg fld bs=some j):bs.getD j (0,0)∈bs∧(bs.getD j (0,0)).1=fld:=by
 obtain ⟨e,h1,h2,h3,_⟩:=eg hx
 rw [h3]
 exact ⟨Ka h1,h2⟩
theorem vy {me:Int} {bs:List aT} {ss:List aY} {j:Nat}:fl me bs ss j=rf me (bs.getD j (0,0)) ss:=rfl
theorem pd {bs:List aT} {s:aY} {j:Nat} (h1:gQ s=true) (h2:dg s.2.1 bs=some j):mI bs s=true:=by simp [mI,h1,h2]
theorem pf {me h fld:Int} {bs:List aT} {ss L:List aY} {j:Nat} (h1:bS me bs ss h=true) (hx:dg fld bs=some j) (hs:∀ s∈L,gQ s=true∧s.2.1=fld) (hr:(aI me (bs.getD j (0,0)) (fl me bs ss j) L).2=true) (hl:ss.length+L.length≤120):bS me bs (ss++L) h=true:=by
 have hm:=nc hx
 refine tw h1 (fun s hs'=>pd (hs s hs').1 (by rw [(hs s hs').2];exact hx)) (fun e he=>?_) hl
 by_cases hef:e.1=fld
 ·have:e=bs.getD j (0,0):=t7 (cN h1) he hm.1 (by rw [hef,hm.2])
  rw [this];exact hr
 ·rw [iQ fun s hs'=>by rw [(hs s hs').2];exact fun h=>hef h.symm]
theorem bR {me:Int} {e:aT} {f g:Fld} {s:aY} {r:List aY} (h1:s.2.1=e.1) (h2:bi me e.2 f s=some g):aI me e f (s::r)=aI me e g r:=by
 rw [aI,K9 h1,h2]
theorem EC {me h fld:Int} {bs:List aT} {ss:List aY} {j:Nat} (h1:bS me bs ss h=true) (hx:dg fld bs=some j) (hw:(lB fld (fl me bs ss j)).1=0) (hl:ss.length+(lB fld (fl me bs ss j)).2.length≤120):bS me bs (ss++(lB fld (fl me bs ss j)).2) h=true∧∀ s∈(lB fld (fl me bs ss j)).2,s.1≠1:=by
 have hm:=nc hx
 have hfl:=lb h1 hx
 have hrng:=mc h1 j
 generalize hf:fl me bs ss j=f at hw hl hrng ⊢
 unfold lB at hw hl ⊢
 split at hw
 ·cases hw
 ·rename_i ho
  rw [Kg ho] at hl ⊢
  split at hw
  ·rename_i hd
   rw [K9 hd] at hl ⊢
   exact ⟨by simpa using h1,by simp⟩
  ·rename_i hd
   rw [Kg hd] at hl ⊢
   have hodd:f.wants≠99999:=by
    intro he
    rw [he] at hd
    exact hd rfl
   refine ⟨pf h1 hx (fun s hs=>?_) ?_ hl,fun s hs=>by simp only [M2] at hs;subst hs;simp⟩
   ·simp only [M2] at hs
    subst hs
    have:=hrng.1
    simp only [gQ,hfl,Kf]
    simp [eZ]
    omega
   ·rw [hf,bR (g:={ f with wants:=f.wants+1,af:=fun _=>false }) hm.2.symm]
    ·rfl
    ·simp [bi]
     omega
theorem EP {me h fld:Int} {bs:List aT} {ss:List aY} {j:Nat} (h1:bS me bs ss h=true) (hx:dg fld bs=some j) (hw:(k8 me (bs.getD j (0,0)).2 fld (fl me bs ss j)).1=0) (hl:ss.length+(k8 me (bs.getD j (0,0)).2 fld (fl me bs ss j)).2.length≤120):bS me bs (ss++(k8 me (bs.getD j (0,0)).2 fld (fl me bs ss j)).2) h=true∧∀ s∈(k8 me (bs.getD j (0,0)).2 fld (fl me bs ss j)).2,s.1≠1:=by
 have hm:=nc hx
 have hfl:=lb h1 hx
 have hrng:=mc h1 j
 generalize hf:fl me bs ss j=f at hw hl hrng ⊢
 unfold k8 at hw hl ⊢
 split at hw
 ·cases hw
 ·rename_i ho
  rw [Kg ho] at hl ⊢
  split at hw
  ·rename_i hmi
   rw [K9 hmi] at hl ⊢
   split at hw
   ·cases hw
   ·rename_i h9
    rw [Kg h9] at hl ⊢
    have hmi':dC me (bs.getD j (0,0)).2 f=[]:=by simpa using hmi
    have hst:bi me (bs.getD j (0,0)).2 f (4,fld,0,1)=some { f with opn:=true }:=by
     generalize (bs.getD j (0,0)).2=P at hmi'
     simp [bi,ho,hmi']
    have ok4:gQ (4,fld,0,1)=true:=by simp [gQ,hfl];decide
    simp only at hl ⊢
    split at hl
    ·rename_i hd
     rw [K9 hd]
     have ok2:gQ (2,fld,0,f.wants+1)=true:=by
      have:=hrng.1
      simp only [gQ,hfl,Kf]
      simp [eZ]
      omega
     refine ⟨pf h1 hx (fun s hs=>?_) ?_ hl,fun s hs=>?_⟩
     ·simp only [Ki,Me,Tn] at hs
      rcases hs with rfl | rfl
      ·exact ⟨ok4,rfl⟩
      ·exact ⟨ok2,rfl⟩
     ·rw [hf,bR hm.2.symm hst,bR (g:={ f with opn:=true,wants:=f.wants+1,af:=fun _=>false }) hm.2.symm]
      ·rfl
      ·simp [bi]
       omega
     ·simp only [Ki,Me,Tn] at hs
      rcases hs with rfl | rfl<;>simp
    ·rename_i hd
     rw [Kg hd]
     refine ⟨pf h1 hx (fun s hs=>?_) ?_ hl,fun s hs=>?_⟩
     ·simp only [Ki,Me,Tn] at hs
      subst hs
      exact ⟨ok4,rfl⟩
     ·rw [hf,bR hm.2.symm hst]
      rfl
     ·simp only [Ki,Me,Tn] at hs
      subst hs
      simp
  ·cases hw
theorem EI {me h fld:Int} {bs:List aT} {ss:List aY} {j:Nat} (h1:bS me bs ss h=true) (hx:dg fld bs=some j) (hw:(my fld (fl me bs ss j)).1=0) (hl:ss.length+(my fld (fl me bs ss j)).2.length≤120):bS me bs (ss++(my fld (fl me bs ss j)).2) h=true∧∀ s∈(my fld (fl me bs ss j)).2,s.1≠1:=by
 have hm:=nc hx
 have hfl:=lb h1 hx
 generalize hf:fl me bs ss j=f at hw hl ⊢
 unfold my at hw hl ⊢
 split at hw
 ·rename_i ho
  rw [K9 ho] at hl ⊢
  refine ⟨pf h1 hx (fun s hs=>?_) ?_ hl,fun s hs=>by simp only [M2] at hs;subst hs;simp⟩
  ·simp only [M2] at hs
   subst hs
   exact ⟨by simp [gQ,hfl];decide,rfl⟩
  ·rw [hf,bR (g:={ f with opn:=false }) hm.2.symm]
   ·rfl
   ·simp [bi,ho]
 ·cases hw
end
end Go.VE
