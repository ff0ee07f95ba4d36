/- Bell: what a watch's book says of its fields; the reference's Of and between. -/
import Derived.Test.YtaagapoglhndjaaGreatDoorMg1
namespace Go.VE
open Go.RowKit Go.Proofs
section
def pg (me:Int) (bs:List aT) (ss:List aY):List Fld:=(bI me bs (new bs) ss).1
def fl (me:Int) (bs:List aT) (ss:List aY) (j:Nat):Fld:=(aI me (bs.getD j (0,0)) fd0 ss).1
theorem xy {me:Int} {bs:List aT} (hr:lA bs) (ss:List aY):(pg me bs ss).length=bs.length:=(kD hr ss (new bs) (cz bs)).1
theorem cN {me:Int} {bs:List aT} {ss:List aY} {h:Int} (ho:bS me bs ss h=true):lA bs:=by
 simp only [bS,cC,Js] at ho
 exact fx ho.2.1.1
theorem zg (bs:List aT) (i:Nat):(new bs).getD i fd0=fd0:=by
 simp only [new,Kd,Kn]
 cases bs[i]?<;>rfl
theorem mH {me:Int} {bs:List aT} {ss:List aY} {h:Int} (ho:bS me bs ss h=true) {j:Nat} (hj:j < bs.length):(pg me bs ss)[j]?=some (fl me bs ss j):=by
 have hr:=cN ho
 have ho':=ho
 simp only [bS,Js] at ho'
 have:=(kD (me:=me) hr ss (new bs) (cz bs)).2.1 ho'.2.2.2.2
 have h1:=this.2 j hj
 rw [zg] at h1
 have h2:j < (pg me bs ss).length:=by rw [xy hr];exact hj
 rw [Jz h2]
 unfold fl
 rw [h1]
 simp [pg,Kd,Jz (show j < (bI me bs (new bs) ss).1.length from h2)]
def nl (me:Int) (bs:List aT) (ss:List aY) (h fld:Int) (bad:Int→az) (k:Nat→az):az :=
 if bS me bs ss h=true then (match dg fld bs with
  | none=>bad 94
  | some j=>k j) else bad 92
def rH (me:Int) (bs:List aT) (other:Int) (bad:Int→az) (k:Nat→az) (j:Nat):az :=
 if decide (other=me)||!bU (bs.getD j (0,0)).2 other then bad 1 else k j
def BD (e:Int):az:=some (0,[.d (il 0),.d (il e)])
def oZ (e:Int):az:=some (0,[.d (bl false),.d (il e)])
def BC (e:Int):az:=some (0,[.d dl,.d (il e)])
def nd (e:Int):az:=some (0,(z21++[il e]).map .d)
theorem gU {α:Type} {l:List α} {j:Nat} {e:α} (d:α) (h:l[j]?=some e):l.getD j d=e:=by simp [Kd,h]
theorem eg {bs:List aT} {fld:Int} {j:Nat} (h:dg fld bs=some j):∃ e,bs[j]?=some e∧e.1=fld∧bs.getD j (0,0)=e∧j < bs.length:=by
 obtain ⟨h1,h2⟩:=ey h
 refine ⟨bs[j],Jz h1,?_,gU _ (Jz h1),h1⟩
 rw [gU _ (Jz h1)] at h2
 exact h2
theorem dF {me:Int} {bs:List aT} {ss:List aY} {h:Int} (ho:HP me bs ss h=true):dR me=true∧cC me bs=true∧(∀ s∈ss,gQ s=true):=by
 simp only [HP,Js] at ho
 exact ⟨ho.1,ho.2.1,Af ho.2.2.2.2.1⟩
theorem im {fld:Int} {bs:List aT} {j:Nat} (h:dg fld bs=some j):oE fld bs=(j:Int):=by simp [oE,h]
theorem s80 (n:Nat) (me h:Int) (b:Option (List aT)) (o:Option (List aY)) (fld:Int) (hl:(o.getD []).length≤4611686018427387904) (hb:(b.getD []).length≤4611686018427387904) :
  FN (n+8) 100 [il me,dB b,dS o,il h,il fld]=nl me (b.getD []) (o.getD []) h fld nd fun j=>some (0,(dY ((b.getD []).getD j (0,0)) me (fl me (b.getD []) (o.getD []) j)++[il 0]).map .d):=by
 rw [FS,Gk]
 unfold nl
 simp only [G100,an,Hq _ _ _ _ _ hl hb,← gL,ab,ae,ah,b8,br,iX _ 92 (by omega),ac,au,lD _ _ hb,aB,Ju,cR]
 by_cases h1:bS me (b.getD []) (o.getD []) h=true
 ·have hW:=h1
  rw [gL] at hW
  obtain ⟨w1,w2,w3⟩:=dF hW
  simp only [h1,K1,Jq,Jx,Jv]
  cases hx:dg fld (b.getD []) with
  | none=>simp [nd,z21]
  | some j =>
   obtain ⟨e,he,-,hg,hj⟩:=eg hx
   simp only [reduceCtorEq,Jx,im hx,bO he,eC,fL,BK _ _ (bK w2 e (Ka he)) w1 _ hl w3,ab]
   rw [hg]
   simp only [dY,K2,K7,K0,Kb,ae,aj,fl,hg]
 ·simp [h1,nd,z21]
end
section
def gR (z:Int):Bool:=decide (z.tmod 2=1)
def cq (me o:Int) (f:Fld):Bool:=aK me o (f.no o.toNat)&&(gR f.wants&&f.af o.toNat)
end
section
def kW (en0:Nat→List Yr) (en1:Nat→Rr→List Yr) (i:Nat) (acc:Rr):Nat×List Yr:=match acc with
 | []=>(0,en0 i)
 | a::t=>(1,en1 i (a::t))
def eD (o0:az) (o1:Rr→az) (acc:Rr):az:=match acc with
 | []=>o0
 | a::t=>o1 (a::t)
theorem BI (en0:Nat→List Yr) (en1:Nat→Rr→List Yr) (i:Nat) (acc:Rr) (r:List D):kW en0 en1 i (acc++[r])=(1,en1 i (acc++[r])):=by
 cases acc<;>rfl
theorem iD (N:Nat) (hN:N≤4611686018427387904) (row:Nat→Option (List D)) (b0 b1:(Nat→List Yr→az)→List Yr→az) (en0:Nat→List Yr) (en1:Nat→Rr→List Yr) (o0:az) (o1:Rr→az)
  (h0:∀ k,b0 k (en0 N)=o0) (h1:∀ k a t,(a::t).length≤N→b1 k (en1 N (a::t))=o1 (a::t))
  (s0:∀ i k,i < N→IntKind.i64.wrap ((i:Int)+1)=(i:Int)+1→b0 k (en0 i)=match row i with
   | none=>k 0 (en0 (i+1))
   | some r=>k 1 (en1 (i+1) [r]))
  (s1:∀ i k a t,i < N→(a::t).length≤i→IntKind.i64.wrap ((i:Int)+1)=(i:Int)+1→b1 k (en1 i (a::t))=match row i with
   | none=>k 1 (en1 (i+1) (a::t))
   | some r=>k 1 (en1 (i+1) (a::t++[r]))) :
  bh [b0,b1] M0 0 (en0 0)=eD o0 o1 ((List.range N).filterMap row):=by
 have:=iN (σ:=Nat×Rr) [b0,b1] (fun s=>kW en0 en1 s.1 s.2) (fun s=>N - s.1) (fun s=>s.1≤N∧s.2.length≤s.1)
  (fun s=>eD o0 o1 (s.2++(List.range' s.1 (N - s.1)).filterMap row)) ?_ M0 (0,[]) ⟨by simp,by simp⟩ (by simp only [M0];omega)
 ·simpa [kW,List.range_eq_range'] using this
 ·rintro ⟨i,acc⟩ k ⟨hi,ha⟩ ih
  simp only at hi ha
  by_cases hN':i=N
  ·subst hN'
   cases acc with
   | nil=>exact ⟨b0,rfl,by simp [kW,eD,h0]⟩
   | cons a t=>exact ⟨b1,rfl,by simp [kW,eD,h1 k a t ha]⟩
  ·have hi':i < N:=by omega
   have hw:=dX hi' hN
   have ih0:=ih (i+1,acc) ⟨hi',by simp only;omega⟩ (by simp only;omega)
   have ih1:=fun r=>ih (i+1,acc++[r]) ⟨hi',by simp;omega⟩ (by simp only;omega)
   simp only [BI,Kh,K2,K7] at ih1
   simp only at ih0
   have e:List.range' i (N - i)=i::List.range' (i+1) (N - (i+1)):=by
    rw [show N - i=(N - (i+1))+1 by omega,List.range'_succ]
   rw [e]
   simp only [List.filterMap_cons]
   cases acc with
   | nil =>
    refine ⟨b0,rfl,?_⟩
    simp only [kW] at ih0 ⊢
    rw [s0 i k hi' hw]
    cases hr:row i with
    | none=>exact ih0
    | some r=>exact ih1 r
   | cons a t =>
    refine ⟨b1,rfl,?_⟩
    simp only [kW] at ih0 ⊢
    rw [s1 i k a t hi' ha hw]
    cases hr:row i with
    | none=>exact ih0
    | some r=>exact ih1 r
def jZ {α:Type} (p:α→Bool) (g:α→List D) (x:α):Option (List D):=if p x=true then some (g x) else none
theorem gG {α:Type} (p:α→Bool) (g:α→List D) (l:List α):l.filterMap (jZ p g)=(l.filter p).map g:=by
 induction l with
 | nil=>rfl
 | cons x r ih =>
  simp only [List.filterMap_cons,jZ,V0]
  cases p x<;>simp [←ih]
def rN (o:Nat):List D:=[il o]
def dN (l:List Nat):D:=match l with
 | []=>dl
 | a::t=>.sl 1 ((a::t).map rN)
def yp (me:Int) (f:Fld):List Nat:=(List.range 6).filter fun (o:Nat)=>!decide ((o:Int)=me)&&gR (gK me f o)
def CT (me P:Int) (f:Fld):List Nat:=(List.range 6).filter fun (o:Nat)=>!decide ((o:Int)=me)&&(P.toNat.testBit o&&!aK me o (f.no o))
theorem F8 (me P:Int) (f:Fld):CT me P f=dC me P f:=by
 unfold CT dC oth
 rw [List.filter_filter]
 congr 1
 funext o
 cases decide ((o:Int)=me)<;>cases P.toNat.testBit o<;>simp
theorem s89 (n:Nat) (b:aT) (me:Int) (hm:dR me=true) (f:Fld) {o:Int} (ho:dR o=true):FN (n+2) 107 (dY b me f++[il me,il o])=some (0,[.d (bl (cq me o f))]):=by
 have h88:=Gv n b me f (bP ho)
 rw [Int.toNat_of_nonneg (bn.1 ho).1] at h88
 have hw:=jH hm f
 simp only [dY,K2,K7] at h88 ⊢
 rw [FS,Gd]
 simp only [G107,an,h88,ab,ae,ac,yS,cq,gR]
 rw [K9 (show 0≤me∧me < (6:Nat) by have:=bn.1 hm;omega),K9 (show 0≤o∧o < (6:Nat) by have:=bn.1 ho;omega)]
 have key:∀ q:D,q=il f.wants→∀ g:Nat→Bool,(if aK me o (f.no o.toNat)=true then (RP (n+1)).bin .rem false q ((RP (n+1)).lit (.int .i64 2)) fun x1=>(RP (n+1)).bin .eql false x1 ((RP (n+1)).lit (.int .i64 1)) fun x2=>(RP (n+1)).cond x2 (lL [some (0,[.d (bl (g 0))]),some (0,[.d (bl (g 1))]),some (0,[.d (bl (g 2))]),some (0,[.d (bl (g 3))]),some (0,[.d (bl (g 4))]),some (0,[.d (bl (g 5))])] o.toNat) (some (0,[.d (bl false)])) else (some (0,[.d (bl false)]):az))=some (0,[.d (bl (aK me o (f.no o.toNat)&&(decide (f.wants.tmod 2=1)&&g o.toNat)))]):=by
  rintro q rfl g
  have hs:lL [some (0,[.d (bl (g 0))]),some (0,[.d (bl (g 1))]),some (0,[.d (bl (g 2))]),some (0,[.d (bl (g 3))]),some (0,[.d (bl (g 4))]),some (0,[.d (bl (g 5))])] o.toNat=some (0,[.d (bl (g o.toNat))]):=by
   have hlt:=bP ho
   generalize o.toNat=t at hlt ⊢
   match t,hlt with
   | 0,_=>rfl
   | 1,_=>rfl
   | 2,_=>rfl
   | 3,_=>rfl
   | 4,_=>rfl
   | 5,_=>rfl
  simp only [ah,eF _ _ _ _ (show (2:Int)≠0 by decide),ba,ac,hs,Ju]
  cases aK me o (f.no o.toNat) with
  | false=>simp
  | true =>
   by_cases h2:f.wants.tmod 2=1<;>simp [h2]
 have hlt:=bP hm
 generalize me.toNat=t at hlt hw ⊢
 match t,hlt with
 | 0,_=>exact key _ (by rw [hw]) f.af
 | 1,_=>exact key _ (by rw [hw]) f.af
 | 2,_=>exact key _ (by rw [hw]) f.af
 | 3,_=>exact key _ (by rw [hw]) f.af
 | 4,_=>exact key _ (by rw [hw]) f.af
 | 5,_=>exact key _ (by rw [hw]) f.af
theorem cQ {Fn:Nat→List D→az} {FnD:D→List Sh→List D→az} {m:Nat} {i:Nat} (h:i < 6) (k:Nat→az):(aa Fn FnD m).inx (il i) 6 k=k i:=by
 rw [dk,K9 (by omega),Km]
theorem Bq (b:Nat) (hb:b≤32):(0+1)*b≤140737488355328∧0+1≤9223372036854775807:=by omega
theorem tY {n:Nat} (b:Nat) (hb:b≤32) (hn:n≤4294967296):(n+1+(0+1))*b≤140737488355328∧n+1+(0+1)≤9223372036854775807:=by
 have:(n+1+(0+1))*b≤(n+1+(0+1))*32:=Nat.mul_le_mul_left _ hb
 omega
end
section
abbrev Wrt:=Int×List aY
def lB (fld:Int) (f:Fld):Wrt:=if f.opn=true then (95,[]) else if gR f.wants=true then (0,[]) else (0,[(2,fld,0,f.wants+1)])
def k8 (me P fld:Int) (f:Fld):Wrt:=if f.opn=true then (95,[]) else if (dC me P f).isEmpty=true then (if f.wants=99999 then (2,[]) else (0,(4,fld,0,1)::(if gR f.wants=true then [(2,fld,0,f.wants+1)] else []))) else (97,[])
def my (fld:Int) (f:Fld):Wrt:=if f.opn=true then (0,[(4,fld,0,0)]) else (96,[])
def kc (me P:Int) (f:Fld) (o:Nat):Bool:=!decide ((o:Int)=me)&&(P.toNat.testBit o&&(gR (f.ask o)&&(aK me o (f.no o)&&(!cq me o f&&decide (f.no o < 99999)))))
def eX (me:Int) (e:aT) (f:Fld):List aY:=if f.opn=true then [] else ((List.range 6).filter (kc me e.2 f)).map fun (o:Nat)=>(1,e.1,(o:Int),f.no o+1)
def gB (me:Int) (bs:List aT) (ss:List aY):List aY:=bs.flatMap fun e=>eX me e (aI me e fd0 ss).1
def gq (me a:Int) (t:ge) (f:Fld):List aY:=(if f.ask a.toNat < t.2.2 then [(3,t.1,a,t.2.2)] else [])++(if f.no a.toNat < t.2.1∧aK me a t.2.1=true∧f.opn=false then [(1,t.1,a,t.2.1)] else [])
def da (me a:Int) (bs:List aT) (ss:List aY) (t:ge):List aY:=match dg t.1 bs with
 | none=>[]
 | some j=>if bU (bs.getD j (0,0)).2 a=true then gq me a t (fl me bs ss j) else []
def bu (me a:Int) (bs:List aT) (ss:List aY) (l:List ge):List aY:=l.flatMap (da me a bs ss)
def et (me h:Int) (b:Option (List aT)) (ss:List aY) (q:Wrt):az:=if q.1=0 then (if 120 < ss.length+q.2.length then eP 2 else some (0,[.d (il me),.d (dB b),.d (dS (some (ss++q.2))),.d (il h),.d (il 0)])) else eP q.1
def nG (f:Fld):Prop:=(0≤f.wants∧f.wants≤99999)∧∀ o,(0≤f.no o∧f.no o≤99999)∧(0≤f.ask o∧f.ask o≤99999)
theorem Ch:nG fd0:=⟨by simp [fd0],fun o=>by simp [fd0]⟩
theorem tv {s:aY} (h:gQ s=true) (h4:s.1≠4):1≤s.2.2.2∧s.2.2.2≤99999:=by
 simp only [gQ,Js] at h
 obtain ⟨-,h⟩:=h
 split at h
 ·simp only [eZ,Js,Ju] at h;exact h.2
 ·split at h
  ·simp only [eZ,Js,Ju] at h;exact h.2
  ·simp [] at h
theorem Bm {me P:Int} {f g:Fld} {s:aY} (hs:gQ s=true) (hf:nG f) (h:bi me P f s=some g):nG g:=by
 unfold bi at h
 split at h
 ·rename_i h1
  split at h
  ·cases h
  ·have:=tv hs (by omega)
   cases h
   refine ⟨hf.1,fun o=>⟨?_,(hf.2 o).2⟩⟩
   simp only [cd]
   split
   ·omega
   ·exact (hf.2 o).1
 ·split at h
  ·rename_i h2
   split at h
   ·cases h
   ·have:=tv hs (by omega)
    cases h
    exact ⟨by simp only;omega,hf.2⟩
  ·split at h
   ·rename_i h3
    split at h
    ·cases h
    ·have:=tv hs (by omega)
     cases h
     refine ⟨hf.1,fun o=>⟨(hf.2 o).1,?_⟩⟩
     simp only [cd]
     split
     ·omega
     ·exact (hf.2 o).2
   ·split at h
    ·cases h
    ·cases h
     exact hf
theorem jt {me:Int} {e:aT}:∀ (l:List aY) (f:Fld),(∀ s∈l,gQ s=true)→nG f→nG (aI me e f l).1
 | [],f,_,hf=>hf
 | s::r,f,hl,hf=>by
  have hr:=fun t (ht:t∈r)=>hl t (Kz _ ht)
  unfold aI
  split
  ·cases hs:bi me e.2 f s with
   | none=>exact hf
   | some g=>exact jt r g hr (Bm (hl s T9) hf hs)
  ·exact jt r f hr hf
theorem mc {me:Int} {bs:List aT} {ss:List aY} {h:Int} (ho:bS me bs ss h=true) (j:Nat):nG (fl me bs ss j):=by
 rw [gL] at ho
 exact jt ss fd0 (dF ho).2.2 Ch
end
section
theorem e97_3:@qV=@fh:=rfl
theorem e97_4:@qU=@fg:=rfl
theorem e97_5:@qT=@ff:=rfl
def Fw (l:List aY) (bs:List aT) (r:Rr) (c1 c2 c5:D) (c3 c4:Nat) (i:Nat) (fs:List Fld):List Yr:=[.d (dS (some l)),.d (il l.length),.d (il i),.m (mapM bs fs),.r r,.d c1,.d c2,.n c3,.n c4,.d c5]
set_option maxRecDepth 20000 in
theorem l97 (n:Nat) (b:Option (List aT)) (hb:(b.getD []).length≤4611686018427387904) (h6:∀ c∈b.getD [],j7 c.2) (l:List aY) (hl:l.length≤4611686018427387904) (r0:Rr) (me:Int) (c5:D) (c3 c4:Nat) (fs:List Fld) (hf:fs.length=(b.getD []).length) :
  bh [fb (RP (n+3))] M0 0 (Fw l (b.getD []) r0 (il me) (dB b) c5 c3 c4 0 fs)=ei (b.getD []) r0 (il me) (dB b) c5 c3 c4 (bI me (b.getD []) fs l):=by
 have:=aZ (β:=List Fld) l hl (fb (RP (n+3))) (fun i fs=>Fw l (b.getD []) r0 (il me) (dB b) c5 c3 c4 i fs) (fun _ fs=>fs.length=(b.getD []).length)
  (fun _ r fs=>ei (b.getD []) r0 (il me) (dB b) c5 c3 c4 (bI me (b.getD []) fs r)) ?_ ?_ M0 fs hf (cc hl)
 ·exact this
 ·intro fs k _
  simp [fb,Fw,ei,bI]
 ·intro i s r fs k hi hd hlt hw hfs ih
  have hlt':(i:Int) < (l.length:Int):=by omega
  have hin:0≤(i:Int)∧(i:Int) < (l.length:Nat):=by omega
  rw [bI]
  by_cases hs:gQ s=true
  ·rw [K9 hs]
   cases hx:dg s.2.1 (b.getD []) with
   | none =>
    have hneg:oE s.2.1 (b.getD []) < 0:=cR.2 hx
    simp only [Fw,fb,ae,aj,aP,aU,aw,ax,av,aA,aB,hlt',Jt,ac,Jv,lx (o:=some l) hi,wX,vU,wW,vS,an,sX,ab,hs,aJ,K1,Jq,Jx,cH,lw _ _ hb,ah,hneg,b8,au,ba,l6,ei]
    simp
   | some j =>
    obtain ⟨hj1,hj2⟩:=ey hx
    have hnn:¬ (oE s.2.1 (b.getD []) < 0):=by rw [cR,hx];simp
    have hix:oE s.2.1 (b.getD [])=(j:Int):=by simp [oE,hx]
    obtain ⟨e,he⟩:∃ e,(b.getD [])[j]?=some e:=⟨_,Jz hj1⟩
    have hP:j7 e.2:=h6 e (Ka he)
    have hge:(b.getD []).getD j (0,0)=e:=by simp [Kd,he]
    obtain ⟨f,hf⟩:∃ f,fs[j]?=some f:=⟨_,Jz (by omega)⟩
    have hgf:fs.getD j fd0=f:=by simp [Kd,hf]
    simp only
    rw [hge,hgf]
    have ihs:∀ g,k 0 (Fw l (b.getD []) r0 (il me) (dB b) c5 c3 c4 (i+1) (fs.set j g))=ei (b.getD []) r0 (il me) (dB b) c5 c3 c4 (bI me (b.getD []) (fs.set j g) r):=fun g=>ih _ (by rw [l4];exact hfs)
    simp only [Fw,b5] at ihs
    simp only [Fw,fb,ae,aj,aP,aU,aw,ax,av,aA,aB,hlt',Jt,ac,Jv,lx (o:=some l) hi,wX,vU,wW,vS,an,sX,ab,hs,aJ,K1,Jq,Jx,cH,lw _ _ hb,ah,hnn,Jw,b8,au]
    rw [hix,bO he]
    simp only [eC,fL,ab,ae,aj,aP,aU,aw,ax,av,aA]
    rcases mJ hs with ⟨h1,ho⟩ | h1 | ⟨h1,ho⟩ | h1
    ·have hp:=bP ho
     have hq:0≤s.2.2.1∧s.2.2.1 < (6:Nat):=by have:=bn.1 ho;omega
     have k1:3*s.2.2.1.toNat+1≤20:=by omega
     have k2:3*s.2.2.1.toNat+1+1≤20:=by omega
     unfold bi
     simp only [h1,ba,Jt,Jv,ab,ae,aj,aP,aU,aw,ax,av,aA,aJ,ac,K1,Jq,Jx,pR _ _ hP,mapM,aC,dk,hq,Kk,ca,bb hf,aH,bW,cr,bw,K4,Kq,fX,eK f hp,ic,tm,eo,hx,dI,ec,xn hf hp,bb (fu hf _),pL (fu hf _) hp,Tv,aF,hw,k1,k2,show 19+1≤20 by decide,Ju]
     by_cases g1:s.2.2.1=me
     ·simp [g1,ei,mapM]
     ·by_cases g2:bU e.2 s.2.2.1=true
      ·by_cases g3:f.opn=true
       ·simp [g1,g2,g3,ei,mapM]
       ·by_cases g4:s.2.2.2≤f.no s.2.2.1.toNat
        ·simp [g1,g2,g3,g4,ei,mapM]
        ·have ih':=ihs { f with no:=cd f.no s.2.2.1.toNat s.2.2.2,af:=cd f.af s.2.2.1.toNat true }
         have g3':f.opn=false:=by simpa using g3
         simp only [mapM,g3'] at ih'
         simp only [g1,g2,g3',g4,Jx,ab,ae,aj,aP,aU,aw,ax,av,aA,aJ,ac,K1,Jq,Jw,Mv]
         exact ih'
      ·simp [g1,g2,ei,mapM]
    ·unfold bi
     simp only [h1,ba,show ¬ ((2:Int)=1) by decide,show ¬ ((2:Int)=3) by decide,Jw,Jv,ab,ae,aj,aP,aU,aw,ax,av,aA,aJ,ac,K1,Jq,Jx,mapM,aC,ca,bb hf,aH,bW,cr,bw,K4,Kq,dZ,ic,tk,eo,hx,dI,ec,ny hf,bf,e97_3,aF,hw,show 18+1≤20 by decide,Ju]
     by_cases g1:s.2.2.2≤f.wants
     ·simp [g1,ei,mapM]
     ·have ih':=ihs { f with wants:=s.2.2.2,af:=fun _=>false }
      have h0:=GC (n+3) (b.getD []) (fs.set j { f with wants:=s.2.2.2 }) (fu hf _) (il me) (dB b) c5 c3 c4 r0
      simp only [mapM,Tv] at ih' h0
      simp only [g1,Jx,h0,ab,ae,aj,aP,aU,aw,ax,av,aA]
      exact ih'
    ·have hp:=bP ho
     have hq:0≤s.2.2.1∧s.2.2.1 < (6:Nat):=by have:=bn.1 ho;omega
     have k2:3*s.2.2.1.toNat+2+1≤20:=by omega
     unfold bi
     simp only [h1,ba,show ¬ ((3:Int)=1) by decide,show ¬ ((3:Int)=2) by decide,Jt,Jw,Jv,ab,ae,aj,aP,aU,aw,ax,av,aA,aJ,ac,K1,Jq,Jx,pR _ _ hP,mapM,aC,dk,hq,Kk,ca,bb hf,aH,bW,cr,bw,K4,Kq,jW f hp,ic,tj,eo,hx,dI,ec,sV hf hp,aF,hw,k2,Ju]
     by_cases g1:s.2.2.1=me
     ·simp [g1,ei,mapM]
     ·by_cases g2:bU e.2 s.2.2.1=true
      ·by_cases g4:s.2.2.2≤f.ask s.2.2.1.toNat
       ·simp [g1,g2,g4,ei,mapM]
       ·have ih':=ihs { f with ask:=cd f.ask s.2.2.1.toNat s.2.2.2 }
        simp only [mapM] at ih'
        simp only [g1,g2,g4,Jx,ab,ae,aj,aP,aU,aw,ax,av,aA,K1,Jq,Jw,Mv]
        exact ih'
      ·simp [g1,g2,ei,mapM]
    ·unfold bi
     have he1:e.1=s.2.1:=by rw [←hge];exact hj2
     have hj0:¬ ((j:Int) < 0):=by omega
     simp only [h1,ba,show ¬ ((4:Int)=1) by decide,show ¬ ((4:Int)=2) by decide,show ¬ ((4:Int)=3) by decide,Jw,Jv,ab,ae,aj,aP,aU,aw,ax,av,aA,aJ,ac,K1,Jq,Jx,mapM,aC,ti,eo,hx,cH,lw _ _ hb,hix,hj0,bO he,eC,fL,aB,ca,bb hf,aH,bW,cr,bw,K4,Kq,fX,e7,dI,ec,bf,e97_4,e97_5,aF,hw,show 19+1≤20 by decide,he1,Ju]
     by_cases g1:s.2.2.2=1
     ·cases g2:f.opn with
      | true=>simp [g1,ei,mapM]
      | false =>
       have h0:=fun y hy=>GB (n:=n) hf hx hP me y hy (il s.2.1) (dB b) c5 c3 c4 r0
       simp only [mapM] at h0
       simp only [g1,Jt,show ((false==true)=true)=False by simp,Jx,Jv]
       rw [h0 _ (by simp)]
       cases hm:dC me e.2 f with
       | nil =>
        have ih':=ihs { f with opn:=true }
        simp only [mapM] at ih'
        simp only [uW,ab,ae,aj,aP,aU,aw,ax,av,aA,bz,ac,show ¬ ((0:Int) < 0) by decide,Jw,Jq,Jx,bb hf,l3 hf,aJ,K1,Tc,Bool.and_false,Mv,show ((false==true)=true)=False by simp]
        exact ih'
       | cons a t =>
        have:(0:Int) < ((t.length+1:Nat):Int):=by omega
        simp only [uW,ab,bH,ae,aj,aP,aU,aw,ax,av,aA,bz,ac,dj,this,Jt,Jv,aJ,M6]
        simp [ei,mapM]
     ·cases g2:f.opn with
      | true =>
       have ih':=ihs { f with opn:=false }
       simp only [mapM] at ih'
       simp only [g1,Jw,show ((true==false)=true)=False by simp,Jx,Jq,l3 hf,ab,ae,aj,aP,aU,aw,ax,av,aA,aJ,ac,K1,Mj,Mv]
       exact ih'
      | false=>simp [g1,ei,mapM]
  ·simp only [Fw,fb,ae,aj,aP,aU,aw,ax,av,aA,aB,hlt',Jt,ac,Jv,lx (o:=some l) hi,wX,vU,wW,vS,an,sX,ab,hs,aJ,au,b8]
   simp [ei]
theorem uq (n:Nat) (b:Option (List aT)) (hb:(b.getD []).length≤4611686018427387904) (h6:∀ c∈b.getD [],j7 c.2) (l:List aY) (hl:l.length≤4611686018427387904) (r0:Rr) (me:Int) (c5:D) (c3 c4:Nat) (fs:List Fld) (hf:fs.length=(b.getD []).length) :
  FN (n+4) 1300035 [il me,dB b,il c3,il c4,c5,.sl 4 r0,.mp true (fi (b.getD [])) (fs.map bT),.sl 4 (l.map rS)] =
   some (0,[.d (bl (bI me (b.getD []) fs l).2),.d (il me),.d (dB b),.d (il c3),.d (il c4),.d c5,.d (.sl 4 r0),.d (.mp true (fi (b.getD [])) ((bI me (b.getD []) fs l).1.map bT))]):=by
 rw [FS,wO]
 have h:=l97 n b hb h6 l hl r0 me c5 c3 c4 fs hf
 have ha:∀ k:Mr→az,(RP (n+3)).asM true (.mp true (fi (b.getD [])) (fs.map bT)) k=k (mapM (b.getD []) fs):=fun _=>rfl
 have hd:(D.sl 4 (l.map rS))=dS (some l):=rfl
 have hn:(RP (n+3)).lenD (dS (some l))=fun k=>k (il l.length):=by funext k;exact b7 _ _ _ k
 simp only [Fw,Tf] at h
 simp only [wP,fv,hd,hn,ha,bf,ah,tp,h,ei]
 cases (bI me (b.getD []) fs l).2<;>simp [k9,mapM]
end
section
set_option maxRecDepth 100000
section
variable {Δ N R W M E Ω:Type} (p:Pr Δ N R W M E Ω)
def F4 (a0 a1 a2 a3 a4: Δ):Ω:=(p.bnd (p.call 33 [a0]) [fun y0=>p.un .not (p.ld y0 0) fun x1=>p.cond x1 (p.out 0 [.d a4,.d (p.lit (.int .i64 92)),.d (p.lit (.int .i64 0)),.d (p.lit (.int .i64 0)),.d a0,.d a1,.d a2,.d a3]) (p.bnd (p.call 81 [a0,a1]) [fun y2=>p.un .not (p.ld y2 0) fun x3=>p.cond x3 (p.out 0 [.d a4,.d (p.lit (.int .i64 92)),.d (p.lit (.int .i64 0)),.d (p.lit (.int .i64 0)),.d a0,.d a1,.d a2,.d a3]) (p.lenD a2 fun x4=>p.bin .gtr false x4 (p.lit (.int .i64 120)) fun x5=>p.cond x5 (p.out 0 [.d a4,.d (p.lit (.int .i64 92)),.d (p.lit (.int .i64 0)),.d (p.lit (.int .i64 0)),.d a0,.d a1,.d a2,.d a3]) (p.lenD a2 fun x6=>p.bnd (p.call 82 [a3,(p.lit (.int .i64 0)),x6]) [fun y7=>p.un .not (p.ld y7 0) fun x8=>p.cond x8 (p.out 0 [.d a4,.d (p.lit (.int .i64 92)),.d (p.lit (.int .i64 0)),.d (p.lit (.int .i64 0)),.d a0,.d a1,.d a2,.d a3]) (p.bnd (p.call 83 [a1]) [fun y9=>p.lenD a2 fun x10=>p.mkN 32 x10 x10 fun n11=>p.rowsD 4 a2 fun r12=>p.eqN n11 (p.len (p.repl n11 [(p.lit (.int .i64 0)),(p.lit (.int .i64 0)),(p.lit (.int .i64 0)),(p.lit (.int .i64 0))])) (p.eqN n11 (p.len (p.repl n11 [(p.lit (.int .i64 0)),(p.lit (.int .i64 0)),(p.lit (.int .i64 0)),(p.lit (.int .i64 0))])) (p.lenD (p.ld y9 0) fun x13=>p.bnd (p.loop [(sL p)] 0 [.d (p.ld y9 0),.d x13,.d (p.lit (.int .i64 0)),.m p.emp,.d a0,.d (p.ld y9 0),.n n11,.n n11,.d a3,.d a0,.d a1,.d a2,.d a3,.d a0,.d a1,.d a2,.d a3,.d (p.lit (.int .i64 0)),.d (p.lit (.int .i64 0)),.r (p.app (p.seg r12 none n11) (p.seg (p.repl n11 [(p.lit (.int .i64 0)),(p.lit (.int .i64 0)),(p.lit (.int .i64 0)),(p.lit (.int .i64 0))]) (some (p.len r12)) n11)),.d a0,.d (p.ld y9 0),.n n11,.n n11,.d a3]) [fun y14=>p.eqN n11 (p.len (p.lr y14 16)) (p.eqN n11 (p.len (p.lr y14 16)) (p.bnd (p.call 1000035 [p.ld y14 1,p.ld y14 2,(p.natD (p.ln y14 3)),(p.natD (p.ln y14 4)),p.ld y14 5,(p.slD 4 (p.lr y14 16)),(p.mpD true (p.lm y14 0))]) [fun y15=>p.rowsD 4 (p.ld y15 6) fun r16=>p.asM true (p.ld y15 7) fun q17=>p.un .not (p.ld y15 0) fun x18=>p.cond x18 (p.out 0 [.d a4,.d (p.lit (.int .i64 92)),.d (p.ld y14 14),.d (p.ld y14 15),.d (p.ld y14 6),.d (p.ld y14 7),.d (p.ld y14 8),.d (p.ld y14 9)]) (p.out 1 [.d a4,.d (p.lit (.int .i64 0)),.m q17,.r r16,.d (p.ld y15 1),.d (p.ld y15 2),.n (p.dN (p.ld y15 3)),.n (p.dN (p.ld y15 4)),.d (p.ld y15 5),.d (p.ld y14 14),.d (p.ld y14 15),.d (p.ld y14 6),.d (p.ld y14 7),.d (p.ld y14 8),.d (p.ld y14 9)])]))]))])]))])])
def AO (a0 a1 a2 a3 a4: Δ):Ω:=(p.bnd (p.call 33 [a0]) [fun y0=>p.un .not (p.ld y0 0) fun x1=>p.cond x1 (p.out 0 [.d a4,.d (p.lit (.int .i64 92)),.d (p.lit (.int .i64 0)),.d (p.lit (.int .i64 0))]) (p.bnd (p.call 81 [a0,a1]) [fun y2=>p.un .not (p.ld y2 0) fun x3=>p.cond x3 (p.out 0 [.d a4,.d (p.lit (.int .i64 92)),.d (p.lit (.int .i64 0)),.d (p.lit (.int .i64 0))]) (p.lenD a2 fun x4=>p.bin .gtr false x4 (p.lit (.int .i64 120)) fun x5=>p.cond x5 (p.out 0 [.d a4,.d (p.lit (.int .i64 92)),.d (p.lit (.int .i64 0)),.d (p.lit (.int .i64 0))]) (p.lenD a2 fun x6=>p.bnd (p.call 82 [a3,(p.lit (.int .i64 0)),x6]) [fun y7=>p.un .not (p.ld y7 0) fun x8=>p.cond x8 (p.out 0 [.d a4,.d (p.lit (.int .i64 92)),.d (p.lit (.int .i64 0)),.d (p.lit (.int .i64 0))]) (p.bnd (p.call 83 [a1]) [fun y9=>p.lenD a2 fun x10=>p.mkN 32 x10 x10 fun n11=>p.rowsD 4 a2 fun r12=>p.eqN n11 (p.len (p.repl n11 [(p.lit (.int .i64 0)),(p.lit (.int .i64 0)),(p.lit (.int .i64 0)),(p.lit (.int .i64 0))])) (p.eqN n11 (p.len (p.repl n11 [(p.lit (.int .i64 0)),(p.lit (.int .i64 0)),(p.lit (.int .i64 0)),(p.lit (.int .i64 0))])) (p.lenD (p.ld y9 0) fun x13=>p.bnd (p.loop [(sM p)] 0 [.d (p.ld y9 0),.d x13,.d (p.lit (.int .i64 0)),.m p.emp,.d a0,.d (p.ld y9 0),.n n11,.n n11,.d a3,.d a0,.d a1,.d a2,.d a3,.d (p.lit (.int .i64 0)),.d (p.lit (.int .i64 0)),.r (p.app (p.seg r12 none n11) (p.seg (p.repl n11 [(p.lit (.int .i64 0)),(p.lit (.int .i64 0)),(p.lit (.int .i64 0)),(p.lit (.int .i64 0))]) (some (p.len r12)) n11)),.d a0,.d (p.ld y9 0),.n n11,.n n11,.d a3]) [fun y14=>p.eqN n11 (p.len (p.lr y14 12)) (p.eqN n11 (p.len (p.lr y14 12)) (p.bnd (p.call 1000035 [p.ld y14 1,p.ld y14 2,(p.natD (p.ln y14 3)),(p.natD (p.ln y14 4)),p.ld y14 5,(p.slD 4 (p.lr y14 12)),(p.mpD true (p.lm y14 0))]) [fun y15=>p.rowsD 4 (p.ld y15 6) fun r16=>p.asM true (p.ld y15 7) fun q17=>p.un .not (p.ld y15 0) fun x18=>p.cond x18 (p.out 0 [.d a4,.d (p.lit (.int .i64 92)),.d (p.ld y14 10),.d (p.ld y14 11)]) (p.out 1 [.d a4,.d (p.lit (.int .i64 0)),.m q17,.r r16,.d (p.ld y15 1),.d (p.ld y15 2),.n (p.dN (p.ld y15 3)),.n (p.dN (p.ld y15 4)),.d (p.ld y15 5),.d (p.ld y14 10),.d (p.ld y14 11)])]))]))])]))])])
end
theorem gJ {n:Nat} {X X' r:az} {ks:List (List Yr→az)} (h:X=X') (h2:(RP n).bnd X' ks=r):(RP n).bnd X ks=r:=h ▸ h2
theorem l29 (n:Nat) (o:Option (List aT)) (hl:(o.getD []).length≤4611686018427387904) (hr:lA (o.getD [])) (c0:D) (c1:D) (c2:Nat) (c3:Nat) (c4:D) (c5:D) (c6:D) (c7:D) (c8:D) (c9:D) (c10:D) (c11:D) (c12:D) (c13:D) (c14:D) (c15:Rr) (c16:D) (c17:D) (c18:Nat) (c19:Nat) (c20:D) :
  bh [sL (RP n)] M0 0 [.d (dB o),.d (il (o.getD []).length),.d (il 0),.m ([],[]),.d c0,.d c1,.n c2,.n c3,.d c4,.d c5,.d c6,.d c7,.d c8,.d c9,.d c10,.d c11,.d c12,.d c13,.d c14,.r c15,.d c16,.d c17,.n c18,.n c19,.d c20] =
   some (0,[.m (mapM (o.getD []) (new (o.getD []))),.d c0,.d c1,.n c2,.n c3,.d c4,.d c5,.d c6,.d c7,.d c8,.d c9,.d c10,.d c11,.d c12,.d c13,.d c14,.r c15,.d c16,.d c17,.n c18,.n c19,.d c20]):=by
 have:=aZ (β:=Unit) (o.getD []) hl (sL (RP n)) (fun i _=>[.d (dB o),.d (il (o.getD []).length),.d (il i),.m (mapM ((o.getD []).take i) (new ((o.getD []).take i))),.d c0,.d c1,.n c2,.n c3,.d c4,.d c5,.d c6,.d c7,.d c8,.d c9,.d c10,.d c11,.d c12,.d c13,.d c14,.r c15,.d c16,.d c17,.n c18,.n c19,.d c20]) (fun _ _=>True)
  (fun _ _ _=>some (0,[.m (mapM (o.getD []) (new (o.getD []))),.d c0,.d c1,.n c2,.n c3,.d c4,.d c5,.d c6,.d c7,.d c8,.d c9,.d c10,.d c11,.d c12,.d c13,.d c14,.r c15,.d c16,.d c17,.n c18,.n c19,.d c20])) ?_ ?_ M0 () trivial (cc hl)
 ·exact this
 ·intro _ k _
  simp [sL,T1]
 ·intro i e r _ k hi hd hlt hw _ ih
  have hlt':(i:Int) < ((o.getD []).length:Int):=by omega
  have ih':=ih () trivial
  rw [b5,hH hi,kH] at ih'
  have hadd:=fun k=>qb (Fn:=FN n) (FnD:=dW Tryz.prog (fm tb Tryz.prog) (FN n)) (m:=M0) (cz ((o.getD []).take i)) (nb hr hi) fd0 k
  have hlen:((o.getD []).take i).length=i:=by simp;omega
  simp only [mB,hlen] at hadd
  simp only [sL,mapM,ae,aj,aP,aU,aw,ax,av,aA,aB,hlt',Jt,ac,Jv,bO hi,eC,aC,aS,dI,bp,ca,aO,ah,b8,aQ,K5,cz,hlen,hadd,aF,hw]
  exact ih'
theorem op8 (n:Nat) (me h:Int) (b:Option (List aT)) (o:Option (List aY)) (a:D) (hl:(o.getD []).length≤4611686018427387904) (hb:(b.getD []).length≤4611686018427387904) :
  F4 (RP (n+4)) (il me) (dB b) (dS o) (il h) a=if bS me (b.getD []) (o.getD []) h=true then some (1,[.d a,.d (il 0),.m (mapM (b.getD []) (pg me (b.getD []) (o.getD []))),.r ((o.getD []).map rS),.d (il me),.d (dB b),.n (o.getD []).length,.n (o.getD []).length,.d (il h),.d (il 0),.d (il 0),.d (il me),.d (dB b),.d (dS o),.d (il h)]) else some (0,[.d a,.d (il 92),.d (il 0),.d (il 0),.d (il me),.d (dB b),.d (dS o),.d (il h)]):=by
 simp only [F4,an,Ay,s62 _ _ _ hb,yK,b7,ab,ae,aJ,ac,au,ah,bz,bS]
 by_cases h1:dR me=true
 ·by_cases h2:cC me (b.getD [])=true
  ·have h2':=h2
   simp only [cC,Js,Ju] at h2'
   by_cases h3:(o.getD []).length≤120
   ·have h3':¬ ((120:Int) < (o.getD []).length):=by omega
    by_cases h4:eZ h 0 (o.getD []).length=true
    ·have hmk:0≤((o.getD []).length:Int)∧((32:Nat):Int)*((o.getD []).length:Int)≤140737488355328∧((o.getD []).length:Int)≤9223372036854775807:=by omega
     simp only [h1,h2,h3,h3',h4,K1,Jq,Jx,Jv,Jt,Jw,Kf,s63 _ _ h2'.2,ab,ae,lT,hmk,Kk,Km,jb,lS,aQ,List.length_replicate,aS,b7,oy,bp,aN,lR,bf,K5]
     have hseg:=j9 ((o.getD []).map rS) [il 0,il 0,il 0,il 0]
     rw [K5] at hseg
     rw [hseg,l29 _ _ hb (fx h2'.1)]
     simp only [ab,ae,aj,aP,aw,ax,av,aA,K5,Jv,dj,dt,k9,mapM]
     rw [ja _ _ hb (bK h2) _ (by omega) _ _ _ _ _ (cz _)]
     have hr4:∀ k:Rr→az,(RP (n+4)).rowsD 4 (.sl 4 ((o.getD []).map rS)) k=k ((o.getD []).map rS):=fun _=>rfl
     simp only [ab,ae,aj,fv,aJ,ac,tp]
     have ha:∀ (a:List Value) (b:Rr) (k:Mr→az),(RP (n+4)).asM true (.mp true a b) k=k (a,b):=fun _ _ _=>rfl
     rw [ha]
     simp only [pg]
     rw [show (b.getD []).map (fun _=>fd0)=new (b.getD []) from rfl]
     cases (bI me (b.getD []) (new (b.getD [])) (o.getD [])).2<;>rfl
    ·simp [h1,h2,h3,h3',h4]
   ·have h3':((120:Int) < (o.getD []).length):=by omega
    simp [h1,h2,h3,h3']
  ·simp [h1,h2]
 ·simp [h1]
theorem l35 (n:Nat) (o:Option (List aT)) (hl:(o.getD []).length≤4611686018427387904) (hr:lA (o.getD [])) (c0:D) (c1:D) (c2:Nat) (c3:Nat) (c4:D) (c5:D) (c6:D) (c7:D) (c8:D) (c9:D) (c10:D) (c11:Rr) (c12:D) (c13:D) (c14:Nat) (c15:Nat) (c16:D) :
  bh [sM (RP n)] M0 0 [.d (dB o),.d (il (o.getD []).length),.d (il 0),.m ([],[]),.d c0,.d c1,.n c2,.n c3,.d c4,.d c5,.d c6,.d c7,.d c8,.d c9,.d c10,.r c11,.d c12,.d c13,.n c14,.n c15,.d c16] =
   some (0,[.m (mapM (o.getD []) (new (o.getD []))),.d c0,.d c1,.n c2,.n c3,.d c4,.d c5,.d c6,.d c7,.d c8,.d c9,.d c10,.r c11,.d c12,.d c13,.n c14,.n c15,.d c16]):=by
 have:=aZ (β:=Unit) (o.getD []) hl (sM (RP n)) (fun i _=>[.d (dB o),.d (il (o.getD []).length),.d (il i),.m (mapM ((o.getD []).take i) (new ((o.getD []).take i))),.d c0,.d c1,.n c2,.n c3,.d c4,.d c5,.d c6,.d c7,.d c8,.d c9,.d c10,.r c11,.d c12,.d c13,.n c14,.n c15,.d c16]) (fun _ _=>True)
  (fun _ _ _=>some (0,[.m (mapM (o.getD []) (new (o.getD []))),.d c0,.d c1,.n c2,.n c3,.d c4,.d c5,.d c6,.d c7,.d c8,.d c9,.d c10,.r c11,.d c12,.d c13,.n c14,.n c15,.d c16])) ?_ ?_ M0 () trivial (cc hl)
 ·exact this
 ·intro _ k _
  simp [sM,T1]
 ·intro i e r _ k hi hd hlt hw _ ih
  have hlt':(i:Int) < ((o.getD []).length:Int):=by omega
  have ih':=ih () trivial
  rw [b5,hH hi,kH] at ih'
  have hadd:=fun k=>qb (Fn:=FN n) (FnD:=dW Tryz.prog (fm tb Tryz.prog) (FN n)) (m:=M0) (cz ((o.getD []).take i)) (nb hr hi) fd0 k
  have hlen:((o.getD []).take i).length=i:=by simp;omega
  simp only [mB,hlen] at hadd
  simp only [sM,mapM,ae,aj,aP,aU,aw,ax,av,aA,aB,hlt',Jt,ac,Jv,bO hi,eC,aC,aS,dI,bp,ca,aO,ah,b8,aQ,K5,cz,hlen,hadd,aF,hw]
  exact ih'
theorem op4 (n:Nat) (me h:Int) (b:Option (List aT)) (o:Option (List aY)) (a:D) (hl:(o.getD []).length≤4611686018427387904) (hb:(b.getD []).length≤4611686018427387904) :
  AO (RP (n+4)) (il me) (dB b) (dS o) (il h) a=if bS me (b.getD []) (o.getD []) h=true then some (1,[.d a,.d (il 0),.m (mapM (b.getD []) (pg me (b.getD []) (o.getD []))),.r ((o.getD []).map rS),.d (il me),.d (dB b),.n (o.getD []).length,.n (o.getD []).length,.d (il h),.d (il 0),.d (il 0)]) else some (0,[.d a,.d (il 92),.d (il 0),.d (il 0)]):=by
 simp only [AO,an,Ay,s62 _ _ _ hb,yK,b7,ab,ae,aJ,ac,au,ah,bz,bS]
 by_cases h1:dR me=true
 ·by_cases h2:cC me (b.getD [])=true
  ·have h2':=h2
   simp only [cC,Js,Ju] at h2'
   by_cases h3:(o.getD []).length≤120
   ·have h3':¬ ((120:Int) < (o.getD []).length):=by omega
    by_cases h4:eZ h 0 (o.getD []).length=true
    ·have hmk:0≤((o.getD []).length:Int)∧((32:Nat):Int)*((o.getD []).length:Int)≤140737488355328∧((o.getD []).length:Int)≤9223372036854775807:=by omega
     simp only [h1,h2,h3,h3',h4,K1,Jq,Jx,Jv,Jt,Jw,Kf,s63 _ _ h2'.2,ab,ae,lT,hmk,Kk,Km,jb,lS,aQ,List.length_replicate,aS,b7,oy,bp,aN,lR,bf,K5]
     have hseg:=j9 ((o.getD []).map rS) [il 0,il 0,il 0,il 0]
     rw [K5] at hseg
     rw [hseg,l35 _ _ hb (fx h2'.1)]
     simp only [ab,ae,aj,aP,aw,ax,av,aA,K5,Jv,dj,dt,k9,mapM]
     rw [ja _ _ hb (bK h2) _ (by omega) _ _ _ _ _ (cz _)]
     have hr4:∀ k:Rr→az,(RP (n+4)).rowsD 4 (.sl 4 ((o.getD []).map rS)) k=k ((o.getD []).map rS):=fun _=>rfl
     simp only [ab,ae,aj,fv,aJ,ac,tp]
     have ha:∀ (a:List Value) (b:Rr) (k:Mr→az),(RP (n+4)).asM true (.mp true a b) k=k (a,b):=fun _ _ _=>rfl
     rw [ha]
     simp only [pg]
     rw [show (b.getD []).map (fun _=>fd0)=new (b.getD []) from rfl]
     cases (bI me (b.getD []) (new (b.getD [])) (o.getD [])).2<;>rfl
    ·simp [h1,h2,h3,h3',h4]
   ·have h3':((120:Int) < (o.getD []).length):=by omega
    simp [h1,h2,h3,h3']
  ·simp [h1,h2]
 ·simp [h1]
end
section
set_option maxRecDepth 100000
section
variable {Fn:Nat→List D→az} {FnD:D→List Sh→List D→az} {m:Nat}
theorem ed (bs:List aT) (fs:List Fld) (f:Int) (k:Nat→az) (e:az):(aa Fn FnD m).find 0 (mapM bs fs) (il f) k e=match dg f bs with
  | none=>e
  | some j=>k j:=by
 rw [show mapM bs fs=(fi bs,fs.map bT) from rfl,eo]
 cases dg f bs<;>rfl
theorem ck (bs:List aT) (fs:List Fld):(aa Fn FnD m).mrows (mapM bs fs)=fs.map bT:=rfl
end
theorem s29 (n:Nat) (me h:Int) (b:Option (List aT)) (o:Option (List aY)) (fld other:Int) (hl:(o.getD []).length≤4611686018427387904) (hb:(b.getD []).length≤4611686018427387904) :
  FN (n+6) 19 [il me,dB b,dS o,il h,il fld,il other]=nl me (b.getD []) (o.getD []) h fld BD (rH me (b.getD []) other BD fun j=>some (0,[.d (il ((fl me (b.getD []) (o.getD []) j).no other.toNat)),.d (il 0)])):=by
 rw [FS,J7]
 have hop:F4 (RP (n+5)) (il me) (dB b) (dS o) (il h) (il fld)=_:=op8 (n+1) me h b o (il fld) hl hb
 unfold G19
 refine gJ hop ?_
 unfold nl
 by_cases h1:bS me (b.getD []) (o.getD []) h=true
 ·have ho:=h1
  simp only [bS,Js] at h1
  simp only [ho,Jv,ab,bH,ae,aj,aP,aU,aw,ax,av,aA,ah,b8,br,ba,aB,My,Mf,Jw,Jt,ac,Jq,Jx,Jv,au,an,cH,lw _ _ hb,cR,Ju]
  cases hx:dg fld (b.getD []) with
  | none=>simp [BD]
  | some j =>
   obtain ⟨e,he,-,hg,hj⟩:=eg hx
   have h6:=bK h1.2.1 e (Ka he)
   have hf:=mH ho hj
   simp only [reduceCtorEq,Jx,im hx,bO he,eC,fL,rH,hg,pR _ _ h6,ab,ae,aJ]
   by_cases h2:other=me
   ·simp [h2,BD]
   ·by_cases h3:bU e.2 other=true
    ·have hp:dR other=true:=fD h3
     have hlt:=bP hp
     have hle:3*other.toNat+1≤20:=by omega
     have hle3:3*other.toNat+3≤20:=by omega
     simp only [h2,h3,Jw,K1,Jq,Mv,Jx,Jv,ab,ae,aP,aU,Jw,ac,Jq,Jx,Jv,ed,hx,bo hp,ck,bb hf,aH,bW,aC,cr,hle,bw,K4,Kq,eK _ hlt]
    ·simp [h2,h3,BD]
 ·simp [h1,BD]
theorem s33 (n:Nat) (me h:Int) (b:Option (List aT)) (o:Option (List aY)) (fld other:Int) (hl:(o.getD []).length≤4611686018427387904) (hb:(b.getD []).length≤4611686018427387904) :
  FN (n+6) 18 [il me,dB b,dS o,il h,il fld,il other]=nl me (b.getD []) (o.getD []) h fld oZ (rH me (b.getD []) other oZ fun j=>some (0,[.d (bl (cq me other (fl me (b.getD []) (o.getD []) j))),.d (il 0)])):=by
 rw [FS,J8]
 have hop:F4 (RP (n+5)) (il me) (dB b) (dS o) (il h) (il fld)=_:=op8 (n+1) me h b o (il fld) hl hb
 unfold G18
 refine gJ hop ?_
 unfold nl
 by_cases h1:bS me (b.getD []) (o.getD []) h=true
 ·have ho:=h1
  simp only [bS,Js] at h1
  simp only [ho,Jv,ab,bH,ae,aj,aP,aU,aw,ax,av,aA,ah,b8,br,ba,aB,My,Mf,Jw,Jt,ac,Jq,Jx,Jv,au,an,cH,lw _ _ hb,cR,Ju]
  cases hx:dg fld (b.getD []) with
  | none=>simp [oZ]
  | some j =>
   obtain ⟨e,he,-,hg,hj⟩:=eg hx
   have h6:=bK h1.2.1 e (Ka he)
   have hf:=mH ho hj
   simp only [reduceCtorEq,Jx,im hx,bO he,eC,fL,rH,hg,pR _ _ h6,ab,ae,aJ]
   by_cases h2:other=me
   ·simp [h2,oZ]
   ·by_cases h3:bU e.2 other=true
    ·have hp:dR other=true:=fD h3
     have hlt:=bP hp
     have hle:3*other.toNat+1≤20:=by omega
     have hle3:3*other.toNat+3≤20:=by omega
     simp only [h2,h3,Jw,K1,Jq,Mv,Jx,Jv,ab,ae,aj,aP,aU,ba,Jw,ac,Jq,Jx,Jv,Ju,ed,hx,bo hp,ck,bb hf,aH,bW,aC,cr,hle3,bw,K4,Kq,eK _ hlt,xY _ hlt,dZ,E9,eF _ _ _ _ (show (2:Int)≠0 by decide)]
     simp only [cq,gR]
     cases aK me other ((fl me (b.getD []) (o.getD []) j).no other.toNat) with
     | false=>simp
     | true=>by_cases h9:(fl me (b.getD []) (o.getD []) j).wants.tmod 2=1<;>simp [h9]
    ·simp [h2,h3,oZ]
 ·simp [h1,oZ]
theorem s35 (n:Nat) (me h:Int) (b:Option (List aT)) (o:Option (List aY)) (fld:Int) (hl:(o.getD []).length≤4611686018427387904) (hb:(b.getD []).length≤4611686018427387904) :
  FN (n+6) 13 [il me,dB b,dS o,il h,il fld]=nl me (b.getD []) (o.getD []) h fld oZ fun j=>some (0,[.d (bl (fl me (b.getD []) (o.getD []) j).opn),.d (il 0)]):=by
 rw [FS,Jd]
 have hop:AO (RP (n+5)) (il me) (dB b) (dS o) (il h) (il fld)=_:=op4 (n+1) me h b o (il fld) hl hb
 unfold G13
 refine gJ hop ?_
 unfold nl
 by_cases h1:bS me (b.getD []) (o.getD []) h=true
 ·have ho:=h1
  simp only [bS,Js] at h1
  simp only [ho,Jv,ab,bH,ae,aj,aP,aU,ah,b8,br,aB,My,Mf,Jw,ac,Jq,Jx,Jv,au,an,cH,lw _ _ hb,cR,Ju]
  cases hx:dg fld (b.getD []) with
  | none=>simp [oZ]
  | some j =>
   obtain ⟨e,he,-,hg,hj⟩:=eg hx
   have h6:=bK h1.2.1 e (Ka he)
   have hf:=mH ho hj
   simp only [reduceCtorEq,Jx,im hx,bO he,Jx,Jv,ed,hx,ck,bb hf,aH,aC,cr,bw,Nat.reduceAdd,Nat.reduceLeDiff,K4,Kq,fX]
 ·simp [h1,oZ]
theorem s37 (n:Nat) (me h:Int) (b:Option (List aT)) (o:Option (List aY)) (fld:Int) (hl:(o.getD []).length≤4611686018427387904) (hb:(b.getD []).length≤4611686018427387904) :
  FN (n+6) 14 [il me,dB b,dS o,il h,il fld]=nl me (b.getD []) (o.getD []) h fld oZ fun j=>some (0,[.d (bl (gR (fl me (b.getD []) (o.getD []) j).wants)),.d (il 0)]):=by
 rw [FS,Jc]
 have hop:AO (RP (n+5)) (il me) (dB b) (dS o) (il h) (il fld)=_:=op4 (n+1) me h b o (il fld) hl hb
 unfold G14
 refine gJ hop ?_
 unfold nl
 by_cases h1:bS me (b.getD []) (o.getD []) h=true
 ·have ho:=h1
  simp only [bS,Js] at h1
  simp only [ho,Jv,ab,bH,ae,aj,aP,aU,ah,b8,br,aB,My,Mf,Jw,ac,Jq,Jx,Jv,au,an,cH,lw _ _ hb,cR,Ju]
  cases hx:dg fld (b.getD []) with
  | none=>simp [oZ]
  | some j =>
   obtain ⟨e,he,-,hg,hj⟩:=eg hx
   have h6:=bK h1.2.1 e (Ka he)
   have hf:=mH ho hj
   simp only [reduceCtorEq,Jx,im hx,bO he,ba,Jx,Jv,ed,hx,ck,bb hf,aH,aC,cr,bw,Nat.reduceAdd,Nat.reduceLeDiff,K4,Kq,dZ,gR,eF _ _ _ _ (show (2:Int)≠0 by decide)]
 ·simp [h1,oZ]
end
end Go.VE
