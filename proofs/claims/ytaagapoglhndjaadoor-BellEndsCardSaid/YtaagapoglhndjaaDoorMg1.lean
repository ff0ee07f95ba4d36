/- Bell: reading strokes, as the program does. -/
import Derived.Test.YtaagapoglhndjaaDoorMg0
set_option maxRecDepth 20000
namespace Go.VE
open Go.RowKit Go.Proofs
section
def FJ (N:Nat) (bs:List aJ) (r:Rr) (c1 c2 c5:D) (c3 c4:Nat) (i:Nat) (fs:List Fld):List Yr:=[.n N,.n N,.d (il N),.d (il i),.m (mapM bs fs),.r r,.d c1,.d c2,.n c3,.n c4,.d c5]
def dV (bs:List aJ) (r:Rr) (c1 c2 c5:D) (c3 c4:Nat) (q:List Fld×Bool):az:=if q.2=true then some (1,[.m (mapM bs q.1),.r r,.d c1,.d c2,.n c3,.n c4,.d c5]) else some (0,[.d (bl false),.m (mapM bs q.1),.r r,.d c1,.d c2,.n c3,.n c4,.d c5])
theorem gw (fs:List Fld) (j:Nat) (g:Fld):(fs.set j g).length=fs.length:=Vc ..
section
variable {Fn:Nat→List D→az} {FnD:D→List Sh→List D→az} {m:Nat}
theorem xx {l:List ba} {i:Nat} {s:ba} (h:l[i]?=some s) (k:List D→az):(aa Fn FnD m).rowAt 4 (l.map rS) i k=k (rS s):=by
 rw [cU,K9,h];rfl
theorem cy (f:Int):(aa Fn FnD m).fnD 113 [(aa Fn FnD m).dpD [il f] 0]=.fn 113 [.dp [il f] 0]:=rfl
end
theorem l95 (n:Nat) (b:Option (List aJ)) (hb:(b.getD []).length≤4611686018427387904) (h6:∀ c∈b.getD [],lw c.2) (l:List ba) (hl:l.length≤4611686018427387904) (me:Int) (c5:D) (c3 c4:Nat) (fs:List Fld) (hf:fs.length=(b.getD []).length) :
  bm [eT (RP (n+3))] M0 0 (FJ l.length (b.getD []) (l.map rS) (il me) (dB b) c5 c3 c4 0 fs)=dV (b.getD []) (l.map rS) (il me) (dB b) c5 c3 c4 (bF me (b.getD []) fs l):=by
 have:=bA (β:=List Fld) l hl (eT (RP (n+3))) (fun i fs=>FJ l.length (b.getD []) (l.map rS) (il me) (dB b) c5 c3 c4 i fs) (fun _ fs=>fs.length=(b.getD []).length)
  (fun _ r fs=>dV (b.getD []) (l.map rS) (il me) (dB b) c5 c3 c4 (bF me (b.getD []) fs r)) ?_ ?_ M0 fs hf (dM hl)
 ·exact this
 ·intro fs k _
  simp [eT,FJ,dV,bF]
 ·intro i s r fs k hi hd hlt hw hfs ih
  have hlt':(i:Int) < (l.length:Int):=by omega
  have hin:0≤(i:Int)∧(i:Int) < (l.length:Nat):=by omega
  rw [bF]
  by_cases hs:iL s=true
  ·rw [K1 hs]
   cases hx:cM s.2.1 (b.getD []) with
   | none =>
    have hneg:tK s.2.1 (b.getD []) < 0:=ee.2 hx
    simp only [FJ,eT,ah,aj,aF,aH,ao,aw,aq,av,aU,hlt',Jr,ag,Js,aO,Jp,b6,bS,hin,Kt,K4,xx hi,G1,G0,FZ,FY,aC,tg,ae,hs,aY,K7,Jl,Ju,cy,l4 _ _ hb,ak,hneg,aZ,aL,bo,kC,dV]
    simp
   | some j =>
    obtain ⟨hj1,hj2⟩:=ea hx
    have hnn:¬ (tK s.2.1 (b.getD []) < 0):=by rw [ee,hx];simp
    have hix:tK s.2.1 (b.getD [])=(j:Int):=by simp [tK,hx]
    obtain ⟨e,he⟩:∃ e,(b.getD [])[j]?=some e:=⟨_,Jo hj1⟩
    have hP:lw e.2:=h6 e (K2 he)
    have hge:(b.getD []).getD j (0,0)=e:=by simp [K6,he]
    obtain ⟨f,hf⟩:∃ f,fs[j]?=some f:=⟨_,Jo (by omega)⟩
    have hgf:fs.getD j fd0=f:=by simp [K6,hf]
    simp only
    rw [hge,hgf]
    have ihs:∀ g,k 0 (FJ l.length (b.getD []) (l.map rS) (il me) (dB b) c5 c3 c4 (i+1) (fs.set j g))=dV (b.getD []) (l.map rS) (il me) (dB b) c5 c3 c4 (bF me (b.getD []) (fs.set j g) r):=fun g=>ih _ (by rw [gw];exact hfs)
    simp only [FJ,bn] at ihs
    simp only [FJ,eT,ah,aj,aF,aH,ao,aw,aq,av,aU,hlt',Jr,ag,Js,aO,Jp,b6,bS,hin,Kt,K4,xx hi,G1,G0,FZ,FY,aC,tg,ae,hs,aY,K7,Jl,Ju,cy,l4 _ _ hb,ak,hnn,Jt,aZ,aL]
    rw [hix,eK he]
    simp only [lj,vS,ae,ah,aj,aF,aH,ao,aw,aq,av]
    rcases qc hs with ⟨h1,ho⟩ | h1 | ⟨h1,ho⟩ | h1
    ·have hp:=gU ho
     have hq:0≤s.2.2.1∧s.2.2.1 < (6:Nat):=by have:=bT.1 ho;omega
     have k1:3*s.2.2.1.toNat+1≤20:=by omega
     have k2:3*s.2.2.1.toNat+1+1≤20:=by omega
     unfold aV
     simp only [h1,bo,Jr,Js,ae,ah,aj,aF,aH,ao,aw,aq,av,aY,ag,K7,Jl,Ju,r8 _ _ hP,mapM,aD,bS,hq,Kt,bI,aS hf,aN,cc,bV,bi,Jv,Kk,df,eu f hp,jQ,tw,e7,hx,dl,dQ,xm hf hp,aS (em hf _),pC (em hf _) hp,Te,b7,hw,k1,k2,show 19+1≤20 by decide,Jq]
     by_cases g1:s.2.2.1=me
     ·simp [g1,dV,mapM]
     ·by_cases g2:cE e.2 s.2.2.1=true
      ·by_cases g3:f.opn=true
       ·simp [g1,g2,g3,dV,mapM]
       ·by_cases g4:s.2.2.2≤f.no s.2.2.1.toNat
        ·simp [g1,g2,g3,g4,dV,mapM]
        ·have ih':=ihs { f with no:=bv f.no s.2.2.1.toNat s.2.2.2,af:=bv f.af s.2.2.1.toNat true }
         have g3':f.opn=false:=by simpa using g3
         simp only [mapM,g3'] at ih'
         simp only [g1,g2,g3',g4,Ju,ae,ah,aj,aF,aH,ao,aw,aq,av,aY,ag,K7,Jl,Jt,Mz]
         exact ih'
      ·simp [g1,g2,dV,mapM]
    ·unfold aV
     simp only [h1,bo,show ¬ ((2:Int)=1) by decide,show ¬ ((2:Int)=3) by decide,Jt,Js,ae,ah,aj,aF,aH,ao,aw,aq,av,aY,ag,K7,Jl,Ju,mapM,aD,bI,aS hf,aN,cc,bV,bi,Jv,Kk,cF,jQ,tv,e7,hx,dl,dQ,nf hf,br,e95_3,b7,hw,show 18+1≤20 by decide,Jq]
     by_cases g1:s.2.2.2≤f.wants
     ·simp [g1,dV,mapM]
     ·have ih':=ihs { f with wants:=s.2.2.2,af:=fun _=>false }
      have h0:=Gy (n+3) (b.getD []) (fs.set j { f with wants:=s.2.2.2 }) (em hf _) (il me) (dB b) c5 c3 c4 (l.map rS)
      simp only [mapM,Te] at ih' h0
      simp only [g1,Ju,h0,ae,ah,aj,aF,aH,ao,aw,aq,av]
      exact ih'
    ·have hp:=gU ho
     have hq:0≤s.2.2.1∧s.2.2.1 < (6:Nat):=by have:=bT.1 ho;omega
     have k2:3*s.2.2.1.toNat+2+1≤20:=by omega
     unfold aV
     simp only [h1,bo,show ¬ ((3:Int)=1) by decide,show ¬ ((3:Int)=2) by decide,Jr,Jt,Js,ae,ah,aj,aF,aH,ao,aw,aq,av,aY,ag,K7,Jl,Ju,r8 _ _ hP,mapM,aD,bS,hq,Kt,bI,aS hf,aN,cc,bV,bi,Jv,Kk,kQ f hp,jQ,tu,e7,hx,dl,dQ,te hf hp,b7,hw,k2,Jq]
     by_cases g1:s.2.2.1=me
     ·simp [g1,dV,mapM]
     ·by_cases g2:cE e.2 s.2.2.1=true
      ·by_cases g4:s.2.2.2≤f.ask s.2.2.1.toNat
       ·simp [g1,g2,g4,dV,mapM]
       ·have ih':=ihs { f with ask:=bv f.ask s.2.2.1.toNat s.2.2.2 }
        simp only [mapM] at ih'
        simp only [g1,g2,g4,Ju,ae,ah,aj,aF,aH,ao,aw,aq,av,K7,Jl,Jt,Mz]
        exact ih'
      ·simp [g1,g2,dV,mapM]
    ·unfold aV
     have he1:e.1=s.2.1:=by rw [←hge];exact hj2
     have hj0:¬ ((j:Int) < 0):=by omega
     simp only [h1,bo,show ¬ ((4:Int)=1) by decide,show ¬ ((4:Int)=2) by decide,show ¬ ((4:Int)=3) by decide,Jt,Js,ae,ah,aj,aF,aH,ao,aw,aq,av,aY,ag,K7,Jl,Ju,mapM,aD,tt,e7,hx,cy,l4 _ _ hb,hix,hj0,eK he,lj,vS,aU,bI,aS hf,aN,cc,bV,bi,Jv,Kk,df,gS,dl,dQ,br,e95_4,e95_5,b7,hw,show 19+1≤20 by decide,he1,Jq]
     by_cases g1:s.2.2.2=1
     ·cases g2:f.opn with
      | true=>simp [g1,dV,mapM]
      | false =>
       have h0:=fun y hy=>Gx (n:=n) hf hx hP me y hy (il s.2.1) (dB b) c5 c3 c4 (l.map rS)
       simp only [mapM] at h0
       simp only [g1,Jr,show ((false==true)=true)=False by simp,Ju,Js]
       rw [h0 _ (by simp)]
       cases hm:bQ me e.2 f with
       | nil =>
        have ih':=ihs { f with opn:=true }
        simp only [mapM] at ih'
        simp only [v6,ae,ah,aj,aF,aH,ao,aw,aq,av,cN,ag,show ¬ ((0:Int) < 0) by decide,Jt,Jl,Ju,aS hf,ky hf,aY,K7,T9,Bool.and_false,Mz,show ((false==true)=true)=False by simp]
        exact ih'
       | cons a t =>
        have:(0:Int) < ((t.length+1:Nat):Int):=by omega
        simp only [v6,ae,bf,ah,aj,aF,aH,ao,aw,aq,av,cN,ag,ci,this,Jr,Js,aY,Mq]
        simp [dV,mapM]
     ·cases g2:f.opn with
      | true =>
       have ih':=ihs { f with opn:=false }
       simp only [mapM] at ih'
       simp only [g1,Jt,show ((true==false)=true)=False by simp,Ju,Jl,ky hf,ae,ah,aj,aF,aH,ao,aw,aq,av,aY,ag,K7,Mh,Mz]
       exact ih'
      | false=>simp [g1,dV,mapM]
  ·simp only [FJ,eT,ah,aj,aF,aH,ao,aw,aq,av,aU,hlt',Jr,ag,Js,aO,Jp,b6,bS,hin,Kt,K4,xx hi,G1,G0,FZ,FY,aC,tg,ae,hs,aY,aL,aZ]
   simp [dV]
theorem gP (n:Nat) (b:Option (List aJ)) (hb:(b.getD []).length≤4611686018427387904) (h6:∀ c∈b.getD [],lw c.2) (l:List ba) (hl:l.length≤4611686018427387904) (me:Int) (c5:D) (c3 c4:Nat) (fs:List Fld) (hf:fs.length=(b.getD []).length) :
  FN (n+4) 1000095 [il me,dB b,il c3,il c4,c5,.sl 4 (l.map rS),.mp true (eY (b.getD [])) (fs.map bG)] =
   some (0,[.d (bl (bF me (b.getD []) fs l).2),.d (il me),.d (dB b),.d (il c3),.d (il c4),.d c5,.d (.sl 4 (l.map rS)),.d (.mp true (eY (b.getD [])) ((bF me (b.getD []) fs l).1.map bG))]):=by
 rw [FS,wO]
 have h:=l95 n b hb h6 l hl me c5 c3 c4 fs hf
 have ha:∀ k:Mr→az,(RP (n+3)).asM true (.mp true (eY (b.getD [])) (fs.map bG)) k=k (mapM (b.getD []) fs):=fun _=>rfl
 simp only [FJ,T4] at h
 simp only [wP,cT,ha,br,aO,Jp,ci,ak,l6,h,dV]
 cases (bF me (b.getD []) fs l).2<;>simp [fY,mapM]
end
section
def ck (me:Int) (bs:List aJ) (ss:List ba) (h:Int):Bool :=
 gz me&&(cr me bs&&(decide (ss.length≤120)&&(fg h 0 ss.length&&(bF me bs (bs.map fun _=>fd0) ss).2)))
theorem CW (me:Int) (bs:List aJ) (ss:List ba) (h:Int):ck me bs ss h=okW me bs ss h:=by
 unfold ck okW
 cases hb:cr me bs with
 | false=>simp
 | true =>
  have hr:kw bs:=by
   simp only [cr,Jn] at hb
   exact eB hb.1
  obtain ⟨-,p1,p2⟩:=jS (me:=me) hr ss (bs.map fun _=>fd0) (by simp)
  have hf:∀ i,(bs.map fun _=>fd0).getD i fd0=fd0:=fun i=>by
   simp only [K6,K9]
   cases bs[i]?<;>rfl
  have e:(bF me bs (bs.map fun _=>fd0) ss).2=(ss.all (rb bs)&&bs.all fun b=>(ay me b fd0 ss).2):=by
   rw [Bool.eq_iff_iff,Jn,Kq,Kq]
   constructor
   ·intro h
    obtain ⟨a,b⟩:=p1 h
    refine ⟨fun s hs=>?_,fun c hc=>?_⟩
    ·obtain ⟨a1,a2⟩:=a s hs
     simp only [rb,a1,Ki]
     cases hx:cM s.2.1 bs with
     | none=>exact absurd hx a2
     | some _=>rfl
    ·obtain ⟨i,hi,rfl⟩:=List.mem_iff_getElem.1 hc
     have:=b i hi
     rw [hf i] at this
     simp only [K6,Jo hi,M4] at this
     rw [this]
   ·rintro ⟨a,b⟩
    refine p2 (fun s hs=>?_) fun i hi=>?_
    ·have:=a s hs
     simp only [rb,Jn] at this
     refine ⟨this.1,fun hn=>?_⟩
     rw [hn] at this
     simp at this
    ·rw [hf i]
     have:=b bs[i] (List.getElem_mem hi)
     simpa only [K6,Jo hi,M4] using this
  rw [e]
section
variable {Fn:Nat→List D→az} {FnD:D→List Sh→List D→az} {m:Nat}
theorem Bl (bs:List aJ):(eY bs).length=bs.length:=by simp [eY]
theorem nq {bs:List aJ} {fs:List Fld} (hf:fs.length=bs.length) {e:aJ} (hx:cM e.1 bs=none) (g:Fld) (k:Mr→az) :
  (aa Fn FnD m).addK 0 (eY bs,fs.map bG++[bG g]) (il e.1) bs.length k=k (mapM (bs++[e]) (fs++[g])):=by
 have:vZ 0 (eY bs,fs.map bG++[bG g]) (il e.1) bs.length=some (mapM (bs++[e]) (fs++[g])):=by
  simp only [vZ,il,tG,fu,Bl,Tz,K0,Jp,hf,Jx,Jy]
  rw [K1 (by omega),nD,hx]
  simp [mapM,eY]
 simp only [aa,this]
end
theorem kA:bG fd0=[il 0,bl false,il 0,il 0,bl false,il 0,il 0,bl false,il 0,il 0,bl false,il 0,il 0,bl false,il 0,il 0,bl false,il 0,il 0,bl false]:=rfl
theorem kX {bs:List aJ} (hr:kw bs) {i:Nat} {e:aJ} (he:bs[i]?=some e):cM e.1 (bs.take i)=none:=by
 cases hx:cM e.1 (bs.take i) with
 | none=>rfl
 | some j =>
  obtain ⟨h1,h2⟩:=ea hx
  have hi:i < bs.length:=by
   rcases Nat.lt_or_ge i bs.length with h | h
   ·exact h
   ·rw [Kr h] at he;cases he
  have hj:j < i:=by simp at h1;omega
  have:=List.pairwise_iff_getElem.1 hr j i (by omega) hi hj
  rw [Jo hi] at he
  simp only [Jm] at he
  simp only [K6,M9,hj,Js,Jo (show j < bs.length by omega),M4] at h2
  rw [he] at this
  omega
def new (bs:List aJ):List Fld:=bs.map fun _=>fd0
theorem iU (bs:List aJ) (e:aJ):new (bs++[e])=new bs++[fd0]:=by simp [new]
theorem bU (bs:List aJ):(new bs).length=bs.length:=by simp [new]
theorem gH {α:Type} {l:List α} {i:Nat} {e:α} (h:l[i]?=some e):l.take (i+1)=l.take i++[e]:=by
 rw [List.take_add_one,h];rfl
theorem gN (r:Rr) (z:List D):r.take r.length++((List.replicate r.length z).drop r.length).take r.length=r:=by
 simp
end
section
def pg (me:Int) (bs:List aJ) (ss:List ba):List Fld:=(bF me bs (new bs) ss).1
def fl (me:Int) (bs:List aJ) (ss:List ba) (j:Nat):Fld:=(ay me (bs.getD j (0,0)) fd0 ss).1
theorem jU {me:Int} {bs:List aJ} (hr:kw bs) (ss:List ba):(pg me bs ss).length=bs.length:=(jS hr ss (new bs) (bU bs)).1
theorem bw {me:Int} {bs:List aJ} {ss:List ba} {h:Int} (ho:ck me bs ss h=true):kw bs:=by
 simp only [ck,cr,Jn] at ho
 exact eB ho.2.1.1
theorem zt (bs:List aJ) (i:Nat):(new bs).getD i fd0=fd0:=by
 simp only [new,K6,K9]
 cases bs[i]?<;>rfl
theorem jv {me:Int} {bs:List aJ} {ss:List ba} {h:Int} (ho:ck me bs ss h=true) {j:Nat} (hj:j < bs.length):(pg me bs ss)[j]?=some (fl me bs ss j):=by
 have hr:=bw ho
 have ho':=ho
 simp only [ck,Jn] at ho'
 have:=(jS (me:=me) hr ss (new bs) (bU bs)).2.1 ho'.2.2.2.2
 have h1:=this.2 j hj
 rw [zt] at h1
 have h2:j < (pg me bs ss).length:=by rw [jU hr];exact hj
 rw [Jo h2]
 unfold fl
 rw [h1]
 simp [pg,K6,Jo (show j < (bF me bs (new bs) ss).1.length from h2)]
def oM (me:Int) (bs:List aJ) (ss:List ba) (h fld:Int) (bad:Int→az) (k:Nat→az):az :=
 if ck me bs ss h=true then (match cM fld bs with
  | none=>bad 94
  | some j=>k j) else bad 92
def C7 (me:Int) (bs:List aJ) (other:Int) (bad:Int→az) (k:Nat→az) (j:Nat):az :=
 if decide (other=me)||!cE (bs.getD j (0,0)).2 other then bad 1 else k j
def nP (e:Int):az:=some (0,[.d (bl false),.d (il e)])
def BN (e:Int):az:=some (0,[.d ed,.d (il e)])
theorem eH {α:Type} {l:List α} {j:Nat} {e:α} (d:α) (h:l[j]?=some e):l.getD j d=e:=by simp [K6,h]
theorem fS {bs:List aJ} {fld:Int} {j:Nat} (h:cM fld bs=some j):∃ e,bs[j]?=some e∧e.1=fld∧bs.getD j (0,0)=e∧j < bs.length:=by
 obtain ⟨h1,h2⟩:=ea h
 refine ⟨bs[j],Jo h1,?_,eH _ (Jo h1),h1⟩
 rw [eH _ (Jo h1)] at h2
 exact h2
theorem o8 {me:Int} {bs:List aJ} {ss:List ba} {h:Int} (ho:okW me bs ss h=true):gz me=true∧cr me bs=true∧(∀ s∈ss,iL s=true):=by
 simp only [okW,Jn] at ho
 exact ⟨ho.1,ho.2.1,G4 ho.2.2.2.2.1⟩
theorem lG {fld:Int} {bs:List aJ} {j:Nat} (h:cM fld bs=some j):tK fld bs=(j:Int):=by simp [tK,h]
end
section
def fe (z:Int):Bool:=decide (z.tmod 2=1)
def aT (me o:Int) (f:Fld):Bool:=aK me o (f.no o.toNat)&&(fe f.wants&&f.af o.toNat)
end
section
def yB (en0:Nat→List Yr) (en1:Nat→Rr→List Yr) (i:Nat) (acc:Rr):Nat×List Yr:=match acc with
 | []=>(0,en0 i)
 | a::t=>(1,en1 i (a::t))
def uk (o0:az) (o1:Rr→az) (acc:Rr):az:=match acc with
 | []=>o0
 | a::t=>o1 (a::t)
theorem BS (en0:Nat→List Yr) (en1:Nat→Rr→List Yr) (i:Nat) (acc:Rr) (r:List D):yB en0 en1 i (acc++[r])=(1,en1 i (acc++[r])):=by
 cases acc<;>rfl
theorem wc (N:Nat) (hN:N≤4611686018427387904) (row:Nat→Option (List D)) (b0 b1:(Nat→List Yr→az)→List Yr→az) (en0:Nat→List Yr) (en1:Nat→Rr→List Yr) (o0:az) (o1:Rr→az)
  (h0:∀ k,b0 k (en0 N)=o0) (h1:∀ k a t,(a::t).length≤N→b1 k (en1 N (a::t))=o1 (a::t))
  (s0:∀ i k,i < N→IntKind.i64.wrap ((i:Int)+1)=(i:Int)+1→b0 k (en0 i)=match row i with
   | none=>k 0 (en0 (i+1))
   | some r=>k 1 (en1 (i+1) [r]))
  (s1:∀ i k a t,i < N→(a::t).length≤i→IntKind.i64.wrap ((i:Int)+1)=(i:Int)+1→b1 k (en1 i (a::t))=match row i with
   | none=>k 1 (en1 (i+1) (a::t))
   | some r=>k 1 (en1 (i+1) (a::t++[r]))) :
  bm [b0,b1] M0 0 (en0 0)=uk o0 o1 ((List.range N).filterMap row):=by
 have:=kM (σ:=Nat×Rr) [b0,b1] (fun s=>yB en0 en1 s.1 s.2) (fun s=>N - s.1) (fun s=>s.1≤N∧s.2.length≤s.1)
  (fun s=>uk o0 o1 (s.2++(List.range' s.1 (N - s.1)).filterMap row)) ?_ M0 (0,[]) ⟨by simp,by simp⟩ (by simp only [M0];omega)
 ·simpa [yB,List.range_eq_range'] using this
 ·rintro ⟨i,acc⟩ k ⟨hi,ha⟩ ih
  simp only at hi ha
  by_cases hN':i=N
  ·subst hN'
   cases acc with
   | nil=>exact ⟨b0,rfl,by simp [yB,uk,h0]⟩
   | cons a t=>exact ⟨b1,rfl,by simp [yB,uk,h1 k a t ha]⟩
  ·have hi':i < N:=by omega
   have hw:=fD hi' hN
   have ih0:=ih (i+1,acc) ⟨hi',by simp only;omega⟩ (by simp only;omega)
   have ih1:=fun r=>ih (i+1,acc++[r]) ⟨hi',by simp;omega⟩ (by simp only;omega)
   simp only [BS,Kb,Kp,Ke] at ih1
   simp only at ih0
   have e:List.range' i (N - i)=i::List.range' (i+1) (N - (i+1)):=by
    rw [show N - i=(N - (i+1))+1 by omega,List.range'_succ]
   rw [e]
   simp only [List.filterMap_cons]
   cases acc with
   | nil =>
    refine ⟨b0,rfl,?_⟩
    simp only [yB] at ih0 ⊢
    rw [s0 i k hi' hw]
    cases hr:row i with
    | none=>exact ih0
    | some r=>exact ih1 r
   | cons a t =>
    refine ⟨b1,rfl,?_⟩
    simp only [yB] at ih0 ⊢
    rw [s1 i k a t hi' ha hw]
    cases hr:row i with
    | none=>exact ih0
    | some r=>exact ih1 r
def uF {α:Type} (p:α→Bool) (g:α→List D) (x:α):Option (List D):=if p x=true then some (g x) else none
theorem oR {α:Type} (p:α→Bool) (g:α→List D) (l:List α):l.filterMap (uF p g)=(l.filter p).map g:=by
 induction l with
 | nil=>rfl
 | cons x r ih =>
  simp only [List.filterMap_cons,uF,Mo]
  cases p x<;>simp [←ih]
def rN (o:Nat):List D:=[il o]
def dN (l:List Nat):D:=match l with
 | []=>ed
 | a::t=>.sl 1 ((a::t).map rN)
def D2 (me P:Int) (f:Fld):List Nat:=(List.range 6).filter fun (o:Nat)=>!decide ((o:Int)=me)&&(P.toNat.testBit o&&!aK me o (f.no o))
theorem Fd (me P:Int) (f:Fld):D2 me P f=bQ me P f:=by
 unfold D2 bQ HG
 rw [List.filter_filter]
 congr 1
 funext o
 cases decide ((o:Int)=me)<;>cases P.toNat.testBit o<;>simp
theorem kB {Fn:Nat→List D→az} {FnD:D→List Sh→List D→az} {m:Nat} {i:Nat} (h:i < 6) (k:Nat→az):(aa Fn FnD m).inx (il i) 6 k=k i:=by
 rw [bS,K1 (by omega),K4]
theorem fit0 (b:Nat) (hb:b≤32):(0+1)*b≤140737488355328∧0+1≤9223372036854775807:=by omega
theorem Fy {n:Nat} (b:Nat) (hb:b≤32) (hn:n≤4294967296):(n+1+(0+1))*b≤140737488355328∧n+1+(0+1)≤9223372036854775807:=by
 have:(n+1+(0+1))*b≤(n+1+(0+1))*32:=Nat.mul_le_mul_left _ hb
 omega
end
section
abbrev Wrt:=Int×List ba
def wantX (fld:Int) (f:Fld):Wrt:=if f.opn=true then (95,[]) else if fe f.wants=true then (0,[]) else (0,[(2,fld,0,f.wants+1)])
def ringX (me P fld:Int) (f:Fld):Wrt:=if f.opn=true then (95,[]) else if (bQ me P f).isEmpty=true then (if f.wants=99999 then (2,[]) else (0,(4,fld,0,1)::(if fe f.wants=true then [(2,fld,0,f.wants+1)] else []))) else (97,[])
def shutX (fld:Int) (f:Fld):Wrt:=if f.opn=true then (0,[(4,fld,0,0)]) else (96,[])
def bH (me P:Int) (f:Fld) (o:Nat):Bool:=!decide ((o:Int)=me)&&(P.toNat.testBit o&&(fe (f.ask o)&&(aK me o (f.no o)&&(!aT me o f&&decide (f.no o < 99999)))))
def ep (me:Int) (e:aJ) (f:Fld):List ba:=if f.opn=true then [] else ((List.range 6).filter (bH me e.2 f)).map fun (o:Nat)=>(1,e.1,(o:Int),f.no o+1)
def serveX (me:Int) (bs:List aJ) (ss:List ba):List ba:=bs.flatMap fun e=>ep me e (ay me e fd0 ss).1
def iu (me a:Int) (t:j8) (f:Fld):List ba:=(if f.ask a.toNat < t.2.2 then [(3,t.1,a,t.2.2)] else [])++(if f.no a.toNat < t.2.1∧aK me a t.2.1=true∧f.opn=false then [(1,t.1,a,t.2.1)] else [])
def mH (me a:Int) (bs:List aJ) (ss:List ba) (t:j8):List ba:=match cM t.1 bs with
 | none=>[]
 | some j=>if cE (bs.getD j (0,0)).2 a=true then iu me a t (fl me bs ss j) else []
def hearX (me a:Int) (bs:List aJ) (ss:List ba) (l:List j8):List ba:=l.flatMap (mH me a bs ss)
def fA (me h:Int) (b:Option (List aJ)) (ss:List ba) (q:Wrt):az:=if q.1=0 then (if 120 < ss.length+q.2.length then gB 2 else some (0,[.d (il me),.d (dB b),.d (dS (some (ss++q.2))),.d (il h),.d (il 0)])) else gB q.1
def md (f:Fld):Prop:=(0≤f.wants∧f.wants≤99999)∧∀ o,(0≤f.no o∧f.no o≤99999)∧(0≤f.ask o∧f.ask o≤99999)
theorem rng_0:md fd0:=⟨by simp [fd0],fun o=>by simp [fd0]⟩
theorem tC {s:ba} (h:iL s=true) (h4:s.1≠4):1≤s.2.2.2∧s.2.2.2≤99999:=by
 simp only [iL,Jn] at h
 obtain ⟨-,h⟩:=h
 split at h
 ·simp only [fg,Jn,Jq] at h;exact h.2
 ·split at h
  ·simp only [fg,Jn,Jq] at h;exact h.2
  ·simp [] at h
theorem By {me P:Int} {f g:Fld} {s:ba} (hs:iL s=true) (hf:md f) (h:aV me P f s=some g):md g:=by
 unfold aV at h
 split at h
 ·rename_i h1
  split at h
  ·cases h
  ·have:=tC hs (by omega)
   cases h
   refine ⟨hf.1,fun o=>⟨?_,(hf.2 o).2⟩⟩
   simp only [bv]
   split
   ·omega
   ·exact (hf.2 o).1
 ·split at h
  ·rename_i h2
   split at h
   ·cases h
   ·have:=tC hs (by omega)
    cases h
    exact ⟨by simp only;omega,hf.2⟩
  ·split at h
   ·rename_i h3
    split at h
    ·cases h
    ·have:=tC hs (by omega)
     cases h
     refine ⟨hf.1,fun o=>⟨(hf.2 o).1,?_⟩⟩
     simp only [bv]
     split
     ·omega
     ·exact (hf.2 o).2
   ·split at h
    ·cases h
    ·cases h
     exact hf
theorem nI {me:Int} {e:aJ}:∀ (l:List ba) (f:Fld),(∀ s∈l,iL s=true)→md f→md (ay me e f l).1
 | [],f,_,hf=>hf
 | s::r,f,hl,hf=>by
  have hr:=fun t (ht:t∈r)=>hl t (Ks _ ht)
  unfold ay
  split
  ·cases hs:aV me e.2 f s with
   | none=>exact hf
   | some g=>exact nI r g hr (By (hl s Mj) hf hs)
  ·exact nI r f hr hf
theorem hH {me:Int} {bs:List aJ} {ss:List ba} {h:Int} (ho:ck me bs ss h=true) (j:Nat):md (fl me bs ss j):=by
 rw [CW] at ho
 exact nI ss fd0 (o8 ho).2.2 rng_0
end
section
theorem e97_3:@qR=@eX:=rfl
theorem e97_4:@qQ=@eW:=rfl
theorem e97_5:@qP=@eU:=rfl
def FF (l:List ba) (bs:List aJ) (r:Rr) (c1 c2 c5:D) (c3 c4:Nat) (i:Nat) (fs:List Fld):List Yr:=[.d (dS (some l)),.d (il l.length),.d (il i),.m (mapM bs fs),.r r,.d c1,.d c2,.n c3,.n c4,.d c5]
theorem l97 (n:Nat) (b:Option (List aJ)) (hb:(b.getD []).length≤4611686018427387904) (h6:∀ c∈b.getD [],lw c.2) (l:List ba) (hl:l.length≤4611686018427387904) (r0:Rr) (me:Int) (c5:D) (c3 c4:Nat) (fs:List Fld) (hf:fs.length=(b.getD []).length) :
  bm [eR (RP (n+3))] M0 0 (FF l (b.getD []) r0 (il me) (dB b) c5 c3 c4 0 fs)=dV (b.getD []) r0 (il me) (dB b) c5 c3 c4 (bF me (b.getD []) fs l):=by
 have:=bA (β:=List Fld) l hl (eR (RP (n+3))) (fun i fs=>FF l (b.getD []) r0 (il me) (dB b) c5 c3 c4 i fs) (fun _ fs=>fs.length=(b.getD []).length)
  (fun _ r fs=>dV (b.getD []) r0 (il me) (dB b) c5 c3 c4 (bF me (b.getD []) fs r)) ?_ ?_ M0 fs hf (dM hl)
 ·exact this
 ·intro fs k _
  simp [eR,FF,dV,bF]
 ·intro i s r fs k hi hd hlt hw hfs ih
  have hlt':(i:Int) < (l.length:Int):=by omega
  have hin:0≤(i:Int)∧(i:Int) < (l.length:Nat):=by omega
  rw [bF]
  by_cases hs:iL s=true
  ·rw [K1 hs]
   cases hx:cM s.2.1 (b.getD []) with
   | none =>
    have hneg:tK s.2.1 (b.getD []) < 0:=ee.2 hx
    simp only [FF,eR,ah,aj,aF,aH,ao,aw,aq,av,aU,hlt',Jr,ag,Js,AO (o:=some l) hi,G1,G0,FZ,FY,aC,tg,ae,hs,aY,K7,Jl,Ju,cy,l4 _ _ hb,ak,hneg,aZ,aL,bo,kC,dV]
    simp
   | some j =>
    obtain ⟨hj1,hj2⟩:=ea hx
    have hnn:¬ (tK s.2.1 (b.getD []) < 0):=by rw [ee,hx];simp
    have hix:tK s.2.1 (b.getD [])=(j:Int):=by simp [tK,hx]
    obtain ⟨e,he⟩:∃ e,(b.getD [])[j]?=some e:=⟨_,Jo hj1⟩
    have hP:lw e.2:=h6 e (K2 he)
    have hge:(b.getD []).getD j (0,0)=e:=by simp [K6,he]
    obtain ⟨f,hf⟩:∃ f,fs[j]?=some f:=⟨_,Jo (by omega)⟩
    have hgf:fs.getD j fd0=f:=by simp [K6,hf]
    simp only
    rw [hge,hgf]
    have ihs:∀ g,k 0 (FF l (b.getD []) r0 (il me) (dB b) c5 c3 c4 (i+1) (fs.set j g))=dV (b.getD []) r0 (il me) (dB b) c5 c3 c4 (bF me (b.getD []) (fs.set j g) r):=fun g=>ih _ (by rw [gw];exact hfs)
    simp only [FF,bn] at ihs
    simp only [FF,eR,ah,aj,aF,aH,ao,aw,aq,av,aU,hlt',Jr,ag,Js,AO (o:=some l) hi,G1,G0,FZ,FY,aC,tg,ae,hs,aY,K7,Jl,Ju,cy,l4 _ _ hb,ak,hnn,Jt,aZ,aL]
    rw [hix,eK he]
    simp only [lj,vS,ae,ah,aj,aF,aH,ao,aw,aq,av]
    rcases qc hs with ⟨h1,ho⟩ | h1 | ⟨h1,ho⟩ | h1
    ·have hp:=gU ho
     have hq:0≤s.2.2.1∧s.2.2.1 < (6:Nat):=by have:=bT.1 ho;omega
     have k1:3*s.2.2.1.toNat+1≤20:=by omega
     have k2:3*s.2.2.1.toNat+1+1≤20:=by omega
     unfold aV
     simp only [h1,bo,Jr,Js,ae,ah,aj,aF,aH,ao,aw,aq,av,aY,ag,K7,Jl,Ju,r8 _ _ hP,mapM,aD,bS,hq,Kt,bI,aS hf,aN,cc,bV,bi,Jv,Kk,df,eu f hp,jQ,tw,e7,hx,dl,dQ,xm hf hp,aS (em hf _),pC (em hf _) hp,Te,b7,hw,k1,k2,show 19+1≤20 by decide,Jq]
     by_cases g1:s.2.2.1=me
     ·simp [g1,dV,mapM]
     ·by_cases g2:cE e.2 s.2.2.1=true
      ·by_cases g3:f.opn=true
       ·simp [g1,g2,g3,dV,mapM]
       ·by_cases g4:s.2.2.2≤f.no s.2.2.1.toNat
        ·simp [g1,g2,g3,g4,dV,mapM]
        ·have ih':=ihs { f with no:=bv f.no s.2.2.1.toNat s.2.2.2,af:=bv f.af s.2.2.1.toNat true }
         have g3':f.opn=false:=by simpa using g3
         simp only [mapM,g3'] at ih'
         simp only [g1,g2,g3',g4,Ju,ae,ah,aj,aF,aH,ao,aw,aq,av,aY,ag,K7,Jl,Jt,Mz]
         exact ih'
      ·simp [g1,g2,dV,mapM]
    ·unfold aV
     simp only [h1,bo,show ¬ ((2:Int)=1) by decide,show ¬ ((2:Int)=3) by decide,Jt,Js,ae,ah,aj,aF,aH,ao,aw,aq,av,aY,ag,K7,Jl,Ju,mapM,aD,bI,aS hf,aN,cc,bV,bi,Jv,Kk,cF,jQ,tv,e7,hx,dl,dQ,nf hf,br,e97_3,b7,hw,show 18+1≤20 by decide,Jq]
     by_cases g1:s.2.2.2≤f.wants
     ·simp [g1,dV,mapM]
     ·have ih':=ihs { f with wants:=s.2.2.2,af:=fun _=>false }
      have h0:=Gy (n+3) (b.getD []) (fs.set j { f with wants:=s.2.2.2 }) (em hf _) (il me) (dB b) c5 c3 c4 r0
      simp only [mapM,Te] at ih' h0
      simp only [g1,Ju,h0,ae,ah,aj,aF,aH,ao,aw,aq,av]
      exact ih'
    ·have hp:=gU ho
     have hq:0≤s.2.2.1∧s.2.2.1 < (6:Nat):=by have:=bT.1 ho;omega
     have k2:3*s.2.2.1.toNat+2+1≤20:=by omega
     unfold aV
     simp only [h1,bo,show ¬ ((3:Int)=1) by decide,show ¬ ((3:Int)=2) by decide,Jr,Jt,Js,ae,ah,aj,aF,aH,ao,aw,aq,av,aY,ag,K7,Jl,Ju,r8 _ _ hP,mapM,aD,bS,hq,Kt,bI,aS hf,aN,cc,bV,bi,Jv,Kk,kQ f hp,jQ,tu,e7,hx,dl,dQ,te hf hp,b7,hw,k2,Jq]
     by_cases g1:s.2.2.1=me
     ·simp [g1,dV,mapM]
     ·by_cases g2:cE e.2 s.2.2.1=true
      ·by_cases g4:s.2.2.2≤f.ask s.2.2.1.toNat
       ·simp [g1,g2,g4,dV,mapM]
       ·have ih':=ihs { f with ask:=bv f.ask s.2.2.1.toNat s.2.2.2 }
        simp only [mapM] at ih'
        simp only [g1,g2,g4,Ju,ae,ah,aj,aF,aH,ao,aw,aq,av,K7,Jl,Jt,Mz]
        exact ih'
      ·simp [g1,g2,dV,mapM]
    ·unfold aV
     have he1:e.1=s.2.1:=by rw [←hge];exact hj2
     have hj0:¬ ((j:Int) < 0):=by omega
     simp only [h1,bo,show ¬ ((4:Int)=1) by decide,show ¬ ((4:Int)=2) by decide,show ¬ ((4:Int)=3) by decide,Jt,Js,ae,ah,aj,aF,aH,ao,aw,aq,av,aY,ag,K7,Jl,Ju,mapM,aD,tt,e7,hx,cy,l4 _ _ hb,hix,hj0,eK he,lj,vS,aU,bI,aS hf,aN,cc,bV,bi,Jv,Kk,df,gS,dl,dQ,br,e97_4,e97_5,b7,hw,show 19+1≤20 by decide,he1,Jq]
     by_cases g1:s.2.2.2=1
     ·cases g2:f.opn with
      | true=>simp [g1,dV,mapM]
      | false =>
       have h0:=fun y hy=>Gx (n:=n) hf hx hP me y hy (il s.2.1) (dB b) c5 c3 c4 r0
       simp only [mapM] at h0
       simp only [g1,Jr,show ((false==true)=true)=False by simp,Ju,Js]
       rw [h0 _ (by simp)]
       cases hm:bQ me e.2 f with
       | nil =>
        have ih':=ihs { f with opn:=true }
        simp only [mapM] at ih'
        simp only [v6,ae,ah,aj,aF,aH,ao,aw,aq,av,cN,ag,show ¬ ((0:Int) < 0) by decide,Jt,Jl,Ju,aS hf,ky hf,aY,K7,T9,Bool.and_false,Mz,show ((false==true)=true)=False by simp]
        exact ih'
       | cons a t =>
        have:(0:Int) < ((t.length+1:Nat):Int):=by omega
        simp only [v6,ae,bf,ah,aj,aF,aH,ao,aw,aq,av,cN,ag,ci,this,Jr,Js,aY,Mq]
        simp [dV,mapM]
     ·cases g2:f.opn with
      | true =>
       have ih':=ihs { f with opn:=false }
       simp only [mapM] at ih'
       simp only [g1,Jt,show ((true==false)=true)=False by simp,Ju,Jl,ky hf,ae,ah,aj,aF,aH,ao,aw,aq,av,aY,ag,K7,Mh,Mz]
       exact ih'
      | false=>simp [g1,dV,mapM]
  ·simp only [FF,eR,ah,aj,aF,aH,ao,aw,aq,av,aU,hlt',Jr,ag,Js,AO (o:=some l) hi,G1,G0,FZ,FY,aC,tg,ae,hs,aY,aL,aZ]
   simp [dV]
theorem gO (n:Nat) (b:Option (List aJ)) (hb:(b.getD []).length≤4611686018427387904) (h6:∀ c∈b.getD [],lw c.2) (l:List ba) (hl:l.length≤4611686018427387904) (r0:Rr) (me:Int) (c5:D) (c3 c4:Nat) (fs:List Fld) (hf:fs.length=(b.getD []).length) :
  FN (n+4) 1300095 [il me,dB b,il c3,il c4,c5,.sl 4 r0,.mp true (eY (b.getD [])) (fs.map bG),.sl 4 (l.map rS)] =
   some (0,[.d (bl (bF me (b.getD []) fs l).2),.d (il me),.d (dB b),.d (il c3),.d (il c4),.d c5,.d (.sl 4 r0),.d (.mp true (eY (b.getD [])) ((bF me (b.getD []) fs l).1.map bG))]):=by
 rw [FS,wM]
 have h:=l97 n b hb h6 l hl r0 me c5 c3 c4 fs hf
 have ha:∀ k:Mr→az,(RP (n+3)).asM true (.mp true (eY (b.getD [])) (fs.map bG)) k=k (mapM (b.getD []) fs):=fun _=>rfl
 have hd:(D.sl 4 (l.map rS))=dS (some l):=rfl
 have hn:(RP (n+3)).lenD (dS (some l))=fun k=>k (il l.length):=by funext k;exact cX _ _ _ k
 simp only [FF,T4] at h
 simp only [wN,cT,hd,hn,ha,br,ak,l6,h,dV]
 cases (bF me (b.getD []) fs l).2<;>simp [fY,mapM]
end
section
set_option maxRecDepth 100000
section
variable {Δ N R W M E Ω:Type} (p:Pr Δ N R W M E Ω)
def HH (a0 a1 a2 a3 a4: Δ):Ω:=(p.bnd (p.call 61 [a0]) [fun y0=>p.un .not (p.ld y0 0) fun x1=>p.cond x1 (p.out 0 [.d a4,.d (p.lit (.int .i64 92)),.d (p.lit (.int .i64 0)),.d (p.lit (.int .i64 0)),.d a0,.d a1,.d a2,.d a3]) (p.bnd (p.call 62 [a0,a1]) [fun y2=>p.un .not (p.ld y2 0) fun x3=>p.cond x3 (p.out 0 [.d a4,.d (p.lit (.int .i64 92)),.d (p.lit (.int .i64 0)),.d (p.lit (.int .i64 0)),.d a0,.d a1,.d a2,.d a3]) (p.lenD a2 fun x4=>p.bin .gtr false x4 (p.lit (.int .i64 120)) fun x5=>p.cond x5 (p.out 0 [.d a4,.d (p.lit (.int .i64 92)),.d (p.lit (.int .i64 0)),.d (p.lit (.int .i64 0)),.d a0,.d a1,.d a2,.d a3]) (p.lenD a2 fun x6=>p.bnd (p.call 68 [a3,(p.lit (.int .i64 0)),x6]) [fun y7=>p.un .not (p.ld y7 0) fun x8=>p.cond x8 (p.out 0 [.d a4,.d (p.lit (.int .i64 92)),.d (p.lit (.int .i64 0)),.d (p.lit (.int .i64 0)),.d a0,.d a1,.d a2,.d a3]) (p.bnd (p.call 63 [a1]) [fun y9=>p.lenD a2 fun x10=>p.mkN 32 x10 x10 fun n11=>p.rowsD 4 a2 fun r12=>p.eqN n11 (p.len (p.repl n11 [(p.lit (.int .i64 0)),(p.lit (.int .i64 0)),(p.lit (.int .i64 0)),(p.lit (.int .i64 0))])) (p.eqN n11 (p.len (p.repl n11 [(p.lit (.int .i64 0)),(p.lit (.int .i64 0)),(p.lit (.int .i64 0)),(p.lit (.int .i64 0))])) (p.lenD (p.ld y9 0) fun x13=>p.bnd (p.loop [(sQ p)] 0 [.d (p.ld y9 0),.d x13,.d (p.lit (.int .i64 0)),.m p.emp,.d a0,.d (p.ld y9 0),.n n11,.n n11,.d a3,.d a0,.d a1,.d a2,.d a3,.d a0,.d a1,.d a2,.d a3,.d (p.lit (.int .i64 0)),.d (p.lit (.int .i64 0)),.r (p.app (p.seg r12 none n11) (p.seg (p.repl n11 [(p.lit (.int .i64 0)),(p.lit (.int .i64 0)),(p.lit (.int .i64 0)),(p.lit (.int .i64 0))]) (some (p.len r12)) n11)),.d a0,.d (p.ld y9 0),.n n11,.n n11,.d a3]) [fun y14=>p.eqN n11 (p.len (p.lr y14 16)) (p.eqN n11 (p.len (p.lr y14 16)) (p.bnd (p.call 1000095 [p.ld y14 1,p.ld y14 2,(p.natD (p.ln y14 3)),(p.natD (p.ln y14 4)),p.ld y14 5,(p.slD 4 (p.lr y14 16)),(p.mpD true (p.lm y14 0))]) [fun y15=>p.rowsD 4 (p.ld y15 6) fun r16=>p.asM true (p.ld y15 7) fun q17=>p.un .not (p.ld y15 0) fun x18=>p.cond x18 (p.out 0 [.d a4,.d (p.lit (.int .i64 92)),.d (p.ld y14 14),.d (p.ld y14 15),.d (p.ld y14 6),.d (p.ld y14 7),.d (p.ld y14 8),.d (p.ld y14 9)]) (p.out 1 [.d a4,.d (p.lit (.int .i64 0)),.m q17,.r r16,.d (p.ld y15 1),.d (p.ld y15 2),.n (p.dN (p.ld y15 3)),.n (p.dN (p.ld y15 4)),.d (p.ld y15 5),.d (p.ld y14 14),.d (p.ld y14 15),.d (p.ld y14 6),.d (p.ld y14 7),.d (p.ld y14 8),.d (p.ld y14 9)])]))]))])]))])])
def F8 (a0 a1 a2 a3 a4: Δ):Ω:=(p.bnd (p.call 61 [a0]) [fun y0=>p.un .not (p.ld y0 0) fun x1=>p.cond x1 (p.out 0 [.d a4,.d (p.lit (.int .i64 92)),.d (p.lit (.int .i64 0)),.d (p.lit (.int .i64 0))]) (p.bnd (p.call 62 [a0,a1]) [fun y2=>p.un .not (p.ld y2 0) fun x3=>p.cond x3 (p.out 0 [.d a4,.d (p.lit (.int .i64 92)),.d (p.lit (.int .i64 0)),.d (p.lit (.int .i64 0))]) (p.lenD a2 fun x4=>p.bin .gtr false x4 (p.lit (.int .i64 120)) fun x5=>p.cond x5 (p.out 0 [.d a4,.d (p.lit (.int .i64 92)),.d (p.lit (.int .i64 0)),.d (p.lit (.int .i64 0))]) (p.lenD a2 fun x6=>p.bnd (p.call 68 [a3,(p.lit (.int .i64 0)),x6]) [fun y7=>p.un .not (p.ld y7 0) fun x8=>p.cond x8 (p.out 0 [.d a4,.d (p.lit (.int .i64 92)),.d (p.lit (.int .i64 0)),.d (p.lit (.int .i64 0))]) (p.bnd (p.call 63 [a1]) [fun y9=>p.lenD a2 fun x10=>p.mkN 32 x10 x10 fun n11=>p.rowsD 4 a2 fun r12=>p.eqN n11 (p.len (p.repl n11 [(p.lit (.int .i64 0)),(p.lit (.int .i64 0)),(p.lit (.int .i64 0)),(p.lit (.int .i64 0))])) (p.eqN n11 (p.len (p.repl n11 [(p.lit (.int .i64 0)),(p.lit (.int .i64 0)),(p.lit (.int .i64 0)),(p.lit (.int .i64 0))])) (p.lenD (p.ld y9 0) fun x13=>p.bnd (p.loop [(sP p)] 0 [.d (p.ld y9 0),.d x13,.d (p.lit (.int .i64 0)),.m p.emp,.d a0,.d (p.ld y9 0),.n n11,.n n11,.d a3,.d a0,.d a1,.d a2,.d a3,.d (p.lit (.int .i64 0)),.d (p.lit (.int .i64 0)),.r (p.app (p.seg r12 none n11) (p.seg (p.repl n11 [(p.lit (.int .i64 0)),(p.lit (.int .i64 0)),(p.lit (.int .i64 0)),(p.lit (.int .i64 0))]) (some (p.len r12)) n11)),.d a0,.d (p.ld y9 0),.n n11,.n n11,.d a3]) [fun y14=>p.eqN n11 (p.len (p.lr y14 12)) (p.eqN n11 (p.len (p.lr y14 12)) (p.bnd (p.call 1000095 [p.ld y14 1,p.ld y14 2,(p.natD (p.ln y14 3)),(p.natD (p.ln y14 4)),p.ld y14 5,(p.slD 4 (p.lr y14 12)),(p.mpD true (p.lm y14 0))]) [fun y15=>p.rowsD 4 (p.ld y15 6) fun r16=>p.asM true (p.ld y15 7) fun q17=>p.un .not (p.ld y15 0) fun x18=>p.cond x18 (p.out 0 [.d a4,.d (p.lit (.int .i64 92)),.d (p.ld y14 10),.d (p.ld y14 11)]) (p.out 1 [.d a4,.d (p.lit (.int .i64 0)),.m q17,.r r16,.d (p.ld y15 1),.d (p.ld y15 2),.n (p.dN (p.ld y15 3)),.n (p.dN (p.ld y15 4)),.d (p.ld y15 5),.d (p.ld y14 10),.d (p.ld y14 11)])]))]))])]))])])
end
theorem fJ {n:Nat} {X X' r:az} {ks:List (List Yr→az)} (h:X=X') (h2:(RP n).bnd X' ks=r):(RP n).bnd X ks=r:=h ▸ h2
theorem l29 (n:Nat) (o:Option (List aJ)) (hl:(o.getD []).length≤4611686018427387904) (hr:kw (o.getD [])) (c0:D) (c1:D) (c2:Nat) (c3:Nat) (c4:D) (c5:D) (c6:D) (c7:D) (c8:D) (c9:D) (c10:D) (c11:D) (c12:D) (c13:D) (c14:D) (c15:Rr) (c16:D) (c17:D) (c18:Nat) (c19:Nat) (c20:D) :
  bm [sQ (RP n)] M0 0 [.d (dB o),.d (il (o.getD []).length),.d (il 0),.m ([],[]),.d c0,.d c1,.n c2,.n c3,.d c4,.d c5,.d c6,.d c7,.d c8,.d c9,.d c10,.d c11,.d c12,.d c13,.d c14,.r c15,.d c16,.d c17,.n c18,.n c19,.d c20] =
   some (0,[.m (mapM (o.getD []) (new (o.getD []))),.d c0,.d c1,.n c2,.n c3,.d c4,.d c5,.d c6,.d c7,.d c8,.d c9,.d c10,.d c11,.d c12,.d c13,.d c14,.r c15,.d c16,.d c17,.n c18,.n c19,.d c20]):=by
 have:=bA (β:=Unit) (o.getD []) hl (sQ (RP n)) (fun i _=>[.d (dB o),.d (il (o.getD []).length),.d (il i),.m (mapM ((o.getD []).take i) (new ((o.getD []).take i))),.d c0,.d c1,.n c2,.n c3,.d c4,.d c5,.d c6,.d c7,.d c8,.d c9,.d c10,.d c11,.d c12,.d c13,.d c14,.r c15,.d c16,.d c17,.n c18,.n c19,.d c20]) (fun _ _=>True)
  (fun _ _ _=>some (0,[.m (mapM (o.getD []) (new (o.getD []))),.d c0,.d c1,.n c2,.n c3,.d c4,.d c5,.d c6,.d c7,.d c8,.d c9,.d c10,.d c11,.d c12,.d c13,.d c14,.r c15,.d c16,.d c17,.n c18,.n c19,.d c20])) ?_ ?_ M0 () trivial (dM hl)
 ·exact this
 ·intro _ k _
  simp [sQ,Mb]
 ·intro i e r _ k hi hd hlt hw _ ih
  have hlt':(i:Int) < ((o.getD []).length:Int):=by omega
  have ih':=ih () trivial
  rw [bn,gH hi,iU] at ih'
  have hadd:=fun k=>nq (Fn:=FN n) (FnD:=dq Tryd.prog (eI tb Tryd.prog) (FN n)) (m:=M0) (bU ((o.getD []).take i)) (kX hr hi) fd0 k
  have hlen:((o.getD []).take i).length=i:=by simp;omega
  simp only [kA,hlen] at hadd
  simp only [sQ,mapM,ah,aj,aF,aH,ao,aw,aq,av,aU,hlt',Jr,ag,Js,eK hi,lj,aD,b6,dl,bh,bI,aR,ak,aZ,aO,Jp,bU,hlen,hadd,b7,hw]
  exact ih'
theorem op8 (n:Nat) (me h:Int) (b:Option (List aJ)) (o:Option (List ba)) (a:D) (hl:(o.getD []).length≤4611686018427387904) (hb:(b.getD []).length≤4611686018427387904) :
  HH (RP (n+4)) (il me) (dB b) (dS o) (il h) a=if ck me (b.getD []) (o.getD []) h=true then some (1,[.d a,.d (il 0),.m (mapM (b.getD []) (pg me (b.getD []) (o.getD []))),.r ((o.getD []).map rS),.d (il me),.d (dB b),.n (o.getD []).length,.n (o.getD []).length,.d (il h),.d (il 0),.d (il 0),.d (il me),.d (dB b),.d (dS o),.d (il h)]) else some (0,[.d a,.d (il 92),.d (il 0),.d (il 0),.d (il me),.d (dB b),.d (dS o),.d (il h)]):=by
 simp only [HH,aC,xq,Gq _ _ _ hb,xp,cX,ae,ah,aY,ag,aL,ak,cN,ck]
 by_cases h1:gz me=true
 ·by_cases h2:cr me (b.getD [])=true
  ·have h2':=h2
   simp only [cr,Jn,Jq] at h2'
   by_cases h3:(o.getD []).length≤120
   ·have h3':¬ ((120:Int) < (o.getD []).length):=by omega
    by_cases h4:fg h 0 (o.getD []).length=true
    ·have hmk:0≤((o.getD []).length:Int)∧((32:Nat):Int)*((o.getD []).length:Int)≤140737488355328∧((o.getD []).length:Int)≤9223372036854775807:=by omega
     simp only [h1,h2,h3,h3',h4,K7,Jl,Ju,Js,Jr,Jt,Ki,Gp _ _ h2'.2,ae,ah,jP,hmk,Kt,K4,iO,jO,aO,List.length_replicate,b6,cX,mo,bh,be,jN,br,Jp]
     have hseg:=gN ((o.getD []).map rS) [il 0,il 0,il 0,il 0]
     rw [Jp] at hseg
     rw [hseg,l29 _ _ hb (eB h2'.1)]
     simp only [ae,ah,aj,aF,ao,aw,aq,av,Jp,Js,ci,cS,fY,mapM]
     rw [gP _ _ hb (cu h2) _ (by omega) _ _ _ _ _ (bU _)]
     have hr4:∀ k:Rr→az,(RP (n+4)).rowsD 4 (.sl 4 ((o.getD []).map rS)) k=k ((o.getD []).map rS):=fun _=>rfl
     simp only [ae,ah,aj,cT,aY,ag,l6]
     have ha:∀ (a:List Value) (b:Rr) (k:Mr→az),(RP (n+4)).asM true (.mp true a b) k=k (a,b):=fun _ _ _=>rfl
     rw [ha]
     simp only [pg]
     rw [show (b.getD []).map (fun _=>fd0)=new (b.getD []) from rfl]
     cases (bF me (b.getD []) (new (b.getD [])) (o.getD [])).2<;>rfl
    ·simp [h1,h2,h3,h3',h4]
   ·have h3':((120:Int) < (o.getD []).length):=by omega
    simp [h1,h2,h3,h3']
  ·simp [h1,h2]
 ·simp [h1]
theorem l35 (n:Nat) (o:Option (List aJ)) (hl:(o.getD []).length≤4611686018427387904) (hr:kw (o.getD [])) (c0:D) (c1:D) (c2:Nat) (c3:Nat) (c4:D) (c5:D) (c6:D) (c7:D) (c8:D) (c9:D) (c10:D) (c11:Rr) (c12:D) (c13:D) (c14:Nat) (c15:Nat) (c16:D) :
  bm [sP (RP n)] M0 0 [.d (dB o),.d (il (o.getD []).length),.d (il 0),.m ([],[]),.d c0,.d c1,.n c2,.n c3,.d c4,.d c5,.d c6,.d c7,.d c8,.d c9,.d c10,.r c11,.d c12,.d c13,.n c14,.n c15,.d c16] =
   some (0,[.m (mapM (o.getD []) (new (o.getD []))),.d c0,.d c1,.n c2,.n c3,.d c4,.d c5,.d c6,.d c7,.d c8,.d c9,.d c10,.r c11,.d c12,.d c13,.n c14,.n c15,.d c16]):=by
 have:=bA (β:=Unit) (o.getD []) hl (sP (RP n)) (fun i _=>[.d (dB o),.d (il (o.getD []).length),.d (il i),.m (mapM ((o.getD []).take i) (new ((o.getD []).take i))),.d c0,.d c1,.n c2,.n c3,.d c4,.d c5,.d c6,.d c7,.d c8,.d c9,.d c10,.r c11,.d c12,.d c13,.n c14,.n c15,.d c16]) (fun _ _=>True)
  (fun _ _ _=>some (0,[.m (mapM (o.getD []) (new (o.getD []))),.d c0,.d c1,.n c2,.n c3,.d c4,.d c5,.d c6,.d c7,.d c8,.d c9,.d c10,.r c11,.d c12,.d c13,.n c14,.n c15,.d c16])) ?_ ?_ M0 () trivial (dM hl)
 ·exact this
 ·intro _ k _
  simp [sP,Mb]
 ·intro i e r _ k hi hd hlt hw _ ih
  have hlt':(i:Int) < ((o.getD []).length:Int):=by omega
  have ih':=ih () trivial
  rw [bn,gH hi,iU] at ih'
  have hadd:=fun k=>nq (Fn:=FN n) (FnD:=dq Tryd.prog (eI tb Tryd.prog) (FN n)) (m:=M0) (bU ((o.getD []).take i)) (kX hr hi) fd0 k
  have hlen:((o.getD []).take i).length=i:=by simp;omega
  simp only [kA,hlen] at hadd
  simp only [sP,mapM,ah,aj,aF,aH,ao,aw,aq,av,aU,hlt',Jr,ag,Js,eK hi,lj,aD,b6,dl,bh,bI,aR,ak,aZ,aO,Jp,bU,hlen,hadd,b7,hw]
  exact ih'
theorem op4 (n:Nat) (me h:Int) (b:Option (List aJ)) (o:Option (List ba)) (a:D) (hl:(o.getD []).length≤4611686018427387904) (hb:(b.getD []).length≤4611686018427387904) :
  F8 (RP (n+4)) (il me) (dB b) (dS o) (il h) a=if ck me (b.getD []) (o.getD []) h=true then some (1,[.d a,.d (il 0),.m (mapM (b.getD []) (pg me (b.getD []) (o.getD []))),.r ((o.getD []).map rS),.d (il me),.d (dB b),.n (o.getD []).length,.n (o.getD []).length,.d (il h),.d (il 0),.d (il 0)]) else some (0,[.d a,.d (il 92),.d (il 0),.d (il 0)]):=by
 simp only [F8,aC,xq,Gq _ _ _ hb,xp,cX,ae,ah,aY,ag,aL,ak,cN,ck]
 by_cases h1:gz me=true
 ·by_cases h2:cr me (b.getD [])=true
  ·have h2':=h2
   simp only [cr,Jn,Jq] at h2'
   by_cases h3:(o.getD []).length≤120
   ·have h3':¬ ((120:Int) < (o.getD []).length):=by omega
    by_cases h4:fg h 0 (o.getD []).length=true
    ·have hmk:0≤((o.getD []).length:Int)∧((32:Nat):Int)*((o.getD []).length:Int)≤140737488355328∧((o.getD []).length:Int)≤9223372036854775807:=by omega
     simp only [h1,h2,h3,h3',h4,K7,Jl,Ju,Js,Jr,Jt,Ki,Gp _ _ h2'.2,ae,ah,jP,hmk,Kt,K4,iO,jO,aO,List.length_replicate,b6,cX,mo,bh,be,jN,br,Jp]
     have hseg:=gN ((o.getD []).map rS) [il 0,il 0,il 0,il 0]
     rw [Jp] at hseg
     rw [hseg,l35 _ _ hb (eB h2'.1)]
     simp only [ae,ah,aj,aF,ao,aw,aq,av,Jp,Js,ci,cS,fY,mapM]
     rw [gP _ _ hb (cu h2) _ (by omega) _ _ _ _ _ (bU _)]
     have hr4:∀ k:Rr→az,(RP (n+4)).rowsD 4 (.sl 4 ((o.getD []).map rS)) k=k ((o.getD []).map rS):=fun _=>rfl
     simp only [ae,ah,aj,cT,aY,ag,l6]
     have ha:∀ (a:List Value) (b:Rr) (k:Mr→az),(RP (n+4)).asM true (.mp true a b) k=k (a,b):=fun _ _ _=>rfl
     rw [ha]
     simp only [pg]
     rw [show (b.getD []).map (fun _=>fd0)=new (b.getD []) from rfl]
     cases (bF me (b.getD []) (new (b.getD [])) (o.getD [])).2<;>rfl
    ·simp [h1,h2,h3,h3',h4]
   ·have h3':((120:Int) < (o.getD []).length):=by omega
    simp [h1,h2,h3,h3']
  ·simp [h1,h2]
 ·simp [h1]
end
end Go.VE
