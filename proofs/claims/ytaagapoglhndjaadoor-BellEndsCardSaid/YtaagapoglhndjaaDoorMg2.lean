/- Bell: Number, Holds, Clean, IsOpen and Wanted, by the program. -/
import Derived.Test.YtaagapoglhndjaaDoorMg1
namespace Go.VE
open Go.RowKit Go.Proofs
section
set_option maxRecDepth 100000
section
variable {Fn:Nat→List D→az} {FnD:D→List Sh→List D→az} {m:Nat}
theorem cK (bs:List aJ) (fs:List Fld) (f:Int) (k:Nat→az) (e:az):(aa Fn FnD m).find 0 (mapM bs fs) (il f) k e=match cM f bs with
  | none=>e
  | some j=>k j:=by
 rw [show mapM bs fs=(eY bs,fs.map bG) from rfl,e7]
 cases cM f bs<;>rfl
theorem bE (bs:List aJ) (fs:List Fld):(aa Fn FnD m).mrows (mapM bs fs)=fs.map bG:=rfl
end
theorem s31 (n:Nat) (me h:Int) (b:Option (List aJ)) (o:Option (List ba)) (fld other:Int) (hl:(o.getD []).length≤4611686018427387904) (hb:(b.getD []).length≤4611686018427387904) :
  FN (n+6) 31 [il me,dB b,dS o,il h,il fld,il other]=oM me (b.getD []) (o.getD []) h fld nP (C7 me (b.getD []) other nP fun j=>some (0,[.d (bl (aK me other ((fl me (b.getD []) (o.getD []) j).no other.toNat))),.d (il 0)])):=by
 rw [FS,IT]
 have hop:HH (RP (n+5)) (il me) (dB b) (dS o) (il h) (il fld)=_:=op8 (n+1) me h b o (il fld) hl hb
 unfold G31
 refine fJ hop ?_
 unfold oM
 by_cases h1:ck me (b.getD []) (o.getD []) h=true
 ·have ho:=h1
  simp only [ck,Jn] at h1
  simp only [ho,Js,ae,bf,ah,aj,aF,aH,ao,aw,aq,av,ak,aZ,bP,bo,aU,T3,Mk,Jt,Jr,ag,Jl,Ju,Js,aL,aC,cy,l4 _ _ hb,ee,Jq]
  cases hx:cM fld (b.getD []) with
  | none=>simp [nP]
  | some j =>
   obtain ⟨e,he,-,hg,hj⟩:=fS hx
   have h6:=cu h1.2.1 e (K2 he)
   have hf:=jv ho hj
   simp only [reduceCtorEq,Ju,lG hx,eK he,lj,vS,C7,hg,r8 _ _ h6,ae,ah,aY]
   by_cases h2:other=me
   ·simp [h2,nP]
   ·by_cases h3:cE e.2 other=true
    ·have hp:gz other=true:=gc h3
     have hlt:=gU hp
     have hle:3*other.toNat+1≤20:=by omega
     have hle3:3*other.toNat+3≤20:=by omega
     simp only [h2,h3,Jt,K7,Jl,Mz,Ju,Js,ae,ah,aj,aF,aH,Jt,ag,Jl,Ju,Js,cK,hx,pW hp,bE,aS hf,aN,cc,aD,bV,hle,bi,Jv,Kk,eu _ hlt,Co]
    ·simp [h2,h3,nP]
 ·simp [h1,nP]
theorem s35 (n:Nat) (me h:Int) (b:Option (List aJ)) (o:Option (List ba)) (fld:Int) (hl:(o.getD []).length≤4611686018427387904) (hb:(b.getD []).length≤4611686018427387904) :
  FN (n+6) 35 [il me,dB b,dS o,il h,il fld]=oM me (b.getD []) (o.getD []) h fld nP fun j=>some (0,[.d (bl (fl me (b.getD []) (o.getD []) j).opn),.d (il 0)]):=by
 rw [FS,IS]
 have hop:F8 (RP (n+5)) (il me) (dB b) (dS o) (il h) (il fld)=_:=op4 (n+1) me h b o (il fld) hl hb
 unfold G35
 refine fJ hop ?_
 unfold oM
 by_cases h1:ck me (b.getD []) (o.getD []) h=true
 ·have ho:=h1
  simp only [ck,Jn] at h1
  simp only [ho,Js,ae,bf,ah,aj,aF,aH,ak,aZ,bP,aU,T3,Mk,Jt,ag,Jl,Ju,Js,aL,aC,cy,l4 _ _ hb,ee,Jq]
  cases hx:cM fld (b.getD []) with
  | none=>simp [nP]
  | some j =>
   obtain ⟨e,he,-,hg,hj⟩:=fS hx
   have h6:=cu h1.2.1 e (K2 he)
   have hf:=jv ho hj
   simp only [reduceCtorEq,Ju,lG hx,eK he,Ju,Js,cK,hx,bE,aS hf,aN,aD,bV,bi,Nat.reduceAdd,Nat.reduceLeDiff,Jv,Kk,df]
 ·simp [h1,nP]
theorem s37 (n:Nat) (me h:Int) (b:Option (List aJ)) (o:Option (List ba)) (fld:Int) (hl:(o.getD []).length≤4611686018427387904) (hb:(b.getD []).length≤4611686018427387904) :
  FN (n+6) 37 [il me,dB b,dS o,il h,il fld]=oM me (b.getD []) (o.getD []) h fld nP fun j=>some (0,[.d (bl (fe (fl me (b.getD []) (o.getD []) j).wants)),.d (il 0)]):=by
 rw [FS,IR]
 have hop:F8 (RP (n+5)) (il me) (dB b) (dS o) (il h) (il fld)=_:=op4 (n+1) me h b o (il fld) hl hb
 unfold G37
 refine fJ hop ?_
 unfold oM
 by_cases h1:ck me (b.getD []) (o.getD []) h=true
 ·have ho:=h1
  simp only [ck,Jn] at h1
  simp only [ho,Js,ae,bf,ah,aj,aF,aH,ak,aZ,bP,aU,T3,Mk,Jt,ag,Jl,Ju,Js,aL,aC,cy,l4 _ _ hb,ee,Jq]
  cases hx:cM fld (b.getD []) with
  | none=>simp [nP]
  | some j =>
   obtain ⟨e,he,-,hg,hj⟩:=fS hx
   have h6:=cu h1.2.1 e (K2 he)
   have hf:=jv ho hj
   simp only [reduceCtorEq,Ju,lG hx,eK he,bo,Ju,Js,cK,hx,bE,aS hf,aN,aD,bV,bi,Nat.reduceAdd,Nat.reduceLeDiff,Jv,Kk,cF,fe,lg _ _ _ _ (show (2:Int)≠0 by decide)]
 ·simp [h1,nP]
end
section
set_option maxRecDepth 100000
theorem Bz {me P:Int} {f g:Fld} {s:ba} (h:aV me P f s=some g) (hf:∀ o:Nat,f.ask o≠0→P.toNat.testBit o=true):∀ o:Nat,g.ask o≠0→P.toNat.testBit o=true:=by
 unfold aV at h
 repeat' split at h
 all_goals first
  | (cases h;done)
  | (simp only [Jm] at h;subst h;exact hf)
  | skip
 ·rename_i hc
  simp only [Jm] at h
  subst h
  intro o ho
  simp only [bv] at ho
  by_cases he:o=s.2.2.1.toNat
  ·have hp:cE P s.2.2.1=true:=by
    cases hh:cE P s.2.2.1 with
    | true=>rfl
    | false=>simp [hh] at hc
   have:=bT.1 (gc hp)
   rw [he,← cq (P:=P) (gU (gc hp)),Int.toNat_of_nonneg this.1]
   exact hp
  ·rw [Kc (fun h=>he h.symm)] at ho
   exact hf o ho
theorem kS (me:Int) (b:aJ):∀ (ss:List ba) (f:Fld),(∀ o:Nat,f.ask o≠0→b.2.toNat.testBit o=true)→∀ o:Nat,(ay me b f ss).1.ask o≠0→b.2.toNat.testBit o=true
 | [],_,hf=>hf
 | s::r,f,hf=>by
  unfold ay
  split
  ·cases hs:aV me b.2 f s with
   | none=>exact hf
   | some g=>exact kS me b r g (Bz hs hf)
  ·exact kS me b r f hf
end
section
theorem l96_0 (n:Nat) (bs:List aJ) (fs:List Fld) {j:Nat} {f:Fld} (hj:fs[j]?=some f) (c1 c2 c3 c4:D) :
  bm [fN (RP n)] M0 0 [.n j,.n 0,.d (il 0),.d c1,.d c2,.d c3,.d c4,.m (mapM bs fs)]=some (0,[.d c1,.d c2,.d c3,.d c4,.m (mapM bs (fs.set j { f with af:=fun _=>false }))]):=by
 have:=dm (β:=Fld) 6 (by omega) (fN (RP n)) (fun i g=>[.n j,.n 0,.d (il i),.d c1,.d c2,.d c3,.d c4,.m (mapM bs (fs.set j g))]) (fun _ _=>True)
  (fun i g=>some (0,[.d c1,.d c2,.d c3,.d c4,.m (mapM bs (fs.set j { g with af:=fun q=>if i≤q then false else g.af q }))])) ?_ ?_ f trivial
 ·have e:fs.set j f=fs:=by
   apply Mf
   intro i
   rw [List.getElem?_set]
   split
   ·subst_vars;split<;>simp_all
   ·rfl
  simp only [e] at this
  simpa using this
 ·intro g k _
  simp [fN,mapM,Tg]
  rfl
 ·intro i g k hi _ hw ih
  have ih':=ih { g with af:=bv g.af i false } trivial
  rw [bn] at ih'
  have e:(fun q=>if i+1≤q then false else bv g.af i false q)=fun q=>if i≤q then false else g.af q:=by
   funext q
   unfold bv
   by_cases h1:i=q
   ·subst h1;simp
   ·by_cases h2:i≤q
    ·rw [K1 (by omega),K1 h2]
    ·rw [Kc (by omega),Kc h1,Kc h2]
  simp only [e] at ih'
  rw [←ih']
  have h20:3*i+1+1≤20:=by omega
  simp only [fN,mapM,ah,aj,aF,aH,ao,aw,ak,aZ,aU,ag,show ((i:Int) < 6) by omega,Jr,Js,aD,bS,aN,cc,bI,dl,aS (em hj g),dQ,bV,Jv,Kk,K4,h20,pC (em hj g) hi,Te,b7,hw]
  rw [K1 (by omega)]
theorem e96_3:@qO=@fN:=rfl
theorem e96_4:@qN=@fM:=rfl
theorem e96_5:@qM=@fL:=rfl
def FH (c1 c2 c3 c4 c5 c6:D) (m:Mr) (i:Nat) (acc:List Nat):Nat×List Yr:=match acc with
 | []=>(0,[.d c1,.d c2,.d (il i),.m m,.d c3,.d c4,.d c5,.d c6])
 | a::t=>(1,[.d c1,.d c2,.d (il i),.r ((a::t).map fun (o:Nat)=>[il o]),.n (t.length+1),.n (t.length+1),.m m,.d c3,.d c4,.d c5,.d c6])
def B5 (c3 c4 c5 c6:D) (m:Mr) (acc:List Nat):az:=match acc with
 | []=>some (0,[.m m,.d c3,.d c4,.d c5,.d c6])
 | a::t=>some (1,[.r ((a::t).map fun (o:Nat)=>[il o]),.n (t.length+1),.n (t.length+1),.m m,.d c3,.d c4,.d c5,.d c6])
theorem DJ (c1 c2 c3 c4 c5 c6:D) (m:Mr) (i:Nat) (acc:List Nat) (x:Nat) :
  FH c1 c2 c3 c4 c5 c6 m i (acc++[x])=(1,[.d c1,.d c2,.d (il i),.r ((acc++[x]).map fun (o:Nat)=>[il o]),.n (acc.length+1),.n (acc.length+1),.m m,.d c3,.d c4,.d c5,.d c6]):=by
 cases acc with
 | nil=>rfl
 | cons a t=>simp [FH]
theorem l96_m (n:Nat) {bs:List aJ} {fs:List Fld} {j:Nat} {f:Fld} {fld:Int} (hj:fs[j]?=some f) (hx:cM fld bs=some j) {P:Int} (hP:lw P) (me:Int) (y:List Yr) (hy:(RP (n+3)).ld y 6=il fld) (c1 c4 c5 c6:D) :
  bm [fM (RP (n+3)) y,fL (RP (n+3)) y] M0 0 [.d c1,.d (il P),.d (il 0),.m (mapM bs fs),.d (il me),.d c4,.d c5,.d c6]=B5 (il me) c4 c5 c6 (mapM bs fs) (bQ me P f):=by
 have:=kM (σ:=Nat×List Nat) [fM (RP (n+3)) y,fL (RP (n+3)) y] (fun s=>FH c1 (il P) (il me) c4 c5 c6 (mapM bs fs) s.1 s.2) (fun s=>6 - s.1) (fun s=>s.1≤6∧s.2.length≤s.1)
  (fun s=>B5 (il me) c4 c5 c6 (mapM bs fs) (s.2++qf me P f s.1)) ?_ M0 (0,[]) ⟨by simp,by simp⟩ (by simp only [M0];omega)
 ·exact this
 ·rintro ⟨i,acc⟩ k ⟨hi,ha⟩ ih
  simp only at hi ha
  by_cases h6:i=6
  ·subst h6
   cases acc with
   | nil=>exact ⟨_,rfl,by simp [fM,FH,B5,kK]⟩
   | cons a t=>exact ⟨_,rfl,by simp [fL,FH,B5,kK]⟩
  ·have hi':i < 6:=by omega
   have hw:=fD (show i < 7 by omega) (show 7≤4611686018427387904 by omega)
   have ih0:=ih (i+1,acc) ⟨hi',by simp only;omega⟩ (by simp only;omega)
   have ih1:=ih (i+1,acc++[i]) ⟨hi',by simp;omega⟩ (by simp only;omega)
   simp only [DJ,bn,Kb,Kp,Ke] at ih1
   simp only at ih0
   have h20:3*i+1≤20:=by omega
   have hlt:(i:Int) < 6:=by omega
   have hin:0≤(i:Int)∧(i:Int) < (6:Nat):=by omega
   rw [qe hi']
   cases acc with
   | nil =>
    refine ⟨_,rfl,?_⟩
    simp only [FH,bn] at ih0
    simp only [FH,fM,mapM,ah,aj,aF,aH,ak,aU,hlt,Jr,ag,Js,bP,aC,r8 _ _ hP,ae,cq hi',hy,e7,hx,aD,bS,bI,aS hj,aN,cc,bV,bi,Jv,Kk,K4,h20,eu f hi',Co,aY,aR,aO,Jx,Jy,b6,be,List.take,jR,bp,b7,hw]
    rw [K1 hin]
    by_cases h1:(i:Int)=me
    ·simp only [h1,T3,Mk,Jt,Jr,Jl,Ju,K7,Mh]
     rw [←h1] at ih0 ⊢
     exact ih0
    ·cases h2:P.toNat.testBit i with
     | false =>
      simp only [h1,T3,Ku,Jr,Js,Jl,Ju,Bool.and_false,Mh]
      exact ih0
     | true =>
      cases h3:aK me i (f.no i) with
      | true =>
       simp only [h1,T3,Ku,Jr,Js,Jl,Ju,Bool.and_false,K7]
       exact ih0
      | false =>
       simp only [h1,T3,Ku,Jr,Js,Mq,Jt,Ki]
       rw [K1 (by decide)]
       exact ih1
   | cons a t =>
    refine ⟨_,rfl,?_⟩
    simp only [FH,bn] at ih0
    simp only [FH,fL,mapM,ah,aj,aF,aH,ao,aw,aq,av,ak,aU,hlt,Jr,ag,Js,bP,aC,r8 _ _ hP,ae,cq hi',hy,e7,hx,aD,bS,bI,aS hj,aN,cc,bV,bi,Jv,Kk,K4,h20,eu f hi',Co,aY,aR,aO,Jx,Jy,b6,be,List.take,bp,b7,hw,Jp,bh]
    rw [K1 hin]
    by_cases h1:(i:Int)=me
    ·simp only [h1,T3,Mk,Jt,Jr,Jl,Ju,K7,Mh]
     rw [←h1] at ih0 ⊢
     exact ih0
    ·cases h2:P.toNat.testBit i with
     | false =>
      simp only [h1,T3,Ku,Jr,Js,Jl,Ju,Bool.and_false,Mh]
      exact ih0
     | true =>
      cases h3:aK me i (f.no i) with
      | true =>
       simp only [h1,T3,Ku,Jr,Js,Jl,Ju,Bool.and_false,K7]
       exact ih0
      | false =>
       simp only [h1,T3,Ku,Jr,Js,Mq,Jt,Ki]
       simp only [Jx] at ha
       rw [K1 (by omega)]
       simp only [M6,Jz,Ky,Jx] at ih1 ⊢
       exact ih1
def FG (l:List ba) (bs:List aJ) (c1 c2 c3 c4:D) (i:Nat) (fs:List Fld):List Yr:=[.d (dS (some l)),.d (il l.length),.d (il i),.m (mapM bs fs),.d c1,.d c2,.d c3,.d c4]
def jF (bs:List aJ) (c1 c2 c3 c4:D) (q:List Fld×Bool):az:=if q.2=true then some (1,[.m (mapM bs q.1),.d c1,.d c2,.d c3,.d c4]) else some (0,[.d (bl false),.m (mapM bs q.1),.d c1,.d c2,.d c3,.d c4])
set_option maxRecDepth 20000 in
theorem l96 (n:Nat) (b:Option (List aJ)) (hb:(b.getD []).length≤4611686018427387904) (h6:∀ c∈b.getD [],lw c.2) (l:List ba) (hl:l.length≤4611686018427387904) (me:Int) (c3 c4:D) (fs:List Fld) (hf:fs.length=(b.getD []).length) :
  bm [eQ (RP (n+3))] M0 0 (FG l (b.getD []) (il me) (dB b) c3 c4 0 fs)=jF (b.getD []) (il me) (dB b) c3 c4 (bF me (b.getD []) fs l):=by
 have:=bA (β:=List Fld) l hl (eQ (RP (n+3))) (fun i fs=>FG l (b.getD []) (il me) (dB b) c3 c4 i fs) (fun _ fs=>fs.length=(b.getD []).length)
  (fun _ r fs=>jF (b.getD []) (il me) (dB b) c3 c4 (bF me (b.getD []) fs r)) ?_ ?_ M0 fs hf (dM hl)
 ·exact this
 ·intro fs k _
  simp [eQ,FG,jF,bF]
 ·intro i s r fs k hi hd hlt hw hfs ih
  have hlt':(i:Int) < (l.length:Int):=by omega
  have hin:0≤(i:Int)∧(i:Int) < (l.length:Nat):=by omega
  rw [bF]
  by_cases hs:iL s=true
  ·rw [K1 hs]
   cases hx:cM s.2.1 (b.getD []) with
   | none =>
    have hneg:tK s.2.1 (b.getD []) < 0:=ee.2 hx
    simp only [FG,eQ,ah,aj,aF,aH,ao,aw,aU,hlt',Jr,ag,Js,AO (o:=some l) hi,G1,G0,FZ,FY,aC,tg,ae,hs,aY,K7,Jl,Ju,cy,l4 _ _ hb,ak,hneg,aZ,aL,bo,kC,jF]
    simp
   | some j =>
    obtain ⟨hj1,hj2⟩:=ea hx
    have hnn:¬ (tK s.2.1 (b.getD []) < 0):=by rw [ee,hx];simp
    have hix:tK s.2.1 (b.getD [])=(j:Int):=by simp [tK,hx]
    obtain ⟨e,he⟩:∃ e,(b.getD [])[j]?=some e:=⟨_,Jo hj1⟩
    have hP:lw e.2:=h6 e (K2 he)
    have hge:(b.getD []).getD j (0,0)=e:=by simp [K6,he]
    obtain ⟨f,hf⟩:∃ f,fs[j]?=some f:=⟨_,Jo (by omega)⟩
    have hgf:fs.getD j fd0=f:=by simp [K6,hf]
    simp only
    rw [hge,hgf]
    have ihs:∀ g,k 0 (FG l (b.getD []) (il me) (dB b) c3 c4 (i+1) (fs.set j g))=jF (b.getD []) (il me) (dB b) c3 c4 (bF me (b.getD []) (fs.set j g) r):=fun g=>ih _ (by rw [gw];exact hfs)
    simp only [FG,bn] at ihs
    simp only [FG,eQ,ah,aj,aF,aH,aU,hlt',Jr,ag,Js,AO (o:=some l) hi,G1,G0,FZ,FY,aC,tg,ae,hs,aY,K7,Jl,Ju,cy,l4 _ _ hb,ak,hnn,Jt,aZ,aL]
    rw [hix,eK he]
    simp only [lj,vS,ae,ah,aj,aF,aH]
    rcases qc hs with ⟨h1,ho⟩ | h1 | ⟨h1,ho⟩ | h1
    ·have hp:=gU ho
     have hq:0≤s.2.2.1∧s.2.2.1 < (6:Nat):=by have:=bT.1 ho;omega
     have k1:3*s.2.2.1.toNat+1≤20:=by omega
     have k2:3*s.2.2.1.toNat+1+1≤20:=by omega
     unfold aV
     simp only [h1,bo,Jr,Js,ae,ah,aj,aF,aH,aY,ag,K7,Jl,Ju,r8 _ _ hP,mapM,aD,bS,hq,Kt,bI,aS hf,aN,cc,bV,bi,Jv,Kk,df,eu f hp,jQ,tw,e7,hx,dl,dQ,xm hf hp,aS (em hf _),pC (em hf _) hp,Te,b7,hw,k1,k2,show 19+1≤20 by decide,Jq]
     by_cases g1:s.2.2.1=me
     ·simp [g1,jF,mapM]
     ·by_cases g2:cE e.2 s.2.2.1=true
      ·by_cases g3:f.opn=true
       ·simp [g1,g2,g3,jF,mapM]
       ·by_cases g4:s.2.2.2≤f.no s.2.2.1.toNat
        ·simp [g1,g2,g3,g4,jF,mapM]
        ·have ih':=ihs { f with no:=bv f.no s.2.2.1.toNat s.2.2.2,af:=bv f.af s.2.2.1.toNat true }
         have g3':f.opn=false:=by simpa using g3
         simp only [mapM,g3'] at ih'
         simp only [g1,g2,g3',g4,Ju,ae,ah,aj,aF,aH,aY,ag,K7,Jl,Jt,Mz]
         exact ih'
      ·simp [g1,g2,jF,mapM]
    ·unfold aV
     simp only [h1,bo,show ¬ ((2:Int)=1) by decide,show ¬ ((2:Int)=3) by decide,Jt,Js,ae,ah,aj,aF,aH,aY,ag,K7,Jl,Ju,mapM,aD,bI,aS hf,aN,cc,bV,bi,Jv,Kk,cF,jQ,tv,e7,hx,dl,dQ,nf hf,br,e96_3,b7,hw,show 18+1≤20 by decide,Jq]
     by_cases g1:s.2.2.2≤f.wants
     ·simp [g1,jF,mapM]
     ·have ih':=ihs { f with wants:=s.2.2.2,af:=fun _=>false }
      have h0:=l96_0 (n+3) (b.getD []) (fs.set j { f with wants:=s.2.2.2 }) (em hf _) (il me) (dB b) c3 c4
      simp only [mapM,Te] at ih' h0
      simp only [g1,Ju,h0,ae,ah,aj,aF,aH]
      exact ih'
    ·have hp:=gU ho
     have hq:0≤s.2.2.1∧s.2.2.1 < (6:Nat):=by have:=bT.1 ho;omega
     have k2:3*s.2.2.1.toNat+2+1≤20:=by omega
     unfold aV
     simp only [h1,bo,show ¬ ((3:Int)=1) by decide,show ¬ ((3:Int)=2) by decide,Jr,Jt,Js,ae,ah,aj,aF,aH,aY,ag,K7,Jl,Ju,r8 _ _ hP,mapM,aD,bS,hq,Kt,bI,aS hf,aN,cc,bV,bi,Jv,Kk,kQ f hp,jQ,tu,e7,hx,dl,dQ,te hf hp,b7,hw,k2,Jq]
     by_cases g1:s.2.2.1=me
     ·simp [g1,jF,mapM]
     ·by_cases g2:cE e.2 s.2.2.1=true
      ·by_cases g4:s.2.2.2≤f.ask s.2.2.1.toNat
       ·simp [g1,g2,g4,jF,mapM]
       ·have ih':=ihs { f with ask:=bv f.ask s.2.2.1.toNat s.2.2.2 }
        simp only [mapM] at ih'
        simp only [g1,g2,g4,Ju,ae,ah,aj,aF,aH,K7,Jl,Jt,Mz]
        exact ih'
      ·simp [g1,g2,jF,mapM]
    ·unfold aV
     have he1:e.1=s.2.1:=by rw [←hge];exact hj2
     have hj0:¬ ((j:Int) < 0):=by omega
     simp only [h1,bo,show ¬ ((4:Int)=1) by decide,show ¬ ((4:Int)=2) by decide,show ¬ ((4:Int)=3) by decide,Jt,Js,ae,ah,aj,aF,aH,ao,aw,aY,ag,K7,Jl,Ju,mapM,aD,tt,e7,hx,cy,l4 _ _ hb,hix,hj0,eK he,lj,vS,aU,bI,aS hf,aN,cc,bV,bi,Jv,Kk,df,gS,dl,dQ,br,e96_4,e96_5,b7,hw,show 19+1≤20 by decide,he1,Jq]
     by_cases g1:s.2.2.2=1
     ·cases g2:f.opn with
      | true=>simp [g1,jF,mapM]
      | false =>
       have h0:=fun y hy=>l96_m (n:=n) hf hx hP me y hy (il s.2.1) (dB b) c3 c4
       simp only [mapM] at h0
       simp only [g1,Jr,show ((false==true)=true)=False by simp,Ju,Js]
       rw [h0 _ (by simp)]
       cases hm:bQ me e.2 f with
       | nil =>
        have ih':=ihs { f with opn:=true }
        simp only [mapM] at ih'
        simp only [B5,ae,ah,aj,aF,aH,cN,ag,show ¬ ((0:Int) < 0) by decide,Jt,Jl,Ju,aS hf,ky hf,aY,K7,T9,Bool.and_false,Mz,show ((false==true)=true)=False by simp]
        exact ih'
       | cons a t =>
        have:(0:Int) < ((t.length+1:Nat):Int):=by omega
        simp only [B5,ae,bf,ah,aj,aF,aH,ao,aw,aq,cN,ag,ci,this,Jr,Js,aY,Mq]
        simp [jF,mapM]
     ·cases g2:f.opn with
      | true =>
       have ih':=ihs { f with opn:=false }
       simp only [mapM] at ih'
       simp only [g1,Jt,show ((true==false)=true)=False by simp,Ju,Jl,ky hf,ae,ah,aj,aF,aH,aY,ag,K7,Mh,Mz]
       exact ih'
      | false=>simp [g1,jF,mapM]
  ·simp only [FG,eQ,ah,aj,aF,aH,aU,hlt',Jr,ag,Js,AO (o:=some l) hi,G1,G0,FZ,FY,aC,tg,ae,hs,aY,aL,aZ]
   simp [jF]
theorem Cp (n:Nat) (b:Option (List aJ)) (hb:(b.getD []).length≤4611686018427387904) (h6:∀ c∈b.getD [],lw c.2) (l:List ba) (hl:l.length≤4611686018427387904) (me:Int) (c3 c4:D) (fs:List Fld) (hf:fs.length=(b.getD []).length) :
  FN (n+4) 1600095 [il me,dB b,c3,c4,.mp true (eY (b.getD [])) (fs.map bG),.sl 4 (l.map rS)] =
   some (0,[.d (bl (bF me (b.getD []) fs l).2),.d (il me),.d (dB b),.d c3,.d c4,.d (.mp true (eY (b.getD [])) ((bF me (b.getD []) fs l).1.map bG))]):=by
 rw [FS,wJ]
 have h:=l96 n b hb h6 l hl me c3 c4 fs hf
 have ha:∀ k:Mr→az,(RP (n+3)).asM true (.mp true (eY (b.getD [])) (fs.map bG)) k=k (mapM (b.getD []) fs):=fun _=>rfl
 have hd:(D.sl 4 (l.map rS))=dS (some l):=rfl
 have hn:(RP (n+3)).lenD (dS (some l))=fun k=>k (il l.length):=by funext k;exact cX _ _ _ k
 simp only [FG,T4] at h
 simp only [wK,hd,hn,ha,br,ak,h,jF]
 cases (bF me (b.getD []) fs l).2<;>simp [fY,mapM]
end
section
set_option maxRecDepth 100000
section
variable {Δ N R W M E Ω:Type} (p:Pr Δ N R W M E Ω)
def F9 (a0 a1 a2 a3 a4: Δ):Ω:=(p.bnd (p.call 61 [a0]) [fun y0=>p.un .not (p.ld y0 0) fun x1=>p.cond x1 (p.out 0 [.d a4,.d (p.lit (.int .i64 92)),.d (p.lit (.int .i64 0)),.d (p.lit (.int .i64 0))]) (p.bnd (p.call 62 [a0,a1]) [fun y2=>p.un .not (p.ld y2 0) fun x3=>p.cond x3 (p.out 0 [.d a4,.d (p.lit (.int .i64 92)),.d (p.lit (.int .i64 0)),.d (p.lit (.int .i64 0))]) (p.lenD a2 fun x4=>p.bin .gtr false x4 (p.lit (.int .i64 120)) fun x5=>p.cond x5 (p.out 0 [.d a4,.d (p.lit (.int .i64 92)),.d (p.lit (.int .i64 0)),.d (p.lit (.int .i64 0))]) (p.lenD a2 fun x6=>p.bnd (p.call 68 [a3,(p.lit (.int .i64 0)),x6]) [fun y7=>p.un .not (p.ld y7 0) fun x8=>p.cond x8 (p.out 0 [.d a4,.d (p.lit (.int .i64 92)),.d (p.lit (.int .i64 0)),.d (p.lit (.int .i64 0))]) (p.bnd (p.call 63 [a1]) [fun y9=>p.lenD a2 fun x10=>p.mkN 32 x10 x10 fun n11=>p.rowsD 4 a2 fun r12=>p.eqN n11 (p.len (p.repl n11 [(p.lit (.int .i64 0)),(p.lit (.int .i64 0)),(p.lit (.int .i64 0)),(p.lit (.int .i64 0))])) (p.eqN n11 (p.len (p.repl n11 [(p.lit (.int .i64 0)),(p.lit (.int .i64 0)),(p.lit (.int .i64 0)),(p.lit (.int .i64 0))])) (p.lenD (p.ld y9 0) fun x13=>p.bnd (p.loop [(j9 p)] 0 [.d (p.ld y9 0),.d x13,.d (p.lit (.int .i64 0)),.m p.emp,.d a0,.d (p.ld y9 0),.n n11,.n n11,.d a3,.d (p.lit (.int .i64 0)),.d (p.lit (.int .i64 0)),.r (p.app (p.seg r12 none n11) (p.seg (p.repl n11 [(p.lit (.int .i64 0)),(p.lit (.int .i64 0)),(p.lit (.int .i64 0)),(p.lit (.int .i64 0))]) (some (p.len r12)) n11)),.d a0,.d (p.ld y9 0),.n n11,.n n11,.d a3]) [fun y14=>p.eqN n11 (p.len (p.lr y14 8)) (p.eqN n11 (p.len (p.lr y14 8)) (p.bnd (p.call 1000095 [p.ld y14 1,p.ld y14 2,(p.natD (p.ln y14 3)),(p.natD (p.ln y14 4)),p.ld y14 5,(p.slD 4 (p.lr y14 8)),(p.mpD true (p.lm y14 0))]) [fun y15=>p.rowsD 4 (p.ld y15 6) fun r16=>p.asM true (p.ld y15 7) fun q17=>p.un .not (p.ld y15 0) fun x18=>p.cond x18 (p.out 0 [.d a4,.d (p.lit (.int .i64 92)),.d (p.ld y14 6),.d (p.ld y14 7)]) (p.out 1 [.d a4,.d (p.lit (.int .i64 0)),.m q17,.r r16,.d (p.ld y15 1),.d (p.ld y15 2),.n (p.dN (p.ld y15 3)),.n (p.dN (p.ld y15 4)),.d (p.ld y15 5),.d (p.ld y14 6),.d (p.ld y14 7)])]))]))])]))])])
end
theorem l43 (n:Nat) (o:Option (List aJ)) (hl:(o.getD []).length≤4611686018427387904) (hr:kw (o.getD [])) (c0:D) (c1:D) (c2:Nat) (c3:Nat) (c4:D) (c5:D) (c6:D) (c7:Rr) (c8:D) (c9:D) (c10:Nat) (c11:Nat) (c12:D) :
  bm [j9 (RP n)] M0 0 [.d (dB o),.d (il (o.getD []).length),.d (il 0),.m ([],[]),.d c0,.d c1,.n c2,.n c3,.d c4,.d c5,.d c6,.r c7,.d c8,.d c9,.n c10,.n c11,.d c12] =
   some (0,[.m (mapM (o.getD []) (new (o.getD []))),.d c0,.d c1,.n c2,.n c3,.d c4,.d c5,.d c6,.r c7,.d c8,.d c9,.n c10,.n c11,.d c12]):=by
 have:=bA (β:=Unit) (o.getD []) hl (j9 (RP n)) (fun i _=>[.d (dB o),.d (il (o.getD []).length),.d (il i),.m (mapM ((o.getD []).take i) (new ((o.getD []).take i))),.d c0,.d c1,.n c2,.n c3,.d c4,.d c5,.d c6,.r c7,.d c8,.d c9,.n c10,.n c11,.d c12]) (fun _ _=>True)
  (fun _ _ _=>some (0,[.m (mapM (o.getD []) (new (o.getD []))),.d c0,.d c1,.n c2,.n c3,.d c4,.d c5,.d c6,.r c7,.d c8,.d c9,.n c10,.n c11,.d c12])) ?_ ?_ M0 () trivial (dM hl)
 ·exact this
 ·intro _ k _
  simp [j9,Mb]
 ·intro i e r _ k hi hd hlt hw _ ih
  have hlt':(i:Int) < ((o.getD []).length:Int):=by omega
  have ih':=ih () trivial
  rw [bn,gH hi,iU] at ih'
  have hadd:=fun k=>nq (Fn:=FN n) (FnD:=dq Tryd.prog (eI tb Tryd.prog) (FN n)) (m:=M0) (bU ((o.getD []).take i)) (kX hr hi) fd0 k
  have hlen:((o.getD []).take i).length=i:=by simp;omega
  simp only [kA,hlen] at hadd
  simp only [j9,mapM,ah,aj,aF,aH,ao,aw,aq,av,aU,hlt',Jr,ag,Js,eK hi,lj,aD,b6,dl,bh,bI,aR,ak,aZ,aO,Jp,bU,hlen,hadd,b7,hw]
  exact ih'
theorem op2 (n:Nat) (me h:Int) (b:Option (List aJ)) (o:Option (List ba)) (a:D) (hl:(o.getD []).length≤4611686018427387904) (hb:(b.getD []).length≤4611686018427387904) :
  F9 (RP (n+4)) (il me) (dB b) (dS o) (il h) a=if ck me (b.getD []) (o.getD []) h=true then some (1,[.d a,.d (il 0),.m (mapM (b.getD []) (pg me (b.getD []) (o.getD []))),.r ((o.getD []).map rS),.d (il me),.d (dB b),.n (o.getD []).length,.n (o.getD []).length,.d (il h),.d (il 0),.d (il 0)]) else some (0,[.d a,.d (il 92),.d (il 0),.d (il 0)]):=by
 simp only [F9,aC,xq,Gq _ _ _ hb,xp,cX,ae,ah,aY,ag,aL,ak,cN,ck]
 by_cases h1:gz me=true
 ·by_cases h2:cr me (b.getD [])=true
  ·have h2':=h2
   simp only [cr,Jn,Jq] at h2'
   by_cases h3:(o.getD []).length≤120
   ·have h3':¬ ((120:Int) < (o.getD []).length):=by omega
    by_cases h4:fg h 0 (o.getD []).length=true
    ·have hmk:0≤((o.getD []).length:Int)∧((32:Nat):Int)*((o.getD []).length:Int)≤140737488355328∧((o.getD []).length:Int)≤9223372036854775807:=by omega
     simp only [h1,h2,h3,h3',h4,K7,Jl,Ju,Js,Jr,Jt,Ki,Gp _ _ h2'.2,ae,ah,jP,hmk,Kt,K4,iO,jO,aO,List.length_replicate,b6,cX,mo,bh,be,jN,br,Jp]
     have hseg:=gN ((o.getD []).map rS) [il 0,il 0,il 0,il 0]
     rw [Jp] at hseg
     rw [hseg,l43 _ _ hb (eB h2'.1)]
     simp only [ae,ah,aj,aF,ao,aw,aq,av,Jp,Js,ci,cS,fY,mapM]
     rw [gP _ _ hb (cu h2) _ (by omega) _ _ _ _ _ (bU _)]
     have hr4:∀ k:Rr→az,(RP (n+4)).rowsD 4 (.sl 4 ((o.getD []).map rS)) k=k ((o.getD []).map rS):=fun _=>rfl
     simp only [ae,ah,aj,cT,aY,ag,l6]
     have ha:∀ (a:List Value) (b:Rr) (k:Mr→az),(RP (n+4)).asM true (.mp true a b) k=k (a,b):=fun _ _ _=>rfl
     rw [ha]
     simp only [pg]
     rw [show (b.getD []).map (fun _=>fd0)=new (b.getD []) from rfl]
     cases (bF me (b.getD []) (new (b.getD [])) (o.getD [])).2<;>rfl
    ·simp [h1,h2,h3,h3',h4]
   ·have h3':((120:Int) < (o.getD []).length):=by omega
    simp [h1,h2,h3,h3']
  ·simp [h1,h2]
 ·simp [h1]
theorem l43_1 (n:Nat) (o:Option (List aJ)) (hl:(o.getD []).length≤4611686018427387904) (hr:kw (o.getD [])) (c0 c1 c2 c3 c4 c5 c6 c7 c8 c9:D) (q:Mr) :
  bm [wz (RP n)] M0 0 [.d (dB o),.d (il (o.getD []).length),.d (il 0),.m ([],[]),.d c0,.d c1,.d c2,.d c3,.d c4,.d c5,.d c6,.d c7,.d c8,.d c9,.m q] =
   some (0,[.m (mapM (o.getD []) (new (o.getD []))),.d c0,.d c1,.d c2,.d c3,.d c4,.d c5,.d c6,.d c7,.d c8,.d c9,.m q]):=by
 have:=bA (β:=Unit) (o.getD []) hl (wz (RP n)) (fun i _=>[.d (dB o),.d (il (o.getD []).length),.d (il i),.m (mapM ((o.getD []).take i) (new ((o.getD []).take i))),.d c0,.d c1,.d c2,.d c3,.d c4,.d c5,.d c6,.d c7,.d c8,.d c9,.m q]) (fun _ _=>True)
  (fun _ _ _=>some (0,[.m (mapM (o.getD []) (new (o.getD []))),.d c0,.d c1,.d c2,.d c3,.d c4,.d c5,.d c6,.d c7,.d c8,.d c9,.m q])) ?_ ?_ M0 () trivial (dM hl)
 ·exact this
 ·intro _ k _
  simp [wz,Mb]
 ·intro i e r _ k hi hd hlt hw _ ih
  have hlt':(i:Int) < ((o.getD []).length:Int):=by omega
  have ih':=ih () trivial
  rw [bn,gH hi,iU] at ih'
  have hadd:=fun k=>nq (Fn:=FN n) (FnD:=dq Tryd.prog (eI tb Tryd.prog) (FN n)) (m:=M0) (bU ((o.getD []).take i)) (kX hr hi) fd0 k
  have hlen:((o.getD []).take i).length=i:=by simp;omega
  simp only [kA,hlen] at hadd
  simp only [wz,mapM,ah,aj,aF,aH,aU,hlt',Jr,ag,Js,eK hi,lj,aD,b6,dl,bh,bI,aR,ak,aZ,aO,Jp,bU,hlen,hadd,b7,hw]
  exact ih'
def jt (me:Int) (ss:List ba) (to:Int) (c:aJ):Option j8:=if cE c.2 to=true then some (c.1,(ay me c fd0 ss).1.no to.toNat,(ay me c fd0 ss).1.wants) else none
def fk (me:Int) (bs:List aJ) (ss:List ba) (to:Int):List j8:=bs.filterMap (jt me ss to)
def dTn (l:List j8):D:=match l with
 | []=>ed
 | a::t=>.sl 3 ((a::t).map rT)
def ny (e:Int):az:=some (0,[.d (il 0),.d (il 0),.d ed,.d (il e)])
def yM (me:Int) (bs:List aJ) (ss:List ba) (h to:Int):az :=
 if ck me bs ss h=true then (if !gz to||decide (to=me) then ny 1 else some (0,[.d (il me),.d (il to),.d (dTn (fk me bs (ss.take h.toNat) to)),.d (il 0)])) else ny 92
theorem vz {α β:Type} (f:α→Option β):∀ l:List α,(List.range l.length).filterMap (fun i=>(l[i]?).bind f)=l.filterMap f
 | []=>rfl
 | a::t=>by
  rw [Jx,List.range_succ_eq_map,List.filterMap_cons,List.filterMap_cons,List.filterMap_map]
  have:=vz f t
  simp only [Kx,K8,My,List.getElem?_cons_succ,Nat.succ_eq_add_one,this]
theorem I5 {α β γ:Type} (f:α→Option β) (g:β→γ) (l:List α):l.filterMap (fun x=>(f x).map g)=(l.filterMap f).map g:=by
 rw [List.map_filterMap]
theorem q9 {me:Int} {bs:List aJ}:∀ (l:List ba) (fs:List Fld) (n:Nat),(bF me bs fs l).2=true→(bF me bs fs (l.take n)).2=true
 | [],fs,n,h=>by simpa using h
 | s::r,fs,0,_=>rfl
 | s::r,fs,n+1,h=>by
  rw [Mn]
  unfold bF at h ⊢
  by_cases h1:iL s=true
  ·rw [K1 h1] at h ⊢
   cases hx:cM s.2.1 bs with
   | none=>simp [hx] at h
   | some i =>
    simp only [hx] at h ⊢
    cases hs:aV me (bs.getD i (0,0)).2 (fs.getD i fd0) s with
    | none=>rw [hs] at h;cases h
    | some f =>
     simp only [hs] at h ⊢
     exact q9 r _ n h
  ·rw [Kc h1] at h;cases h
theorem ze {me:Int} {bs:List aJ} {ss:List ba} {h:Int} (ho:ck me bs ss h=true) (n:Nat) {j:Nat} {e:aJ} (he:bs[j]?=some e):(pg me bs (ss.take n))[j]?=some (ay me e fd0 (ss.take n)).1:=by
 have hj:j < bs.length:=by
  rcases Nat.lt_or_ge j bs.length with h' | h'
  ·exact h'
  ·rw [Kr h'] at he;cases he
 have hr:=bw ho
 have ho':=ho
 simp only [ck,Jn] at ho'
 have:=(jS (me:=me) hr (ss.take n) (new bs) (bU bs)).2.1 (q9 ss _ n ho'.2.2.2.2)
 have h1:=this.2 j hj
 rw [zt,eH _ he] at h1
 have h2:j < (pg me bs (ss.take n)).length:=by rw [jU hr];exact hj
 rw [Jo h2,h1]
 simp [pg,K6,Jo (show j < (bF me bs (new bs) (ss.take n)).1.length from h2)]
theorem Ao {bs:List aJ} (hr:kw bs) {i:Nat} {e:aJ} (he:bs[i]?=some e):cM e.1 bs=some i:=by
 have hi:i < bs.length:=by
  rcases Nat.lt_or_ge i bs.length with h | h
  ·exact h
  ·rw [Kr h] at he;cases he
 rw [Jo hi] at he
 simp only [Jm] at he
 rw [←he]
 exact ud hr hi
def yT (me:Int) (bs:List aJ) (ss:List ba) (to:Int) (i:Nat):Option (List D):=(bs[i]?).bind fun c=>(jt me ss to c).map rT
theorem AN (me:Int) (bs:List aJ) (ss:List ba) (to:Int):(List.range bs.length).filterMap (yT me bs ss to)=(fk me bs ss to).map rT:=by
 exact (vz (fun c=>(jt me ss to c).map rT) bs).trans (I5 _ _ _)
theorem uE {me:Int} {bs:List aJ} {ss:List ba} {to:Int} {i:Nat} {e:aJ} (he:bs[i]?=some e):yT me bs ss to i=if cE e.2 to=true then some [il e.1,il ((ay me e fd0 ss).1.no to.toNat),il (ay me e fd0 ss).1.wants] else none:=by
 unfold yT jt
 rw [he]
 simp only [K8]
 split<;>rfl
theorem l43_2 (n:Nat) (b:Option (List aJ)) (hb:(b.getD []).length≤120) {me h:Int} {ss:List ba} (ho:ck me (b.getD []) ss h=true) (m:Nat) {to:Int} (hp:gz to=true) (c0 c1 c2 c3 c4 c5 c6 c7:D) :
  bm [wy (RP (n+3)),wx (RP (n+3))] M0 0 [.d (il to),.d (dB b),.d (il (b.getD []).length),.d (il 0),.m (mapM (b.getD []) (pg me (b.getD []) (ss.take m))),.d c0,.d c1,.d c2,.d c3,.d c4,.d c5,.d c6,.d c7] =
   uk (some (0,[.d c0,.d c1,.d c6,.d c7])) (fun acc=>some (1,[.r acc,.d c0,.d c1,.n acc.length,.n acc.length,.d c6,.d c7])) ((fk me (b.getD []) (ss.take m) to).map rT):=by
 have hr:=bw ho
 have hlt:=gU hp
 have ho':=ho
 simp only [ck,Jn] at ho'
 have:=wc (b.getD []).length (by omega) (yT me (b.getD []) (ss.take m) to) (wy (RP (n+3))) (wx (RP (n+3)))
  (fun i=>[.d (il to),.d (dB b),.d (il (b.getD []).length),.d (il i),.m (mapM (b.getD []) (pg me (b.getD []) (ss.take m))),.d c0,.d c1,.d c2,.d c3,.d c4,.d c5,.d c6,.d c7])
  (fun i acc=>[.d (il to),.d (dB b),.d (il (b.getD []).length),.d (il i),.m (mapM (b.getD []) (pg me (b.getD []) (ss.take m))),.r acc,.d c0,.d c1,.n acc.length,.n acc.length,.d c2,.d c3,.d c4,.d c5,.d c6,.d c7])
  (some (0,[.d c0,.d c1,.d c6,.d c7])) (fun acc=>some (1,[.r acc,.d c0,.d c1,.n acc.length,.n acc.length,.d c6,.d c7])) ?_ ?_ ?_ ?_
 ·rw [AN] at this
  exact this
 ·intro k;simp [wy]
 ·intro k a t _;simp [wx]
 ·intro i k hi hw
  obtain ⟨e,he⟩:∃ e,(b.getD [])[i]?=some e:=⟨_,Jo hi⟩
  have h6:=cu ho'.2.1 e (K2 he)
  have hx:=Ao hr he
  have hf:=ze ho m he
  have hle:3*to.toNat+1≤20:=by omega
  have hl9:¬ (19 < 3*to.toNat):=by omega
  have hlt':(i:Int) < ((b.getD []).length:Int):=by omega
  rw [uE he]
  simp only [wy,ah,aj,aF,aH,ak,aU,hlt',Jr,ag,Js,eK he,lj,vS,aC,ae,aD,pW hp,aN,cc,bV,bE,cK,hx,aS hf,Nat.reduceAdd,Nat.reduceLeDiff,bi,Jv,Kk,eu _ hlt,cF,aR,aO,Jx,Jy,b6,be,List.take,jR,bp,Kt,b7,hw,bn,r8 _ _ h6,fit0 24 (by decide)]
  by_cases h2:cE e.2 to=true<;>simp [h2,hl9]
 ·intro i k a t hi ha hw
  obtain ⟨e,he⟩:∃ e,(b.getD [])[i]?=some e:=⟨_,Jo hi⟩
  have h6:=cu ho'.2.1 e (K2 he)
  have hx:=Ao hr he
  have hf:=ze ho m he
  have hle:3*to.toNat+1≤20:=by omega
  have hl9:¬ (19 < 3*to.toNat):=by omega
  have hlt':(i:Int) < ((b.getD []).length:Int):=by omega
  simp only [Jx] at ha
  have hfit:=Fy (n:=t.length) 24 (by decide) (by omega)
  rw [uE he]
  simp only [wx,ah,aj,aF,aH,ao,aw,aq,av,ak,aU,hlt',Jr,ag,Js,eK he,lj,vS,aC,ae,aD,pW hp,aN,cc,bV,bE,cK,hx,aS hf,Nat.reduceAdd,Nat.reduceLeDiff,bi,Jv,Kk,eu _ hlt,cF,aR,aO,Jx,Jy,b6,be,List.take,bp,Kt,b7,hw,bn,r8 _ _ h6,hfit,bh]
  by_cases h2:cE e.2 to=true<;>simp [h2,hl9]
theorem s43 (n:Nat) (me h to:Int) (b:Option (List aJ)) (o:Option (List ba)) (hl:(o.getD []).length≤4611686018427387904) (hb:(b.getD []).length≤4611686018427387904) :
  FN (n+6) 43 [il me,dB b,dS o,il h,il to]=yM me (b.getD []) (o.getD []) h to:=by
 rw [FS,IQ]
 have hop:F9 (RP (n+5)) (il me) (dB b) (dS o) (il h) (il to)=_:=op2 (n+1) me h b o (il to) hl hb
 unfold G43
 refine fJ hop ?_
 unfold yM
 by_cases h1:ck me (b.getD []) (o.getD []) h=true
 ·have ho:=h1
  simp only [ck,Jn,Jq] at h1
  simp only [ho,Js,ae,bf,ah,aj,aF,aH,ao,aw,aq,av,ak,bP,bo,T3,Mk,Jt,ag,Jl,Ju,Js,aL,aC,xq,aY]
  by_cases h2:gz to=true
  ·by_cases h3:to=me
   ·simp [h3,ny];rfl
   ·have hh:0≤h∧h≤(((o.getD []).map rS).length:Nat):=by
     have:=h1.2.2.2.1
     simp only [fg,Jn,Jq] at this
     rw [Jp]
     exact this
    have hb4:(b.getD []).length≤120:=by
     have:=h1.2.1
     simp only [cr,Jn,Jq] at this
     omega
    have hsl:((o.getD []).map rS).take (o.getD []).length=(o.getD []).map rS:=Kd (by simp)
    have h96:=Cp (n+1) b hb (cu h1.2.1) ((o.getD []).take h.toNat) (by simp;omega) me (D.sl 4 ((o.getD []).map rS)) (il h) (new (b.getD [])) (bU _)
    have h43:=l43_2 (n+2) b hb4 ho h.toNat h2
    simp only [h2,h3,Jt,K7,Jl,Mz,Ju,Js,ae,bf,ah,aj,aF,aH,Jt,Jl,Ju,Js,aO,Jp,b6,be,cS,hsl,cX,mo,br,l43_1 _ _ hb (bw ho),fY,AY _ _ _ _ hh,← V4,mapM]
    rw [h96]
    simp only [ae,ah,aj]
    have ha:∀ (a:List Value) (b:Rr) (k:Mr→az),(RP (n+5)).asM true (.mp true a b) k=k (a,b):=fun _ _ _=>rfl
    rw [ha]
    simp only [mapM,pg] at h43
    rw [h43]
    cases fk me (b.getD []) ((o.getD []).take h.toNat) to with
    | nil=>rfl
    | cons a t =>
     simp [uk,dTn]
     exact Kd (by simp)
  ·simp [h2,ny];rfl
 ·simp [h1,ny];rfl
end
end Go.VE
