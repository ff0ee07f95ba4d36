/- Bell: Asked and Missing, by the program. -/
import Derived.Test.YtaagapoglhndjaaGreatDoorMg2
namespace Go.VE
open Go.RowKit Go.Proofs
section
set_option maxRecDepth 100000
theorem Bn {me P:Int} {f g:Fld} {s:aY} (h:bi me P f s=some g) (hf:∀ o:Nat,f.ask o≠0→P.toNat.testBit o=true):∀ o:Nat,g.ask o≠0→P.toNat.testBit o=true:=by
 unfold bi at h
 repeat' split at h
 all_goals first
  | (cases h;done)
  | (simp only [Jr] at h;subst h;exact hf)
  | skip
 ·rename_i hc
  simp only [Jr] at h
  subst h
  intro o ho
  simp only [cd] at ho
  by_cases he:o=s.2.2.1.toNat
  ·have hp:bU P s.2.2.1=true:=by
    cases hh:bU P s.2.2.1 with
    | true=>rfl
    | false=>simp [hh] at hc
   have:=bn.1 (fD hp)
   rw [he,← bM (P:=P) (bP (fD hp)),Int.toNat_of_nonneg this.1]
   exact hp
  ·rw [Kg (fun h=>he h.symm)] at ho
   exact hf o ho
theorem jv (me:Int) (b:aT):∀ (ss:List aY) (f:Fld),(∀ o:Nat,f.ask o≠0→b.2.toNat.testBit o=true)→∀ o:Nat,(aI me b f ss).1.ask o≠0→b.2.toNat.testBit o=true
 | [],_,hf=>hf
 | s::r,f,hf=>by
  unfold aI
  split
  ·cases hs:bi me b.2 f s with
   | none=>exact hf
   | some g=>exact jv me b r g (Bn hs hf)
  ·exact jv me b r f hf
theorem Ir {me P:Int} {f:Fld} (hf:∀ o:Nat,f.ask o≠0→P.toNat.testBit o=true):(List.range 6).filter (fun (o:Nat)=>!decide ((o:Int)=me)&&(P.toNat.testBit o&&gR (f.ask o)))=yp me f:=by
 unfold yp
 congr 1
 funext o
 by_cases h1:(o:Int)=me
 ·simp [h1]
 ·simp only [gK,h1,Jw,M6,Kf,Jx]
  by_cases h2:f.ask o=0
  ·simp [h2,gR]
  ·rw [hf o h2,Kf]
theorem l39 (n:Nat) {fld:Int} (me:Int) {bs:List aT} {fs:List Fld} {j:Nat} {f:Fld} (hx:dg fld bs=some j) (hf:fs[j]?=some f) {P:Int} (h6:j7 P) (c0:D) (c1 c2 cB ch:D) (R:Rr) (n1 n2:Nat) :
  bh [wH (RP (n+3)) (il fld),wG (RP (n+3)) (il fld)] M0 0 [.d (c0),.d (il P),.d (il 0),.d c1,.d c2,.m (mapM bs fs),.r R,.d (il me),.d cB,.n n1,.n n2,.d ch]=eD (some (0,[.d c1,.d c2,.m (mapM bs fs),.r R,.d (il me),.d cB,.n n1,.n n2,.d ch])) (fun acc=>some (1,[.r acc,.n acc.length,.n acc.length,.d c1,.d c2,.m (mapM bs fs),.r R,.d (il me),.d cB,.n n1,.n n2,.d ch])) (((List.range 6).filter fun (o:Nat)=>!decide ((o:Int)=me)&&(P.toNat.testBit o&&gR (f.ask o))).map rN):=by
 have:=iD 6 (by omega) (jZ (fun (o:Nat)=>!decide ((o:Int)=me)&&(P.toNat.testBit o&&gR (f.ask o))) rN) (wH (RP (n+3)) (il fld)) (wG (RP (n+3)) (il fld)) (fun i=>[.d (c0),.d (il P),.d (il i),.d c1,.d c2,.m (mapM bs fs),.r R,.d (il me),.d cB,.n n1,.n n2,.d ch])
  (fun i acc=>[.d (c0),.d (il P),.d (il i),.r acc,.n acc.length,.n acc.length,.d c1,.d c2,.m (mapM bs fs),.r R,.d (il me),.d cB,.n n1,.n n2,.d ch]) (some (0,[.d c1,.d c2,.m (mapM bs fs),.r R,.d (il me),.d cB,.n n1,.n n2,.d ch])) (fun acc=>some (1,[.r acc,.n acc.length,.n acc.length,.d c1,.d c2,.m (mapM bs fs),.r R,.d (il me),.d cB,.n n1,.n n2,.d ch])) ?_ ?_ ?_ ?_
 ·rw [gG] at this
  exact this
 ·intro k;simp [wH]
 ·intro k a t _;simp [wG]
 ·intro i k hi hw
  have hle:3*i+2+1≤20:=by omega
  simp only [wH,show ((i:Int) < 6) by omega,Bq 8 (by decide),hle,jW _ hi,ae,aj,aP,aU,aw,ax,av,aA,ah,aB,Jt,ac,Jv,br,an,ab,aC,cQ hi,aH,bW,cr,ck,ed,bb hf,bw,K4,Kq,eF _ _ _ _ (show (2:Int)≠0 by decide),ba,aO,aQ,Jy,K8,aS,aN,List.take,cl,aL,Kk,aF,hw,b5,hx,jZ,rN,pR _ _ h6,bM hi]
  by_cases h1:(i:Int)=me
  ·simp [h1]
  ·by_cases h2:P.toNat.testBit i=true
   ·by_cases h3:(f.ask i).tmod 2=1<;>simp [h1,h2,h3,gR]
   ·simp [h1,h2]
 ·intro i k a t hi ha hw
  simp only [Jy] at ha
  have hfit:=tY (n:=t.length) 8 (by decide) (by omega)
  have hle:3*i+2+1≤20:=by omega
  simp only [wG,show ((i:Int) < 6) by omega,hfit,bp,hle,jW _ hi,ae,aj,aP,aU,aw,ax,av,aA,ah,aB,Jt,ac,Jv,br,an,ab,aC,cQ hi,aH,bW,cr,ck,ed,bb hf,bw,K4,Kq,eF _ _ _ _ (show (2:Int)≠0 by decide),ba,aO,aQ,Jy,K8,aS,aN,List.take,aL,Kk,aF,hw,b5,hx,jZ,rN,pR _ _ h6,bM hi]
  by_cases h1:(i:Int)=me
  ·simp [h1]
  ·by_cases h2:P.toNat.testBit i=true
   ·by_cases h3:(f.ask i).tmod 2=1<;>simp [h1,h2,h3,gR]
   ·simp [h1,h2]
theorem s39 (n:Nat) (me h:Int) (b:Option (List aT)) (o:Option (List aY)) (fld:Int) (hl:(o.getD []).length≤4611686018427387904) (hb:(b.getD []).length≤4611686018427387904) :
  FN (n+6) 15 [il me,dB b,dS o,il h,il fld]=nl me (b.getD []) (o.getD []) h fld BC fun j=>some (0,[.d (dN (yp me (fl me (b.getD []) (o.getD []) j))),.d (il 0)]):=by
 rw [FS,Jb]
 have hop:AO (RP (n+5)) (il me) (dB b) (dS o) (il h) (il fld)=_:=op4 (n+1) me h b o (il fld) hl hb
 unfold G15
 refine gJ hop ?_
 unfold nl
 by_cases h1:bS me (b.getD []) (o.getD []) h=true
 ·have ho:=h1
  simp only [bS,Js] at h1
  simp only [ho,Jv,ab,bH,ae,aj,aP,aU,aw,ax,av,aA,ah,br,aB,My,Mf,Jw,ac,Jq,Jx,Jv,au,an,cH,lw _ _ hb,cR,Ju]
  cases hx:dg fld (b.getD []) with
  | none=>simp [BC];rfl
  | some j =>
   obtain ⟨e,he,hfld,hg,hj⟩:=eg hx
   have h6:=bK h1.2.1 e (Ka he)
   have hf:=mH ho hj
   have h39:=l39 (n+2) me hx hf h6 (il e.1) (il e.1) (il e.2) (dB b) (il h) ((o.getD []).map rS) (o.getD []).length (o.getD []).length
   have hk:=jv me e (o.getD []) fd0 (fun k hk=>absurd rfl hk)
   have hfe:(aI me e fd0 (o.getD [])).1=fl me (b.getD []) (o.getD []) j:=by rw [←hg];rfl
   rw [hfe] at hk
   rw [Ir hk] at h39
   simp only [reduceCtorEq,Jx,im hx,bO he,eC,fL,Jx,bf]
   rw [h39]
   cases yp me (fl me (b.getD []) (o.getD []) j) with
   | nil=>rfl
   | cons a t =>
    simp [eD,dN]
    exact Kl (by simp)
 ·simp [h1,BC];rfl
theorem l41 (n:Nat) {e:aT} (me:Int) {bs:List aT} {fs:List Fld} {j:Nat} {f:Fld} (hx:dg e.1 bs=some j) (hf:fs[j]?=some f) (h6:j7 e.2) (c1 c2 cB ch:D) (R:Rr) (n1 n2:Nat) :
  bh [wF (RP (n+3)) (rB e),wE (RP (n+3)) (rB e)] M0 0 [.d (il e.1),.d (il e.2),.d (il 0),.d c1,.d c2,.m (mapM bs fs),.r R,.d (il me),.d cB,.n n1,.n n2,.d ch]=eD (some (0,[.d c1,.d c2,.m (mapM bs fs),.r R,.d (il me),.d cB,.n n1,.n n2,.d ch])) (fun acc=>some (1,[.r acc,.n acc.length,.n acc.length,.d c1,.d c2,.m (mapM bs fs),.r R,.d (il me),.d cB,.n n1,.n n2,.d ch])) (((List.range 6).filter fun (o:Nat)=>!decide ((o:Int)=me)&&(e.2.toNat.testBit o&&!aK me o (f.no o))).map rN):=by
 have:=iD 6 (by omega) (jZ (fun (o:Nat)=>!decide ((o:Int)=me)&&(e.2.toNat.testBit o&&!aK me o (f.no o))) rN) (wF (RP (n+3)) (rB e)) (wE (RP (n+3)) (rB e)) (fun i=>[.d (il e.1),.d (il e.2),.d (il i),.d c1,.d c2,.m (mapM bs fs),.r R,.d (il me),.d cB,.n n1,.n n2,.d ch])
  (fun i acc=>[.d (il e.1),.d (il e.2),.d (il i),.r acc,.n acc.length,.n acc.length,.d c1,.d c2,.m (mapM bs fs),.r R,.d (il me),.d cB,.n n1,.n n2,.d ch]) (some (0,[.d c1,.d c2,.m (mapM bs fs),.r R,.d (il me),.d cB,.n n1,.n n2,.d ch])) (fun acc=>some (1,[.r acc,.n acc.length,.n acc.length,.d c1,.d c2,.m (mapM bs fs),.r R,.d (il me),.d cB,.n n1,.n n2,.d ch])) ?_ ?_ ?_ ?_
 ·rw [gG] at this
  exact this
 ·intro k;simp [wF]
 ·intro k a t _;simp [wE]
 ·intro i k hi hw
  have hle:3*i+1≤20:=by omega
  simp only [wF,show ((i:Int) < 6) by omega,Bq 8 (by decide),hle,eK _ hi,E9,eC,ae,aj,aP,aU,aw,ax,av,aA,ah,aB,Jt,ac,Jv,br,an,ab,aJ,aC,cQ hi,aH,bW,cr,ck,ed,bb hf,bw,K4,Kq,aO,aQ,Jy,K8,aS,aN,List.take,cl,aL,Kk,aF,hw,b5,hx,jZ,rN,pR _ _ h6,bM hi]
  by_cases h1:(i:Int)=me
  ·simp [h1]
  ·by_cases h2:e.2.toNat.testBit i=true
   ·by_cases h3:aK me i (f.no i)=true<;>simp [h1,h2,h3]
   ·simp [h1,h2]
 ·intro i k a t hi ha hw
  simp only [Jy] at ha
  have hfit:=tY (n:=t.length) 8 (by decide) (by omega)
  have hle:3*i+1≤20:=by omega
  simp only [wE,show ((i:Int) < 6) by omega,hfit,bp,hle,eK _ hi,E9,eC,ae,aj,aP,aU,aw,ax,av,aA,ah,aB,Jt,ac,Jv,br,an,ab,aJ,aC,cQ hi,aH,bW,cr,ck,ed,bb hf,bw,K4,Kq,aO,aQ,Jy,K8,aS,aN,List.take,aL,Kk,aF,hw,b5,hx,jZ,rN,pR _ _ h6,bM hi]
  by_cases h1:(i:Int)=me
  ·simp [h1]
  ·by_cases h2:e.2.toNat.testBit i=true
   ·by_cases h3:aK me i (f.no i)=true<;>simp [h1,h2,h3]
   ·simp [h1,h2]
theorem s41 (n:Nat) (me h:Int) (b:Option (List aT)) (o:Option (List aY)) (fld:Int) (hl:(o.getD []).length≤4611686018427387904) (hb:(b.getD []).length≤4611686018427387904) :
  FN (n+6) 16 [il me,dB b,dS o,il h,il fld]=nl me (b.getD []) (o.getD []) h fld BC fun j=>some (0,[.d (dN (dC me ((b.getD []).getD j (0,0)).2 (fl me (b.getD []) (o.getD []) j))),.d (il 0)]):=by
 rw [FS,Ja]
 have hop:AO (RP (n+5)) (il me) (dB b) (dS o) (il h) (il fld)=_:=op4 (n+1) me h b o (il fld) hl hb
 unfold G16
 refine gJ hop ?_
 unfold nl
 by_cases h1:bS me (b.getD []) (o.getD []) h=true
 ·have ho:=h1
  simp only [bS,Js] at h1
  simp only [ho,Jv,ab,bH,ae,aj,aP,aU,aw,ax,av,aA,ah,br,aB,My,Mf,Jw,ac,Jq,Jx,Jv,au,an,cH,lw _ _ hb,cR,Ju]
  cases hx:dg fld (b.getD []) with
  | none=>simp [BC];rfl
  | some j =>
   obtain ⟨e,he,hfld,hg,hj⟩:=eg hx
   have h6:=bK h1.2.1 e (Ka he)
   have hf:=mH ho hj
   have h41:=l41 (n+2) me (e:=e) (by rw [hfld];exact hx) hf h6 (il e.1) (il e.2) (dB b) (il h) ((o.getD []).map rS) (o.getD []).length (o.getD []).length
   have hm:=F8 me e.2 (fl me (b.getD []) (o.getD []) j)
   unfold CT at hm
   rw [hm] at h41
   simp only [reduceCtorEq,Jx,im hx,bO he,eC,fL,hg,Jx,bf]
   rw [h41]
   cases dC me e.2 (fl me (b.getD []) (o.getD []) j) with
   | nil=>rfl
   | cons a t =>
    simp [eD,dN]
    exact Kl (by simp)
 ·simp [h1,BC];rfl
end
section
theorem l96_0 (n:Nat) (bs:List aT) (fs:List Fld) {j:Nat} {f:Fld} (hj:fs[j]?=some f) (c1 c2 c3 c4:D) :
  bh [fU (RP n)] M0 0 [.n j,.n 0,.d (il 0),.d c1,.d c2,.d c3,.d c4,.m (mapM bs fs)]=some (0,[.d c1,.d c2,.d c3,.d c4,.m (mapM bs (fs.set j { f with af:=fun _=>false }))]):=by
 have:=ew (β:=Fld) 6 (by omega) (fU (RP n)) (fun i g=>[.n j,.n 0,.d (il i),.d c1,.d c2,.d c3,.d c4,.m (mapM bs (fs.set j g))]) (fun _ _=>True)
  (fun i g=>some (0,[.d c1,.d c2,.d c3,.d c4,.m (mapM bs (fs.set j { g with af:=fun q=>if i≤q then false else g.af q }))])) ?_ ?_ f trivial
 ·have e:fs.set j f=fs:=by
   apply Mp
   intro i
   rw [List.getElem?_set]
   split
   ·subst_vars;split<;>simp_all
   ·rfl
  simp only [e] at this
  simpa using this
 ·intro g k _
  simp [fU,mapM,Vc]
  rfl
 ·intro i g k hi _ hw ih
  have ih':=ih { g with af:=cd g.af i false } trivial
  rw [b5] at ih'
  have e:(fun q=>if i+1≤q then false else cd g.af i false q)=fun q=>if i≤q then false else g.af q:=by
   funext q
   unfold cd
   by_cases h1:i=q
   ·subst h1;simp
   ·by_cases h2:i≤q
    ·rw [K9 (by omega),K9 h2]
    ·rw [Kg (by omega),Kg h1,Kg h2]
  simp only [e] at ih'
  rw [←ih']
  have h20:3*i+1+1≤20:=by omega
  simp only [fU,mapM,ae,aj,aP,aU,aw,ax,ah,b8,aB,ac,show ((i:Int) < 6) by omega,Jt,Jv,aC,dk,aH,bW,ca,dI,bb (fu hj g),ec,cr,K4,Kq,Km,h20,pL (fu hj g) hi,Tv,aF,hw]
  rw [K9 (by omega)]
theorem e96_3:@qS=@fU:=rfl
theorem e96_4:@qR=@fT:=rfl
theorem e96_5:@qQ=@fS:=rfl
def Fy (c1 c2 c3 c4 c5 c6:D) (m:Mr) (i:Nat) (acc:List Nat):Nat×List Yr:=match acc with
 | []=>(0,[.d c1,.d c2,.d (il i),.m m,.d c3,.d c4,.d c5,.d c6])
 | a::t=>(1,[.d c1,.d c2,.d (il i),.r ((a::t).map fun (o:Nat)=>[il o]),.n (t.length+1),.n (t.length+1),.m m,.d c3,.d c4,.d c5,.d c6])
def AN (c3 c4 c5 c6:D) (m:Mr) (acc:List Nat):az:=match acc with
 | []=>some (0,[.m m,.d c3,.d c4,.d c5,.d c6])
 | a::t=>some (1,[.r ((a::t).map fun (o:Nat)=>[il o]),.n (t.length+1),.n (t.length+1),.m m,.d c3,.d c4,.d c5,.d c6])
theorem Dy (c1 c2 c3 c4 c5 c6:D) (m:Mr) (i:Nat) (acc:List Nat) (x:Nat) :
  Fy c1 c2 c3 c4 c5 c6 m i (acc++[x])=(1,[.d c1,.d c2,.d (il i),.r ((acc++[x]).map fun (o:Nat)=>[il o]),.n (acc.length+1),.n (acc.length+1),.m m,.d c3,.d c4,.d c5,.d c6]):=by
 cases acc with
 | nil=>rfl
 | cons a t=>simp [Fy]
theorem l96_m (n:Nat) {bs:List aT} {fs:List Fld} {j:Nat} {f:Fld} {fld:Int} (hj:fs[j]?=some f) (hx:dg fld bs=some j) {P:Int} (hP:j7 P) (me:Int) (y:List Yr) (hy:(RP (n+3)).ld y 6=il fld) (c1 c4 c5 c6:D) :
  bh [fT (RP (n+3)) y,fS (RP (n+3)) y] M0 0 [.d c1,.d (il P),.d (il 0),.m (mapM bs fs),.d (il me),.d c4,.d c5,.d c6]=AN (il me) c4 c5 c6 (mapM bs fs) (dC me P f):=by
 have:=iN (σ:=Nat×List Nat) [fT (RP (n+3)) y,fS (RP (n+3)) y] (fun s=>Fy c1 (il P) (il me) c4 c5 c6 (mapM bs fs) s.1 s.2) (fun s=>6 - s.1) (fun s=>s.1≤6∧s.2.length≤s.1)
  (fun s=>AN (il me) c4 c5 c6 (mapM bs fs) (s.2++oA me P f s.1)) ?_ M0 (0,[]) ⟨by simp,by simp⟩ (by simp only [M0];omega)
 ·exact this
 ·rintro ⟨i,acc⟩ k ⟨hi,ha⟩ ih
  simp only at hi ha
  by_cases h6:i=6
  ·subst h6
   cases acc with
   | nil=>exact ⟨_,rfl,by simp [fT,Fy,AN,jj]⟩
   | cons a t=>exact ⟨_,rfl,by simp [fS,Fy,AN,jj]⟩
  ·have hi':i < 6:=by omega
   have hw:=dX (show i < 7 by omega) (show 7≤4611686018427387904 by omega)
   have ih0:=ih (i+1,acc) ⟨hi',by simp only;omega⟩ (by simp only;omega)
   have ih1:=ih (i+1,acc++[i]) ⟨hi',by simp;omega⟩ (by simp only;omega)
   simp only [Dy,b5,Kh,K2,K7] at ih1
   simp only at ih0
   have h20:3*i+1≤20:=by omega
   have hlt:(i:Int) < 6:=by omega
   have hin:0≤(i:Int)∧(i:Int) < (6:Nat):=by omega
   rw [lV hi']
   cases acc with
   | nil =>
    refine ⟨_,rfl,?_⟩
    simp only [Fy,b5] at ih0
    simp only [Fy,fT,mapM,ae,aj,aP,aU,ah,aB,hlt,Jt,ac,Jv,br,an,pR _ _ hP,ab,bM hi',hy,eo,hx,aC,dk,ca,bb hj,aH,bW,cr,bw,K4,Kq,Km,h20,eK f hi',E9,aJ,aO,aQ,Jy,K8,aS,aN,List.take,cl,aL,aF,hw]
    rw [K9 hin]
    by_cases h1:(i:Int)=me
    ·simp only [h1,My,Mf,Jw,Jt,Jq,Jx,K1,Mj]
     rw [←h1] at ih0 ⊢
     exact ih0
    ·cases h2:P.toNat.testBit i with
     | false =>
      simp only [h1,My,Kw,Jt,Jv,Jq,Jx,Bool.and_false,Mj]
      exact ih0
     | true =>
      cases h3:aK me i (f.no i) with
      | true =>
       simp only [h1,My,Kw,Jt,Jv,Jq,Jx,Bool.and_false,K1]
       exact ih0
      | false =>
       simp only [h1,My,Kw,Jt,Jv,M6,Jw,Kf]
       rw [K9 (by decide)]
       exact ih1
   | cons a t =>
    refine ⟨_,rfl,?_⟩
    simp only [Fy,b5] at ih0
    simp only [Fy,fS,mapM,ae,aj,aP,aU,aw,ax,av,aA,ah,aB,hlt,Jt,ac,Jv,br,an,pR _ _ hP,ab,bM hi',hy,eo,hx,aC,dk,ca,bb hj,aH,bW,cr,bw,K4,Kq,Km,h20,eK f hi',E9,aJ,aO,aQ,Jy,K8,aS,aN,List.take,aL,aF,hw,K5,bp]
    rw [K9 hin]
    by_cases h1:(i:Int)=me
    ·simp only [h1,My,Mf,Jw,Jt,Jq,Jx,K1,Mj]
     rw [←h1] at ih0 ⊢
     exact ih0
    ·cases h2:P.toNat.testBit i with
     | false =>
      simp only [h1,My,Kw,Jt,Jv,Jq,Jx,Bool.and_false,Mj]
      exact ih0
     | true =>
      cases h3:aK me i (f.no i) with
      | true =>
       simp only [h1,My,Kw,Jt,Jv,Jq,Jx,Bool.and_false,K1]
       exact ih0
      | false =>
       simp only [h1,My,Kw,Jt,Jv,M6,Jw,Kf]
       simp only [Jy] at ha
       rw [K9 (by omega)]
       simp only [Mm,K0,Kb,Jy] at ih1 ⊢
       exact ih1
def Fx (l:List aY) (bs:List aT) (c1 c2 c3 c4:D) (i:Nat) (fs:List Fld):List Yr:=[.d (dS (some l)),.d (il l.length),.d (il i),.m (mapM bs fs),.d c1,.d c2,.d c3,.d c4]
def km (bs:List aT) (c1 c2 c3 c4:D) (q:List Fld×Bool):az:=if q.2=true then some (1,[.m (mapM bs q.1),.d c1,.d c2,.d c3,.d c4]) else some (0,[.d (bl false),.m (mapM bs q.1),.d c1,.d c2,.d c3,.d c4])
set_option maxRecDepth 20000 in
theorem l96 (n:Nat) (b:Option (List aT)) (hb:(b.getD []).length≤4611686018427387904) (h6:∀ c∈b.getD [],j7 c.2) (l:List aY) (hl:l.length≤4611686018427387904) (me:Int) (c3 c4:D) (fs:List Fld) (hf:fs.length=(b.getD []).length) :
  bh [f9 (RP (n+3))] M0 0 (Fx l (b.getD []) (il me) (dB b) c3 c4 0 fs)=km (b.getD []) (il me) (dB b) c3 c4 (bI me (b.getD []) fs l):=by
 have:=aZ (β:=List Fld) l hl (f9 (RP (n+3))) (fun i fs=>Fx l (b.getD []) (il me) (dB b) c3 c4 i fs) (fun _ fs=>fs.length=(b.getD []).length)
  (fun _ r fs=>km (b.getD []) (il me) (dB b) c3 c4 (bI me (b.getD []) fs r)) ?_ ?_ M0 fs hf (cc hl)
 ·exact this
 ·intro fs k _
  simp [f9,Fx,km,bI]
 ·intro i s r fs k hi hd hlt hw hfs ih
  have hlt':(i:Int) < (l.length:Int):=by omega
  have hin:0≤(i:Int)∧(i:Int) < (l.length:Nat):=by omega
  rw [bI]
  by_cases hs:gQ s=true
  ·rw [K9 hs]
   cases hx:dg s.2.1 (b.getD []) with
   | none =>
    have hneg:oE s.2.1 (b.getD []) < 0:=cR.2 hx
    simp only [Fx,f9,ae,aj,aP,aU,aw,ax,aB,hlt',Jt,ac,Jv,lx (o:=some l) hi,wX,vU,wW,vS,an,sX,ab,hs,aJ,K1,Jq,Jx,cH,lw _ _ hb,ah,hneg,b8,au,ba,l6,km]
    simp
   | some j =>
    obtain ⟨hj1,hj2⟩:=ey hx
    have hnn:¬ (oE s.2.1 (b.getD []) < 0):=by rw [cR,hx];simp
    have hix:oE s.2.1 (b.getD [])=(j:Int):=by simp [oE,hx]
    obtain ⟨e,he⟩:∃ e,(b.getD [])[j]?=some e:=⟨_,Jz hj1⟩
    have hP:j7 e.2:=h6 e (Ka he)
    have hge:(b.getD []).getD j (0,0)=e:=by simp [Kd,he]
    obtain ⟨f,hf⟩:∃ f,fs[j]?=some f:=⟨_,Jz (by omega)⟩
    have hgf:fs.getD j fd0=f:=by simp [Kd,hf]
    simp only
    rw [hge,hgf]
    have ihs:∀ g,k 0 (Fx l (b.getD []) (il me) (dB b) c3 c4 (i+1) (fs.set j g))=km (b.getD []) (il me) (dB b) c3 c4 (bI me (b.getD []) (fs.set j g) r):=fun g=>ih _ (by rw [l4];exact hfs)
    simp only [Fx,b5] at ihs
    simp only [Fx,f9,ae,aj,aP,aU,aB,hlt',Jt,ac,Jv,lx (o:=some l) hi,wX,vU,wW,vS,an,sX,ab,hs,aJ,K1,Jq,Jx,cH,lw _ _ hb,ah,hnn,Jw,b8,au]
    rw [hix,bO he]
    simp only [eC,fL,ab,ae,aj,aP,aU]
    rcases mJ hs with ⟨h1,ho⟩ | h1 | ⟨h1,ho⟩ | h1
    ·have hp:=bP ho
     have hq:0≤s.2.2.1∧s.2.2.1 < (6:Nat):=by have:=bn.1 ho;omega
     have k1:3*s.2.2.1.toNat+1≤20:=by omega
     have k2:3*s.2.2.1.toNat+1+1≤20:=by omega
     unfold bi
     simp only [h1,ba,Jt,Jv,ab,ae,aj,aP,aU,aJ,ac,K1,Jq,Jx,pR _ _ hP,mapM,aC,dk,hq,Kk,ca,bb hf,aH,bW,cr,bw,K4,Kq,fX,eK f hp,ic,tm,eo,hx,dI,ec,xn hf hp,bb (fu hf _),pL (fu hf _) hp,Tv,aF,hw,k1,k2,show 19+1≤20 by decide,Ju]
     by_cases g1:s.2.2.1=me
     ·simp [g1,km,mapM]
     ·by_cases g2:bU e.2 s.2.2.1=true
      ·by_cases g3:f.opn=true
       ·simp [g1,g2,g3,km,mapM]
       ·by_cases g4:s.2.2.2≤f.no s.2.2.1.toNat
        ·simp [g1,g2,g3,g4,km,mapM]
        ·have ih':=ihs { f with no:=cd f.no s.2.2.1.toNat s.2.2.2,af:=cd f.af s.2.2.1.toNat true }
         have g3':f.opn=false:=by simpa using g3
         simp only [mapM,g3'] at ih'
         simp only [g1,g2,g3',g4,Jx,ab,ae,aj,aP,aU,aJ,ac,K1,Jq,Jw,Mv]
         exact ih'
      ·simp [g1,g2,km,mapM]
    ·unfold bi
     simp only [h1,ba,show ¬ ((2:Int)=1) by decide,show ¬ ((2:Int)=3) by decide,Jw,Jv,ab,ae,aj,aP,aU,aJ,ac,K1,Jq,Jx,mapM,aC,ca,bb hf,aH,bW,cr,bw,K4,Kq,dZ,ic,tk,eo,hx,dI,ec,ny hf,bf,e96_3,aF,hw,show 18+1≤20 by decide,Ju]
     by_cases g1:s.2.2.2≤f.wants
     ·simp [g1,km,mapM]
     ·have ih':=ihs { f with wants:=s.2.2.2,af:=fun _=>false }
      have h0:=l96_0 (n+3) (b.getD []) (fs.set j { f with wants:=s.2.2.2 }) (fu hf _) (il me) (dB b) c3 c4
      simp only [mapM,Tv] at ih' h0
      simp only [g1,Jx,h0,ab,ae,aj,aP,aU]
      exact ih'
    ·have hp:=bP ho
     have hq:0≤s.2.2.1∧s.2.2.1 < (6:Nat):=by have:=bn.1 ho;omega
     have k2:3*s.2.2.1.toNat+2+1≤20:=by omega
     unfold bi
     simp only [h1,ba,show ¬ ((3:Int)=1) by decide,show ¬ ((3:Int)=2) by decide,Jt,Jw,Jv,ab,ae,aj,aP,aU,aJ,ac,K1,Jq,Jx,pR _ _ hP,mapM,aC,dk,hq,Kk,ca,bb hf,aH,bW,cr,bw,K4,Kq,jW f hp,ic,tj,eo,hx,dI,ec,sV hf hp,aF,hw,k2,Ju]
     by_cases g1:s.2.2.1=me
     ·simp [g1,km,mapM]
     ·by_cases g2:bU e.2 s.2.2.1=true
      ·by_cases g4:s.2.2.2≤f.ask s.2.2.1.toNat
       ·simp [g1,g2,g4,km,mapM]
       ·have ih':=ihs { f with ask:=cd f.ask s.2.2.1.toNat s.2.2.2 }
        simp only [mapM] at ih'
        simp only [g1,g2,g4,Jx,ab,ae,aj,aP,aU,K1,Jq,Jw,Mv]
        exact ih'
      ·simp [g1,g2,km,mapM]
    ·unfold bi
     have he1:e.1=s.2.1:=by rw [←hge];exact hj2
     have hj0:¬ ((j:Int) < 0):=by omega
     simp only [h1,ba,show ¬ ((4:Int)=1) by decide,show ¬ ((4:Int)=2) by decide,show ¬ ((4:Int)=3) by decide,Jw,Jv,ab,ae,aj,aP,aU,aw,ax,aJ,ac,K1,Jq,Jx,mapM,aC,ti,eo,hx,cH,lw _ _ hb,hix,hj0,bO he,eC,fL,aB,ca,bb hf,aH,bW,cr,bw,K4,Kq,fX,e7,dI,ec,bf,e96_4,e96_5,aF,hw,show 19+1≤20 by decide,he1,Ju]
     by_cases g1:s.2.2.2=1
     ·cases g2:f.opn with
      | true=>simp [g1,km,mapM]
      | false =>
       have h0:=fun y hy=>l96_m (n:=n) hf hx hP me y hy (il s.2.1) (dB b) c3 c4
       simp only [mapM] at h0
       simp only [g1,Jt,show ((false==true)=true)=False by simp,Jx,Jv]
       rw [h0 _ (by simp)]
       cases hm:dC me e.2 f with
       | nil =>
        have ih':=ihs { f with opn:=true }
        simp only [mapM] at ih'
        simp only [AN,ab,ae,aj,aP,aU,bz,ac,show ¬ ((0:Int) < 0) by decide,Jw,Jq,Jx,bb hf,l3 hf,aJ,K1,Tc,Bool.and_false,Mv,show ((false==true)=true)=False by simp]
        exact ih'
       | cons a t =>
        have:(0:Int) < ((t.length+1:Nat):Int):=by omega
        simp only [AN,ab,bH,ae,aj,aP,aU,aw,ax,av,bz,ac,dj,this,Jt,Jv,aJ,M6]
        simp [km,mapM]
     ·cases g2:f.opn with
      | true =>
       have ih':=ihs { f with opn:=false }
       simp only [mapM] at ih'
       simp only [g1,Jw,show ((true==false)=true)=False by simp,Jx,Jq,l3 hf,ab,ae,aj,aP,aU,aJ,ac,K1,Mj,Mv]
       exact ih'
      | false=>simp [g1,km,mapM]
  ·simp only [Fx,f9,ae,aj,aP,aU,aB,hlt',Jt,ac,Jv,lx (o:=some l) hi,wX,vU,wW,vS,an,sX,ab,hs,aJ,au,b8]
   simp [km]
theorem Ce (n:Nat) (b:Option (List aT)) (hb:(b.getD []).length≤4611686018427387904) (h6:∀ c∈b.getD [],j7 c.2) (l:List aY) (hl:l.length≤4611686018427387904) (me:Int) (c3 c4:D) (fs:List Fld) (hf:fs.length=(b.getD []).length) :
  FN (n+4) 1600035 [il me,dB b,c3,c4,.mp true (fi (b.getD [])) (fs.map bT),.sl 4 (l.map rS)] =
   some (0,[.d (bl (bI me (b.getD []) fs l).2),.d (il me),.d (dB b),.d c3,.d c4,.d (.mp true (fi (b.getD [])) ((bI me (b.getD []) fs l).1.map bT))]):=by
 rw [FS,wM]
 have h:=l96 n b hb h6 l hl me c3 c4 fs hf
 have ha:∀ k:Mr→az,(RP (n+3)).asM true (.mp true (fi (b.getD [])) (fs.map bT)) k=k (mapM (b.getD []) fs):=fun _=>rfl
 have hd:(D.sl 4 (l.map rS))=dS (some l):=rfl
 have hn:(RP (n+3)).lenD (dS (some l))=fun k=>k (il l.length):=by funext k;exact b7 _ _ _ k
 simp only [Fx,Tf] at h
 simp only [wN,hd,hn,ha,bf,ah,h,km]
 cases (bI me (b.getD []) fs l).2<;>simp [k9,mapM]
end
section
set_option maxRecDepth 100000
section
variable {Δ N R W M E Ω:Type} (p:Pr Δ N R W M E Ω)
def F5 (a0 a1 a2 a3 a4: Δ):Ω:=(p.bnd (p.call 33 [a0]) [fun y0=>p.un .not (p.ld y0 0) fun x1=>p.cond x1 (p.out 0 [.d a4,.d (p.lit (.int .i64 92)),.d (p.lit (.int .i64 0)),.d (p.lit (.int .i64 0))]) (p.bnd (p.call 81 [a0,a1]) [fun y2=>p.un .not (p.ld y2 0) fun x3=>p.cond x3 (p.out 0 [.d a4,.d (p.lit (.int .i64 92)),.d (p.lit (.int .i64 0)),.d (p.lit (.int .i64 0))]) (p.lenD a2 fun x4=>p.bin .gtr false x4 (p.lit (.int .i64 120)) fun x5=>p.cond x5 (p.out 0 [.d a4,.d (p.lit (.int .i64 92)),.d (p.lit (.int .i64 0)),.d (p.lit (.int .i64 0))]) (p.lenD a2 fun x6=>p.bnd (p.call 82 [a3,(p.lit (.int .i64 0)),x6]) [fun y7=>p.un .not (p.ld y7 0) fun x8=>p.cond x8 (p.out 0 [.d a4,.d (p.lit (.int .i64 92)),.d (p.lit (.int .i64 0)),.d (p.lit (.int .i64 0))]) (p.bnd (p.call 83 [a1]) [fun y9=>p.lenD a2 fun x10=>p.mkN 32 x10 x10 fun n11=>p.rowsD 4 a2 fun r12=>p.eqN n11 (p.len (p.repl n11 [(p.lit (.int .i64 0)),(p.lit (.int .i64 0)),(p.lit (.int .i64 0)),(p.lit (.int .i64 0))])) (p.eqN n11 (p.len (p.repl n11 [(p.lit (.int .i64 0)),(p.lit (.int .i64 0)),(p.lit (.int .i64 0)),(p.lit (.int .i64 0))])) (p.lenD (p.ld y9 0) fun x13=>p.bnd (p.loop [(kg p)] 0 [.d (p.ld y9 0),.d x13,.d (p.lit (.int .i64 0)),.m p.emp,.d a0,.d (p.ld y9 0),.n n11,.n n11,.d a3,.d (p.lit (.int .i64 0)),.d (p.lit (.int .i64 0)),.r (p.app (p.seg r12 none n11) (p.seg (p.repl n11 [(p.lit (.int .i64 0)),(p.lit (.int .i64 0)),(p.lit (.int .i64 0)),(p.lit (.int .i64 0))]) (some (p.len r12)) n11)),.d a0,.d (p.ld y9 0),.n n11,.n n11,.d a3]) [fun y14=>p.eqN n11 (p.len (p.lr y14 8)) (p.eqN n11 (p.len (p.lr y14 8)) (p.bnd (p.call 1000035 [p.ld y14 1,p.ld y14 2,(p.natD (p.ln y14 3)),(p.natD (p.ln y14 4)),p.ld y14 5,(p.slD 4 (p.lr y14 8)),(p.mpD true (p.lm y14 0))]) [fun y15=>p.rowsD 4 (p.ld y15 6) fun r16=>p.asM true (p.ld y15 7) fun q17=>p.un .not (p.ld y15 0) fun x18=>p.cond x18 (p.out 0 [.d a4,.d (p.lit (.int .i64 92)),.d (p.ld y14 6),.d (p.ld y14 7)]) (p.out 1 [.d a4,.d (p.lit (.int .i64 0)),.m q17,.r r16,.d (p.ld y15 1),.d (p.ld y15 2),.n (p.dN (p.ld y15 3)),.n (p.dN (p.ld y15 4)),.d (p.ld y15 5),.d (p.ld y14 6),.d (p.ld y14 7)])]))]))])]))])])
end
theorem l43 (n:Nat) (o:Option (List aT)) (hl:(o.getD []).length≤4611686018427387904) (hr:lA (o.getD [])) (c0:D) (c1:D) (c2:Nat) (c3:Nat) (c4:D) (c5:D) (c6:D) (c7:Rr) (c8:D) (c9:D) (c10:Nat) (c11:Nat) (c12:D) :
  bh [kg (RP n)] M0 0 [.d (dB o),.d (il (o.getD []).length),.d (il 0),.m ([],[]),.d c0,.d c1,.n c2,.n c3,.d c4,.d c5,.d c6,.r c7,.d c8,.d c9,.n c10,.n c11,.d c12] =
   some (0,[.m (mapM (o.getD []) (new (o.getD []))),.d c0,.d c1,.n c2,.n c3,.d c4,.d c5,.d c6,.r c7,.d c8,.d c9,.n c10,.n c11,.d c12]):=by
 have:=aZ (β:=Unit) (o.getD []) hl (kg (RP n)) (fun i _=>[.d (dB o),.d (il (o.getD []).length),.d (il i),.m (mapM ((o.getD []).take i) (new ((o.getD []).take i))),.d c0,.d c1,.n c2,.n c3,.d c4,.d c5,.d c6,.r c7,.d c8,.d c9,.n c10,.n c11,.d c12]) (fun _ _=>True)
  (fun _ _ _=>some (0,[.m (mapM (o.getD []) (new (o.getD []))),.d c0,.d c1,.n c2,.n c3,.d c4,.d c5,.d c6,.r c7,.d c8,.d c9,.n c10,.n c11,.d c12])) ?_ ?_ M0 () trivial (cc hl)
 ·exact this
 ·intro _ k _
  simp [kg,T1]
 ·intro i e r _ k hi hd hlt hw _ ih
  have hlt':(i:Int) < ((o.getD []).length:Int):=by omega
  have ih':=ih () trivial
  rw [b5,hH hi,kH] at ih'
  have hadd:=fun k=>qb (Fn:=FN n) (FnD:=dW Tryz.prog (fm tb Tryz.prog) (FN n)) (m:=M0) (cz ((o.getD []).take i)) (nb hr hi) fd0 k
  have hlen:((o.getD []).take i).length=i:=by simp;omega
  simp only [mB,hlen] at hadd
  simp only [kg,mapM,ae,aj,aP,aU,aw,ax,av,aA,aB,hlt',Jt,ac,Jv,bO hi,eC,aC,aS,dI,bp,ca,aO,ah,b8,aQ,K5,cz,hlen,hadd,aF,hw]
  exact ih'
theorem op2 (n:Nat) (me h:Int) (b:Option (List aT)) (o:Option (List aY)) (a:D) (hl:(o.getD []).length≤4611686018427387904) (hb:(b.getD []).length≤4611686018427387904) :
  F5 (RP (n+4)) (il me) (dB b) (dS o) (il h) a=if bS me (b.getD []) (o.getD []) h=true then some (1,[.d a,.d (il 0),.m (mapM (b.getD []) (pg me (b.getD []) (o.getD []))),.r ((o.getD []).map rS),.d (il me),.d (dB b),.n (o.getD []).length,.n (o.getD []).length,.d (il h),.d (il 0),.d (il 0)]) else some (0,[.d a,.d (il 92),.d (il 0),.d (il 0)]):=by
 simp only [F5,an,Ay,s62 _ _ _ hb,yK,b7,ab,ae,aJ,ac,au,ah,bz,bS]
 by_cases h1:dR me=true
 ·by_cases h2:cC me (b.getD [])=true
  ·have h2':=h2
   simp only [cC,Js,Ju] at h2'
   by_cases h3:(o.getD []).length≤120
   ·have h3':¬ ((120:Int) < (o.getD []).length):=by omega
    by_cases h4:eZ h 0 (o.getD []).length=true
    ·have hmk:0≤((o.getD []).length:Int)∧((32:Nat):Int)*((o.getD []).length:Int)≤140737488355328∧((o.getD []).length:Int)≤9223372036854775807:=by omega
     simp only [h1,h2,h3,h3',h4,K1,Jq,Jx,Jv,Jt,Jw,Kf,s63 _ _ h2'.2,ab,ae,lT,hmk,Kk,Km,jb,lS,aQ,List.length_replicate,aS,b7,oy,bp,aN,lR,bf,K5]
     have hseg:=j9 ((o.getD []).map rS) [il 0,il 0,il 0,il 0]
     rw [K5] at hseg
     rw [hseg,l43 _ _ hb (fx h2'.1)]
     simp only [ab,ae,aj,aP,aw,ax,av,aA,K5,Jv,dj,dt,k9,mapM]
     rw [ja _ _ hb (bK h2) _ (by omega) _ _ _ _ _ (cz _)]
     have hr4:∀ k:Rr→az,(RP (n+4)).rowsD 4 (.sl 4 ((o.getD []).map rS)) k=k ((o.getD []).map rS):=fun _=>rfl
     simp only [ab,ae,aj,fv,aJ,ac,tp]
     have ha:∀ (a:List Value) (b:Rr) (k:Mr→az),(RP (n+4)).asM true (.mp true a b) k=k (a,b):=fun _ _ _=>rfl
     rw [ha]
     simp only [pg]
     rw [show (b.getD []).map (fun _=>fd0)=new (b.getD []) from rfl]
     cases (bI me (b.getD []) (new (b.getD [])) (o.getD [])).2<;>rfl
    ·simp [h1,h2,h3,h3',h4]
   ·have h3':((120:Int) < (o.getD []).length):=by omega
    simp [h1,h2,h3,h3']
  ·simp [h1,h2]
 ·simp [h1]
theorem l43_1 (n:Nat) (o:Option (List aT)) (hl:(o.getD []).length≤4611686018427387904) (hr:lA (o.getD [])) (c0 c1 c2 c3 c4 c5 c6 c7 c8 c9:D) (q:Mr) :
  bh [wK (RP n)] M0 0 [.d (dB o),.d (il (o.getD []).length),.d (il 0),.m ([],[]),.d c0,.d c1,.d c2,.d c3,.d c4,.d c5,.d c6,.d c7,.d c8,.d c9,.m q] =
   some (0,[.m (mapM (o.getD []) (new (o.getD []))),.d c0,.d c1,.d c2,.d c3,.d c4,.d c5,.d c6,.d c7,.d c8,.d c9,.m q]):=by
 have:=aZ (β:=Unit) (o.getD []) hl (wK (RP n)) (fun i _=>[.d (dB o),.d (il (o.getD []).length),.d (il i),.m (mapM ((o.getD []).take i) (new ((o.getD []).take i))),.d c0,.d c1,.d c2,.d c3,.d c4,.d c5,.d c6,.d c7,.d c8,.d c9,.m q]) (fun _ _=>True)
  (fun _ _ _=>some (0,[.m (mapM (o.getD []) (new (o.getD []))),.d c0,.d c1,.d c2,.d c3,.d c4,.d c5,.d c6,.d c7,.d c8,.d c9,.m q])) ?_ ?_ M0 () trivial (cc hl)
 ·exact this
 ·intro _ k _
  simp [wK,T1]
 ·intro i e r _ k hi hd hlt hw _ ih
  have hlt':(i:Int) < ((o.getD []).length:Int):=by omega
  have ih':=ih () trivial
  rw [b5,hH hi,kH] at ih'
  have hadd:=fun k=>qb (Fn:=FN n) (FnD:=dW Tryz.prog (fm tb Tryz.prog) (FN n)) (m:=M0) (cz ((o.getD []).take i)) (nb hr hi) fd0 k
  have hlen:((o.getD []).take i).length=i:=by simp;omega
  simp only [mB,hlen] at hadd
  simp only [wK,mapM,ae,aj,aP,aU,aB,hlt',Jt,ac,Jv,bO hi,eC,aC,aS,dI,bp,ca,aO,ah,b8,aQ,K5,cz,hlen,hadd,aF,hw]
  exact ih'
def ky (me:Int) (ss:List aY) (to:Int) (c:aT):Option ge:=if bU c.2 to=true then some (c.1,(aI me c fd0 ss).1.no to.toNat,(aI me c fd0 ss).1.wants) else none
def ea (me:Int) (bs:List aT) (ss:List aY) (to:Int):List ge:=bs.filterMap (ky me ss to)
def FI (l:List ge):D:=match l with
 | []=>dl
 | a::t=>.sl 3 ((a::t).map rT)
def jT (e:Int):az:=some (0,[.d (il 0),.d (il 0),.d dl,.d (il e)])
def rI (me:Int) (bs:List aT) (ss:List aY) (h to:Int):az :=
 if bS me bs ss h=true then (if !dR to||decide (to=me) then jT 1 else some (0,[.d (il me),.d (il to),.d (FI (ea me bs (ss.take h.toNat) to)),.d (il 0)])) else jT 92
theorem qC {α β:Type} (f:α→Option β):∀ l:List α,(List.range l.length).filterMap (fun i=>(l[i]?).bind f)=l.filterMap f
 | []=>rfl
 | a::t=>by
  rw [Jy,List.range_succ_eq_map,List.filterMap_cons,List.filterMap_cons,List.filterMap_map]
  have:=qC f t
  simp only [Ky,Ke,T3,T2,Nat.succ_eq_add_one,this]
theorem I8 {α β γ:Type} (f:α→Option β) (g:β→γ) (l:List α):l.filterMap (fun x=>(f x).map g)=(l.filterMap f).map g:=by
 rw [List.map_filterMap]
theorem qd {me:Int} {bs:List aT}:∀ (l:List aY) (fs:List Fld) (n:Nat),(bI me bs fs l).2=true→(bI me bs fs (l.take n)).2=true
 | [],fs,n,h=>by simpa using h
 | s::r,fs,0,_=>rfl
 | s::r,fs,n+1,h=>by
  rw [Tx]
  unfold bI at h ⊢
  by_cases h1:gQ s=true
  ·rw [K9 h1] at h ⊢
   cases hx:dg s.2.1 bs with
   | none=>simp [hx] at h
   | some i =>
    simp only [hx] at h ⊢
    cases hs:bi me (bs.getD i (0,0)).2 (fs.getD i fd0) s with
    | none=>rw [hs] at h;cases h
    | some f =>
     simp only [hs] at h ⊢
     exact qd r _ n h
  ·rw [Kg h1] at h;cases h
theorem yX {me:Int} {bs:List aT} {ss:List aY} {h:Int} (ho:bS me bs ss h=true) (n:Nat) {j:Nat} {e:aT} (he:bs[j]?=some e):(pg me bs (ss.take n))[j]?=some (aI me e fd0 (ss.take n)).1:=by
 have hj:j < bs.length:=by
  rcases Nat.lt_or_ge j bs.length with h' | h'
  ·exact h'
  ·rw [Kx h'] at he;cases he
 have hr:=cN ho
 have ho':=ho
 simp only [bS,Js] at ho'
 have:=(kD (me:=me) hr (ss.take n) (new bs) (cz bs)).2.1 (qd ss _ n ho'.2.2.2.2)
 have h1:=this.2 j hj
 rw [zg,gU _ he] at h1
 have h2:j < (pg me bs (ss.take n)).length:=by rw [xy hr];exact hj
 rw [Jz h2,h1]
 simp [pg,Kd,Jz (show j < (bI me bs (new bs) (ss.take n)).1.length from h2)]
theorem DG {bs:List aT} (hr:lA bs) {i:Nat} {e:aT} (he:bs[i]?=some e):dg e.1 bs=some i:=by
 have hi:i < bs.length:=by
  rcases Nat.lt_or_ge i bs.length with h | h
  ·exact h
  ·rw [Kx h] at he;cases he
 rw [Jz hi] at he
 simp only [Jr] at he
 rw [←he]
 exact u6 hr hi
def rV (me:Int) (bs:List aT) (ss:List aY) (to:Int) (i:Nat):Option (List D):=(bs[i]?).bind fun c=>(ky me ss to c).map rT
theorem nF (me:Int) (bs:List aT) (ss:List aY) (to:Int):(List.range bs.length).filterMap (rV me bs ss to)=(ea me bs ss to).map rT:=by
 exact (qC (fun c=>(ky me ss to c).map rT) bs).trans (I8 _ _ _)
theorem jc {me:Int} {bs:List aT} {ss:List aY} {to:Int} {i:Nat} {e:aT} (he:bs[i]?=some e):rV me bs ss to i=if bU e.2 to=true then some [il e.1,il ((aI me e fd0 ss).1.no to.toNat),il (aI me e fd0 ss).1.wants] else none:=by
 unfold rV ky
 rw [he]
 simp only [Ke]
 split<;>rfl
theorem l43_2 (n:Nat) (b:Option (List aT)) (hb:(b.getD []).length≤120) {me h:Int} {ss:List aY} (ho:bS me (b.getD []) ss h=true) (m:Nat) {to:Int} (hp:dR to=true) (c0 c1 c2 c3 c4 c5 c6 c7:D) :
  bh [wJ (RP (n+3)),wI (RP (n+3))] M0 0 [.d (il to),.d (dB b),.d (il (b.getD []).length),.d (il 0),.m (mapM (b.getD []) (pg me (b.getD []) (ss.take m))),.d c0,.d c1,.d c2,.d c3,.d c4,.d c5,.d c6,.d c7] =
   eD (some (0,[.d c0,.d c1,.d c6,.d c7])) (fun acc=>some (1,[.r acc,.d c0,.d c1,.n acc.length,.n acc.length,.d c6,.d c7])) ((ea me (b.getD []) (ss.take m) to).map rT):=by
 have hr:=cN ho
 have hlt:=bP hp
 have ho':=ho
 simp only [bS,Js] at ho'
 have:=iD (b.getD []).length (by omega) (rV me (b.getD []) (ss.take m) to) (wJ (RP (n+3))) (wI (RP (n+3)))
  (fun i=>[.d (il to),.d (dB b),.d (il (b.getD []).length),.d (il i),.m (mapM (b.getD []) (pg me (b.getD []) (ss.take m))),.d c0,.d c1,.d c2,.d c3,.d c4,.d c5,.d c6,.d c7])
  (fun i acc=>[.d (il to),.d (dB b),.d (il (b.getD []).length),.d (il i),.m (mapM (b.getD []) (pg me (b.getD []) (ss.take m))),.r acc,.d c0,.d c1,.n acc.length,.n acc.length,.d c2,.d c3,.d c4,.d c5,.d c6,.d c7])
  (some (0,[.d c0,.d c1,.d c6,.d c7])) (fun acc=>some (1,[.r acc,.d c0,.d c1,.n acc.length,.n acc.length,.d c6,.d c7])) ?_ ?_ ?_ ?_
 ·rw [nF] at this
  exact this
 ·intro k;simp [wJ]
 ·intro k a t _;simp [wI]
 ·intro i k hi hw
  obtain ⟨e,he⟩:∃ e,(b.getD [])[i]?=some e:=⟨_,Jz hi⟩
  have h6:=bK ho'.2.1 e (Ka he)
  have hx:=DG hr he
  have hf:=yX ho m he
  have hle:3*to.toNat+1≤20:=by omega
  have hl9:¬ (19 < 3*to.toNat):=by omega
  have hlt':(i:Int) < ((b.getD []).length:Int):=by omega
  rw [jc he]
  simp only [wJ,ae,aj,aP,aU,ah,aB,hlt',Jt,ac,Jv,bO he,eC,fL,an,ab,aC,bo hp,aH,bW,cr,ck,ed,hx,bb hf,Nat.reduceAdd,Nat.reduceLeDiff,bw,K4,Kq,eK _ hlt,dZ,aO,aQ,Jy,K8,aS,aN,List.take,cl,aL,Kk,aF,hw,b5,pR _ _ h6,Bq 24 (by decide)]
  by_cases h2:bU e.2 to=true<;>simp [h2,hl9]
 ·intro i k a t hi ha hw
  obtain ⟨e,he⟩:∃ e,(b.getD [])[i]?=some e:=⟨_,Jz hi⟩
  have h6:=bK ho'.2.1 e (Ka he)
  have hx:=DG hr he
  have hf:=yX ho m he
  have hle:3*to.toNat+1≤20:=by omega
  have hl9:¬ (19 < 3*to.toNat):=by omega
  have hlt':(i:Int) < ((b.getD []).length:Int):=by omega
  simp only [Jy] at ha
  have hfit:=tY (n:=t.length) 24 (by decide) (by omega)
  rw [jc he]
  simp only [wI,ae,aj,aP,aU,aw,ax,av,aA,ah,aB,hlt',Jt,ac,Jv,bO he,eC,fL,an,ab,aC,bo hp,aH,bW,cr,ck,ed,hx,bb hf,Nat.reduceAdd,Nat.reduceLeDiff,bw,K4,Kq,eK _ hlt,dZ,aO,aQ,Jy,K8,aS,aN,List.take,aL,Kk,aF,hw,b5,pR _ _ h6,hfit,bp]
  by_cases h2:bU e.2 to=true<;>simp [h2,hl9]
theorem s43 (n:Nat) (me h to:Int) (b:Option (List aT)) (o:Option (List aY)) (hl:(o.getD []).length≤4611686018427387904) (hb:(b.getD []).length≤4611686018427387904) :
  FN (n+6) 11 [il me,dB b,dS o,il h,il to]=rI me (b.getD []) (o.getD []) h to:=by
 rw [FS,Jf]
 have hop:F5 (RP (n+5)) (il me) (dB b) (dS o) (il h) (il to)=_:=op2 (n+1) me h b o (il to) hl hb
 unfold G11
 refine gJ hop ?_
 unfold rI
 by_cases h1:bS me (b.getD []) (o.getD []) h=true
 ·have ho:=h1
  simp only [bS,Js,Ju] at h1
  simp only [ho,Jv,ab,bH,ae,aj,aP,aU,aw,ax,av,aA,ah,br,ba,My,Mf,Jw,ac,Jq,Jx,Jv,au,an,Ay,aJ]
  by_cases h2:dR to=true
  ·by_cases h3:to=me
   ·simp [h3,jT];rfl
   ·have hh:0≤h∧h≤(((o.getD []).map rS).length:Nat):=by
     have:=h1.2.2.2.1
     simp only [eZ,Js,Ju] at this
     rw [K5]
     exact this
    have hb4:(b.getD []).length≤120:=by
     have:=h1.2.1
     simp only [cC,Js,Ju] at this
     omega
    have hsl:((o.getD []).map rS).take (o.getD []).length=(o.getD []).map rS:=Kl (by simp)
    have h96:=Ce (n+1) b hb (bK h1.2.1) ((o.getD []).take h.toNat) (by simp;omega) me (D.sl 4 ((o.getD []).map rS)) (il h) (new (b.getD [])) (cz _)
    have h43:=l43_2 (n+2) b hb4 ho h.toNat h2
    simp only [h2,h3,Jw,K1,Jq,Mv,Jx,Jv,ab,bH,ae,aj,aP,aU,Jw,Jq,Jx,Jv,aQ,K5,aS,aN,dt,hsl,b7,oy,bf,l43_1 _ _ hb (cN ho),k9,AJ _ _ _ _ hh,← Vf,mapM]
    rw [h96]
    simp only [ab,ae,aj]
    have ha:∀ (a:List Value) (b:Rr) (k:Mr→az),(RP (n+5)).asM true (.mp true a b) k=k (a,b):=fun _ _ _=>rfl
    rw [ha]
    simp only [mapM,pg] at h43
    rw [h43]
    cases ea me (b.getD []) ((o.getD []).take h.toNat) to with
    | nil=>rfl
    | cons a t =>
     simp [eD,FI]
     exact Kl (by simp)
  ·simp [h2,jT];rfl
 ·simp [h1,jT];rfl
end
end Go.VE
