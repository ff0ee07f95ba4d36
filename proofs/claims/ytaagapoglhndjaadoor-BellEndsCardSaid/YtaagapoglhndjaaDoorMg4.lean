/- Bell: Hear, by the program. -/
import Derived.Test.YtaagapoglhndjaaDoorMg3
namespace Go.VE
open Go.RowKit Go.Proofs
section
set_option maxRecDepth 100000
theorem mu {α:Type} {ok:α→Bool} {src:α→Int}:∀ {l:List α} {p:Option Int},p9 ok src p l=true→l.Pairwise fun a b=>src a < src b
 | [],_,_=>.nil
 | b::r,p,h=>by
  simp only [p9,Jn] at h
  refine .cons (fun c hc=>?_) (mu h.2.2)
  simpa [tE] using (kJ h.2.2 c hc).2
def gm (a:Int) (t:j8) (f:Fld):Fld:=if f.ask a.toNat < t.2.2 then { f with ask:=bv f.ask a.toNat t.2.2 } else f
def zU (me a:Int) (t:j8) (f:Fld):Fld:=if f.no a.toNat < t.2.1∧aK me a t.2.1=true∧f.opn=false then { gm a t f with no:=bv f.no a.toNat t.2.1,af:=bv f.af a.toNat true } else gm a t f
def Bn (me a:Int) (bs:List aJ):List j8→List Fld→List Fld×List ba
 | [],fs=>(fs,[])
 | t::r,fs=>match cM t.1 bs with
  | none=>Bn me a bs r fs
  | some j=>if cE (bs.getD j (0,0)).2 a=true then ((Bn me a bs r (fs.set j (zU me a t (fs.getD j fd0)))).1,iu me a t (fs.getD j fd0)++(Bn me a bs r (fs.set j (zU me a t (fs.getD j fd0)))).2) else Bn me a bs r fs
theorem DW {bs:List aJ} {x y:Int} {i j:Nat} (hx:cM x bs=some i) (hy:cM y bs=some j) (h:x≠y):i≠j:=by
 rintro rfl
 exact h ((ea hx).2.symm.trans (ea hy).2)
theorem tP {me a:Int} {bs:List aJ} {ss:List ba}:∀ (l:List j8) (fs:List Fld),(l.Pairwise fun a b=>a.1 < b.1)→(∀ t∈l,∀ j,cM t.1 bs=some j→fs[j]?=some (fl me bs ss j))→(Bn me a bs l fs).2=hearX me a bs ss l
 | [],_,_,_=>rfl
 | t::r,fs,hp,hf=>by
  obtain ⟨h1,h2⟩:=List.pairwise_cons.1 hp
  have h0:=hf t Mj
  have hr:=fun q (hq:q∈r)=>hf q (Ks _ hq)
  rw [Bn,hearX,List.flatMap_cons,mH]
  cases hx:cM t.1 bs with
  | none=>exact tP r fs h2 hr
  | some j =>
   have hj:=h0 j hx
   have hg:fs.getD j fd0=fl me bs ss j:=eH _ hj
   simp only
   by_cases hh:cE (bs.getD j (0,0)).2 a=true
   ·rw [K1 hh,K1 hh,hg]
    refine congrArg _ (tP r _ h2 fun q hq i hi=>?_)
    have hlt:=h1 q hq
    rw [Tk (DW hx hi (by omega))]
    exact hr q hq i hi
   ·rw [Kc hh,Kc hh]
    exact tP r fs h2 hr
theorem Bq (me a:Int) (t:j8) (f:Fld):(iu me a t f).length≤2:=by
 unfold iu
 split<;>split<;>simp
theorem lH {me P a:Int} {f:Fld} {t:j8} (hne:a≠me) (hP:cE P a=true) (hw:f.ask a.toNat < t.2.2) (fld:Int):aV me P f (3,fld,a,t.2.2)=some { f with ask:=bv f.ask a.toNat t.2.2 }:=by
 simp [aV,hne,hP]
 omega
theorem gZ {me P a:Int} {f:Fld} {x:Int} (hne:a≠me) (hP:cE P a=true) (hw:f.no a.toNat < x) (ho:f.opn=false) (fld:Int):aV me P f (1,fld,a,x)=some { f with no:=bv f.no a.toNat x,af:=bv f.af a.toNat true }:=by
 simp [aV,hne,hP,ho]
 omega
theorem mG {k fld a x:Int} (hk:k=1∨k=3) (hf:fg fld 1 99=true) (hp:gz a=true) (h1:1≤x) (h2:x≤99999):iL (k,fld,a,x)=true:=by
 simp only [iL,hf,hp,hk,Js,Ki]
 simp only [fg,Jn,Jq]
 exact ⟨h1,h2⟩
theorem Cj {fs:List Fld} {j:Nat} {f:Fld} (h:fs[j]?=some f):fs.set j f=fs:=by
 apply Mf
 intro i
 rw [List.getElem?_set]
 split
 ·subst_vars;split<;>simp_all
 ·rfl
theorem xU (a:Int) (t:j8) (f:Fld):(gm a t f).no=f.no∧(gm a t f).af=f.af∧(gm a t f).opn=f.opn:=by
 unfold gm;split<;>exact ⟨rfl,rfl,rfl⟩
theorem l27 (n:Nat) {me h a to:Int} (b:Option (List aJ)) {ss:List ba} (h1:ck me (b.getD []) ss h=true) (o:Option (List j8)) (hpl:l8 a to (o.getD [])=true) (hto:to=me) (z1 z2:D) :
  bm [wA (RP (n+5))] M0 0 [.d (il a),.d (il to),.d (dT o),.d (dT o),.d (il (o.getD []).length),.d (il 0),.m (mapM (b.getD []) (pg me (b.getD []) ss)),.r (ss.map rS),.d (il me),.d (dB b),.n ss.length,.n ss.length,.d (il h),.d z1,.d z2] =
   some (0,[.m (mapM (b.getD []) (Bn me a (b.getD []) (o.getD []) (pg me (b.getD []) ss)).1),.r ((ss++hearX me a (b.getD []) ss (o.getD [])).map rS),.d (il me),.d (dB b),.n (ss++hearX me a (b.getD []) ss (o.getD [])).length,.n (ss++hearX me a (b.getD []) ss (o.getD [])).length,.d (il h),.d z1,.d z2]):=by
 have hb4:(b.getD []).length≤4:=by
  simp only [ck,cr,Jn,Jq] at h1
  exact h1.2.1.2
 have hl:=jg h1
 have hr:=bw h1
 have h66:=eF h1
 simp only [l8,Jn,Jq,M1,M7] at hpl
 obtain ⟨hpa,-,hne,hl4,hpl⟩:=hpl
 have hne':a≠me:=hto ▸ hne
 have hlt:=gU hpa
 have hpair:=mu hpl
 have:=bA (β:=List Fld×List ba) (o.getD []) (by omega) (wA (RP (n+5))) (fun i g=>[.d (il a),.d (il to),.d (dT o),.d (dT o),.d (il (o.getD []).length),.d (il i),.m (mapM (b.getD []) g.1),.r (g.2.map rS),.d (il me),.d (dB b),.n g.2.length,.n g.2.length,.d (il h),.d z1,.d z2])
  (fun i g=>g.1.length=(b.getD []).length∧(∀ t∈(o.getD []).drop i,∀ j,cM t.1 (b.getD [])=some j→g.1[j]?=some (fl me (b.getD []) ss j))∧g.2.length≤120+2*i)
  (fun _ r g=>some (0,[.m (mapM (b.getD []) (Bn me a (b.getD []) r g.1).1),.r ((g.2++(Bn me a (b.getD []) r g.1).2).map rS),.d (il me),.d (dB b),.n (g.2++(Bn me a (b.getD []) r g.1).2).length,.n (g.2++(Bn me a (b.getD []) r g.1).2).length,.d (il h),.d z1,.d z2])) ?_ ?_ M0 (pg me (b.getD []) ss,ss) ⟨jU hr ss,fun t _ j hj=>jv h1 (ea hj).1,by omega⟩ (dM (by omega))
 ·simp only [tP (ss:=ss) (o.getD []) (pg me (b.getD []) ss) hpair (fun t _ j hj=>jv h1 (ea hj).1)] at this
  exact this
 ·intro g k _
  simp [wA,Bn]
 ·rintro i t r ⟨fs,l⟩ k hi hd hlti hw ⟨hlen,hfs,hll⟩ ih
  simp only at hlen hfs hll
  have hlt':(i:Int) < ((o.getD []).length:Int):=by omega
  have hdr:(o.getD []).drop (i+1)=r:=by
   have:=T2 hlti
   rw [hd] at this
   exact (List.cons.inj this).2.symm
  have hpr:∀ q∈r,t.1 < q.1:=by
   have hp2:=List.Pairwise.drop (i:=i) hpair
   rw [hd] at hp2
   exact (List.pairwise_cons.1 hp2).1
  have htd:=(kJ hpl t (K2 hi)).1
  simp only [mt,fg,Jn,Jq] at htd
  have hfs':∀ q∈(o.getD []).drop (i+1),∀ j,cM q.1 (b.getD [])=some j→fs[j]?=some (fl me (b.getD []) ss j):=fun q hq=>by
   rw [hdr] at hq
   exact hfs q (by rw [hd];exact Ks _ hq)
  have ih0:=ih (fs,l) ⟨hlen,hfs',by simp only;omega⟩
  simp only [bn] at ih0
  rw [Bn]
  simp only [wA,ah,aj,aF,aH,ao,aw,aq,av,ak,aU,Jr,ag,Js,aC,ae,aD,aN,cc,bV,bE,cK,bi,Jv,Kk,hlt',Hj hi,cT0,cT1,cT2,cy,l4 _ _ (show (b.getD []).length≤4611686018427387904 by omega),ee,Jq,b7,hw]
  cases hx:cM t.1 (b.getD []) with
  | none=>simpa using ih0
  | some j =>
   obtain ⟨e,he,hfld,hg,hj⟩:=fS hx
   have h6:=h66 e (K2 he)
   have hfl:=iq h1 hx
   have hrng:=hH h1 j
   have hf:=hfs t (by rw [hd];exact Mj) j hx
   have hgf:fs.getD j fd0=fl me (b.getD []) ss j:=eH _ hf
   have hfs2:∀ g:Fld,∀ q∈(o.getD []).drop (i+1),∀ j',cM q.1 (b.getD [])=some j'→(fs.set j g)[j']?=some (fl me (b.getD []) ss j'):=fun g q hq j' hj'=>by
    have hq':=hq
    rw [hdr] at hq'
    have hlt:=hpr q hq'
    rw [Tk (DW hx hj' (by omega))]
    exact hfs' q hq j' hj'
   generalize fl me (b.getD []) ss j=f at hf hrng hgf
   simp only [reduceCtorEq,Ju,lG hx,eK he,lj,vS,ah,ag,ae,aY,r8 _ _ h6,hg,hgf]
   cases hh:cE e.2 a with
   | false=>simpa using ih0
   | true =>
    have hle0:3*a.toNat≤19:=by omega
    have hle2:3*a.toNat≤17:=by omega
    have hq1:l.length≤9223372036854775806:=by omega
    have hfit:=yg (a:=l.length) (b:=1) (by omega) (by omega)
    simp only [K7,Jl,Ju,Js,pW hpa,aS hf,cN,kQ f hlt,ag,Js,Nat.reduceLeDiff,hle2]
    have hc0:=gO (n+1) b (by omega) h66 [(3,t.1,a,t.2.2)] (by simp) (l.map rS) me (il h) l.length l.length fs hlen
    refine fJ (X':=some (0,[.d (il a),.d (il to),.d (dT o),.n j,.n 0,.d (dT o),.d (il (o.getD []).length),.d (il i),.r ((l++(if f.ask a.toNat < t.2.2 then [(3,t.1,a,t.2.2)] else [])).map rS),.m (mapM (b.getD []) (fs.set j (gm a t f))),.d (il t.1),.d (il t.2.1),.d (il t.2.2),.d (il me),.d (dB b),.n (l++(if f.ask a.toNat < t.2.2 then [(3,t.1,a,t.2.2)] else [])).length,.n (l++(if f.ask a.toNat < t.2.2 then [(3,t.1,a,t.2.2)] else [])).length,.d (il h),.d z1,.d z2])) ?_ ?_
    ·by_cases w1:f.ask a.toNat < t.2.2
     ·have hp:=kG (me:=me) (bs:=b.getD []) (mG (x:=t.2.2) (.inr rfl) hfl hpa (by have:=(hrng.2 a.toNat).2;omega) (by omega)) hx hf (by rw [hg];exact lH hne' hh w1 t.1)
      rw [hp] at hc0
      simp only [Jz,Ky,rS] at hc0
      simp only [w1,Jr,Js,mapM,ci,cS,fY,mapM,aR,cT,gT,l6,aO,Jp,Jx,Jy,b6,bp,Kt,bh,aL,hc0,ah,aj,Jr,Js,ae,Jv,hfit,gm]
      simp [rS]
     ·simp only [w1,Jt,Jl,Ju,gm,Cj hf,Kh,aL]
    ·generalize hl1:l++(if f.ask a.toNat < t.2.2 then [(3,t.1,a,t.2.2)] else [])=l1
     have hll1:l1.length≤l.length+1:=by rw [←hl1];split<;>simp
     obtain ⟨g1,g2,g3⟩:=xU a t f
     have hF:iu me a t f=(if f.ask a.toNat < t.2.2 then [(3,t.1,a,t.2.2)] else [])++(if f.no a.toNat < t.2.1∧aK me a t.2.1=true∧f.opn=false then [(1,t.1,a,t.2.1)] else []):=rfl
     have hG:zU me a t f=if f.no a.toNat < t.2.1∧aK me a t.2.1=true∧f.opn=false then { gm a t f with no:=bv f.no a.toNat t.2.1,af:=bv f.af a.toNat true } else gm a t f:=rfl
     generalize gm a t f=f1 at g1 g2 g3 hG ⊢
     have hf1:=em hf f1
     have ihn:=fun hc=>ih (fs.set j f1,l1) ⟨by rw [gw];exact hlen,hfs2 f1,hc⟩
     have ih1:=ihn (by simp only;omega)
     simp only [bn] at ih1
     simp only [ah,aj,aF,aH,ao,aw,aq,av,ag,Js,ae,aY,bE,Jv,pW hpa,aS hf1,eu _ hlt,df,cN,g1,g3,hle0,Kg,Co]
     by_cases c1:f.no a.toNat < t.2.1
     ·cases c2:aK me a t.2.1 with
      | false =>
       have hn:¬ (f.no a.toNat < t.2.1∧aK me a t.2.1=true∧f.opn=false):=by simp [c2]
       rw [Kc hn] at hF hG
       rw [hF,hG,Kh,← Kb,hl1]
       simp only [c1,Jr,Js,Jl,Ju,b7,hw]
       exact ih1
      | true =>
       cases c3:f.opn with
       | true =>
        have hn:¬ (f.no a.toNat < t.2.1∧aK me a t.2.1=true∧f.opn=false):=by simp [c3]
        rw [Kc hn] at hF hG
        rw [hF,hG,Kh,← Kb,hl1]
        simp only [c1,Jr,Js,K7,Jl,Ju,b7,hw]
        exact ih1
       | false =>
        have hy:(f.no a.toNat < t.2.1∧aK me a t.2.1=true∧f.opn=false):=⟨c1,c2,c3⟩
        rw [K1 hy] at hF hG
        have hp:=kG (me:=me) (bs:=b.getD []) (mG (x:=t.2.1) (.inl rfl) hfl hpa (by have:=(hrng.2 a.toNat).1;omega) (by omega)) hx hf1 (by rw [hg];exact gZ hne' hh (by rw [g1];exact c1) (by rw [g3];exact c3) t.1)
        have hc1:=gO (n+1) b (by omega) h66 [(1,t.1,a,t.2.1)] (by simp) (l1.map rS) me (il h) l1.length l1.length (fs.set j f1) (by rw [gw];exact hlen)
        rw [hp,Te,g1,g2,← hG] at hc1
        have hq2:l1.length≤9223372036854775806:=by omega
        have hfit1:=yg (a:=l1.length) (b:=1) (by omega) (by omega)
        have ih2:=ih (fs.set j (zU me a t f),l1++[(1,t.1,a,t.2.1)]) ⟨by rw [gw];exact hlen,hfs2 _,by simp only [K0,Jx,Jy];omega⟩
        simp only [bn,M6,Jz,Ky,rS,K0,Jx,Jy,Jv,mapM] at hc1 ih2
        rw [hF,← Kb,← Kb,hl1]
        simp only [c1,Jr,Js,Mq,mapM,ci,cS,fY,mapM,aR,cT,gT,l6,aO,Jp,Jx,Jy,b6,bp,Kt,bh,hc1,ah,aj,Jr,Js,ae,Jv,hfit1,b7,hw]
        rw [ih2]
        simp [rS]
        omega
     ·have hn:¬ (f.no a.toNat < t.2.1∧aK me a t.2.1=true∧f.opn=false):=fun hh=>c1 hh.1
      rw [Kc hn] at hF hG
      rw [hF,hG,Kh,← Kb,hl1]
      simp only [c1,Jt,Jl,Ju,b7,hw]
      exact ih1
theorem s27 (n:Nat) (me h a to:Int) (b:Option (List aJ)) (o:Option (List ba)) (t:Option (List j8)) (hl:(o.getD []).length≤4611686018427387904) (hb:(b.getD []).length≤4611686018427387904) (ht:(t.getD []).length≤4611686018427387904) :
  FN (n+6) 27 [il me,dB b,dS o,il h,il a,il to,dT t]=if ck me (b.getD []) (o.getD []) h=true then (if l8 a to (t.getD [])=true∧to=me then fA me h b (o.getD []) (0,hearX me a (b.getD []) (o.getD []) (t.getD [])) else gB 93) else gB 92:=by
 rw [FS,IU]
 have hop:CU (RP (n+5)) (il me) (dB b) (dS o) (il h) (il a) (il to) (dT t)=_:=op27 (n+1) me h b o (il a) (il to) (dT t) hl hb
 unfold G27
 rw [eL27]
 refine fJ hop ?_
 have hln:∀ k:D→az,(RP (n+5)).lenD (dT t) k=k (il (t.getD []).length):=fun k=>cX _ _ _ k
 by_cases h1:ck me (b.getD []) (o.getD []) h=true
 ·by_cases h2:l8 a to (t.getD [])=true
  ·by_cases h3:to=me
   ·have h27:=l27 n b h1 t h2 h3 (il 0) (il 0)
    simp only [h1,h2,Js,bf,ah,aj,aF,aH,ao,aw,aq,av,ak,ag,Js,bP,aC,ae,s16 _ _ _ _ ht,T3,Mk,Jt,Jl,Ju,hln,br]
    simp only [h3,Mk,Jt,Jl,Ju,Kt,Js]
    rw [h3] at h27
    rw [h27]
    generalize hearX me a (b.getD []) (o.getD []) (t.getD [])=w
    have hN:((120:Int) < (((o.getD []++w).length:Nat):Int))↔120 < (o.getD []).length+w.length:=by rw [K0];omega
    have htk:((o.getD []++w).map rS).take (o.getD []++w).length=(o.getD []++w).map rS:=Kd (by rw [Jp];exact Kg _)
    simp only [ah,aj,ao,aw,aq,av,ag,Js,ae,cN,ci,hN,Jq,aO,Jp,b6,aL,be,cS,htk,fA]
    by_cases g:120 < (o.getD []).length+w.length
    ·simp [g,gB,ed]
    ·simp [g,jq]
   ·simp only [h1,h2,Js,bf,ah,aj,aF,aH,ao,aw,aq,av,ak,ag,Js,bP,aC,ae,s16 _ _ _ _ ht]
    simp [h3,gB,ed]
  ·simp only [h1,h2,Js,bf,ah,aj,aF,aH,ao,aw,aq,av,ak,ag,Js,bP,aC,ae,s16 _ _ _ _ ht]
   simp [gB,ed]
 ·simp [h1,gB,ed]
end
section
set_option maxRecDepth 100000
theorem fitB {a b c:Nat} (ha:a≤120000) (hb:b≤120000) (hc:c≤32):(a+b)*c≤140737488355328∧a+b≤9223372036854775807:=by
 have:(a+b)*c≤240000*32:=Nat.mul_le_mul (by omega) hc
 omega
theorem iC {me h:Int} {bs:List aJ} {ss:List ba} (h1:ck me bs ss h=true):bs.length≤4:=by
 simp only [ck,cr,Jn,Jq] at h1
 exact h1.2.1.2
end
section
set_option maxRecDepth 100000
end
section
set_option maxRecDepth 100000
theorem xo (me:Int) (e:aJ) (f:Fld):(ep me e f).length≤6:=by
 unfold ep
 split
 ·simp
 ·rw [Jp];exact Td _ (List.range 6)
theorem xn {me h:Int} {bs:List aJ} {ss:List ba} (h1:ck me bs ss h=true):(serveX me bs ss).length≤24:=by
 have hb4:=iC h1
 have:∀ l:List aJ,(l.flatMap fun e=>ep me e (ay me e fd0 ss).1).length≤6*l.length:=by
  intro l
  induction l with
  | nil=>simp
  | cons e r ih =>
   rw [List.flatMap_cons,K0,Jx]
   have:=xo me e (ay me e fd0 ss).1
   omega
 have:=this bs
 unfold serveX
 omega
end
section
set_option maxRecDepth 100000
section
variable {Fn:Nat→List D→az} {FnD:D→List Sh→List D→az} {m:Nat}
end
end
section
set_option maxRecDepth 100000
theorem Bp (me a:Int) (bs:List aJ) (ss:List ba) (t:j8):(mH me a bs ss t).length≤2:=by
 unfold mH
 split
 ·simp
 ·split
  ·exact Bq ..
  ·simp
theorem sm (me a:Int) (bs:List aJ) (ss:List ba):∀ l:List j8,(hearX me a bs ss l).length≤2*l.length
 | []=>by simp [hearX]
 | t::r=>by
  have h1:=Bp me a bs ss t
  have h2:=sm me a bs ss r
  unfold hearX at h2 ⊢
  rw [List.flatMap_cons,K0,Jx]
  omega
end
section
def bJ (me:Int) (f:Fld) (o:Nat):Bool:=!decide ((o:Int)=me)&&(decide (f.no o≠0)&&!aT me o f)
def bM (me:Int) (f:Fld) (o:Nat):Bool:=!decide ((o:Int)=me)&&(decide (f.no o≠0)&&aT me o f)
def de (me:Int) (f:Fld) (o:Nat):Bool:=!decide ((o:Int)=me)&&decide (f.ask o≠0)
def iN (fld:Int) (f:Fld) (o:Nat):ba:=(1,fld,(o:Int),f.no o)
def nQ (fld:Int) (f:Fld) (o:Nat):ba:=(3,fld,(o:Int),f.ask o)
def cx (me fld:Int) (f:Fld) (i:Nat):List ba:=((rg i).filter (bJ me f)).map (iN fld f)
def dK (me fld:Int) (f:Fld) (i:Nat):List ba:=((rg i).filter (bM me f)).map (iN fld f)
def ey (me fld:Int) (f:Fld) (i:Nat):List ba:=((rg i).filter (de me f)).map (nQ fld f)
def kn (me fld:Int) (f:Fld):List ba:=cx me fld f 0++((if f.wants≠0 then [(2,fld,0,f.wants)] else [])++(dK me fld f 0++(ey me fld f 0++(if f.opn=true then [(4,fld,0,1)] else []))))
def dy (me:Int) (bs:List aJ) (ss:List ba):List ba:=bs.flatMap fun e=>kn me e.1 (ay me e fd0 ss).1
theorem Hl (i:Nat):(rg i).length=6 - i:=by simp [rg]
theorem kT (i:Nat) (p:Nat→Bool) (g:Nat→ba):(((rg i).filter p).map g).length≤6:=by
 rw [Jp]
 exact T6 (Td _ _) (by rw [Hl];omega)
theorem sF (me fld:Int) (f:Fld):(kn me fld f).length≤20:=by
 have h1:=kT 0 (bJ me f) (iN fld f)
 have h2:=kT 0 (bM me f) (iN fld f)
 have h3:=kT 0 (de me f) (nQ fld f)
 have h4:(if f.wants≠0 then [(2,fld,0,f.wants)] else []:List ba).length≤1:=by split<;>simp
 have h5:(if f.opn=true then [(4,fld,0,1)] else []:List ba).length≤1:=by split<;>simp
 simp only [kn,cx,dK,ey,K0]
 omega
theorem pN {me:Int} {ss:List ba}:∀ bs:List aJ,(dy me bs ss).length≤20*bs.length
 | []=>by simp [dy]
 | e::r=>by
  have h1:=sF me e.1 (ay me e fd0 ss).1
  have h2:=pN (me:=me) (ss:=ss) r
  simp only [dy,List.flatMap_cons,K0,Jx] at h2 ⊢
  omega
theorem yf {a b c:Nat} (ha:a≤120000) (hb:b≤120000) (hc:c≤32):(a+b)*c≤140737488355328∧a+b≤9223372036854775807:=fitB ha hb hc
end
section
set_option maxRecDepth 100000
theorem qy {i:Nat} (h:i < 6) (p:Nat→Bool) (g:Nat→ba):((rg i).filter p).map g=(if p i=true then [g i] else [])++((rg (i+1)).filter p).map g:=by
 rw [oZ h,Mo]
 split<;>simp
end
section
set_option maxRecDepth 100000
def lV {α:Type}:List α→Option (List α)
 | []=>none
 | a::t=>some (a::t)
theorem dC {α:Type} (l:List α):(lV l).getD []=l:=by cases l<;>rfl
theorem uQ (n:Nat) {α:Type} (s:Nat) (f:α→List D) (l:List α):(RP n).slN s (l.map f)=dL s f (lV l):=by cases l<;>rfl
end
section
set_option maxRecDepth 100000
theorem Fb {me h:Int} {bs:List aJ} {ss:List ba} (h1:ck me bs ss h=true):∀ s∈ss,iL s=true:=(o8 (CW _ _ _ _ ▸ h1)).2.2
end
section
set_option maxRecDepth 100000
def cz (x m:Int):Int:=(x.tmod m+m).tmod m
theorem gY {x m:Int} (hm:0 < m):0≤cz x m∧cz x m < m:=by
 have h1:=Int.lt_tmod_of_pos x hm
 have h2:0≤x.tmod m+m:=by omega
 exact ⟨Int.tmod_nonneg _ h2,Int.tmod_lt_of_pos _ hm⟩
def gr (ss:List ba) (h left:Int):Nat:=(h+cz left ((ss.length:Int) - h+1)).toNat
theorem pz {ss:List ba} {h left:Int} (h0:0≤h) (h1:h≤ss.length):(h+cz left ((ss.length:Int) - h+1)=gr ss h left)∧gr ss h left≤ss.length:=by
 have:=gY (x:=left) (m:=(ss.length:Int) - h+1) (by omega)
 unfold gr
 omega
theorem o9 {me h:Int} {bs:List aJ} {ss:List ba} (h1:ck me bs ss h=true):0≤h∧h≤ss.length:=by
 simp only [ck,Jn] at h1
 have:=h1.2.2.2.1
 simpa [fg] using this
theorem sums {x m:Int} (h0:0 < m) (h1:m≤200):IntKind.i64.wrap (x.tmod m+m)=x.tmod m+m:=by
 have h2:=Int.lt_tmod_of_pos x h0
 have h3:=Int.tmod_lt_of_pos x h0
 exact fO (by omega) (by omega)
theorem AM (n:Nat) (x m:Int) (h0:0 < m) (h1:m≤200):FN (n+1) 96 [il x,il m]=some (0,[.d (il (cz x m))]):=by
 rw [FS,Iu]
 simp only [G96,lg _ _ _ _ (show m≠0 by omega),b7,sums h0 h1,aL,cz]
theorem eL49:@GO=@j9:=rfl
theorem eL51:@GN=@j9:=rfl
theorem s49 (n:Nat) (me h:Int) (b:Option (List aJ)) (o:Option (List ba)) (hl:(o.getD []).length≤4611686018427387904) (hb:(b.getD []).length≤4611686018427387904) :
  FN (n+6) 49 [il me,dB b,dS o,il h]=if ck me (b.getD []) (o.getD []) h=true then some (0,[.d (il me),.d (dB b),.d (dS (some (o.getD []))),.d (il (o.getD []).length),.d (il 0)]) else gB 92:=by
 rw [FS,IO]
 have hop:v7 (RP (n+5)) (il me) (dB b) (dS o) (il h)=_:=HL (n+1) me h b o hl hb
 unfold G49
 rw [eL49]
 refine fJ hop ?_
 by_cases h1:ck me (b.getD []) (o.getD []) h=true
 ·have ht:((o.getD []).map rS).take (o.getD []).length=(o.getD []).map rS:=Kd (by simp)
  simp only [h1,Js,bf,ah,aj,ao,aw,aq,av,ak,bP,T3,Mk,Jt,ag,Jl,Ju,aO,Jp,b6,be,ht,cS,ci,aL]
  rfl
 ·simp [h1,gB,ed]
theorem s51 (n:Nat) (me h left:Int) (b:Option (List aJ)) (o:Option (List ba)) (hl:(o.getD []).length≤4611686018427387904) (hb:(b.getD []).length≤4611686018427387904) :
  FN (n+6) 51 [il me,dB b,dS o,il h,il left]=if ck me (b.getD []) (o.getD []) h=true then some (0,[.d (il me),.d (dB b),.d (dS (some ((o.getD []).take (gr (o.getD []) h left)))),.d (il h),.d (il 0)]) else gB 92:=by
 rw [FS,IN]
 have hop:F9 (RP (n+5)) (il me) (dB b) (dS o) (il h) (il left)=_:=op2 (n+1) me h b o (il left) hl hb
 unfold G51
 rw [eL51]
 refine fJ hop ?_
 by_cases h1:ck me (b.getD []) (o.getD []) h=true
 ·have hl4:=jg h1
  have hh:=o9 h1
  obtain ⟨t1,t2⟩:=pz (left:=left) hh.1 hh.2
  have hm:((o.getD []).length:Int) - h+1≠0:=by omega
  have w1:IntKind.i64.wrap (((o.getD []).length:Int) - h)=((o.getD []).length:Int) - h:=fO (by omega) (by omega)
  have w2:IntKind.i64.wrap (((o.getD []).length:Int) - h+1)=((o.getD []).length:Int) - h+1:=fO (by omega) (by omega)
  have w3:=sums (x:=left) (m:=((o.getD []).length:Int) - h+1) (by omega) (by omega)
  have w4:IntKind.i64.wrap (h+(left.tmod (((o.getD []).length:Int) - h+1)+(((o.getD []).length:Int) - h+1)).tmod (((o.getD []).length:Int) - h+1))=gr (o.getD []) h left:=by
   have:h+(left.tmod (((o.getD []).length:Int) - h+1)+(((o.getD []).length:Int) - h+1)).tmod (((o.getD []).length:Int) - h+1)=gr (o.getD []) h left:=t1
   rw [this];exact fO (by omega) (by omega)
  have hcut:∀ (k:Nat→Nat→az) (e:az),(RP (n+5)).cut none (some (il (gr (o.getD []) h left))) (o.getD []).length k e=k 0 (gr (o.getD []) h left):=fun k e=>by
   show (if (0:Int)≤0∧(0:Int)≤(gr (o.getD []) h left:Int)∧(gr (o.getD []) h left:Int)≤((o.getD []).length:Nat) then (if (0:Int)=0∨(0:Int) < (gr (o.getD []) h left:Int) then k (0:Int).toNat ((gr (o.getD []) h left:Int) - 0).toNat else e) else none)=_
   rw [K1 (by omega),K1 (by omega)]
   simp
  simp only [h1,Js,bf,ah,aj,ao,aw,aq,av,ak,bP,T3,Mk,Jt,ag,Jl,Ju,ci,uP,w1,b7,w2,lg _ _ _ _ hm,w3,w4,aO,Jp,b6,hcut,be,← V4,cS,aL]
  rfl
 ·simp [h1,gB,ed]
end
section
set_option maxRecDepth 100000
theorem l53_1 (n:Nat) {e:aJ} (me:Int) {bs:List aJ} {fs:List Fld} {j:Nat} {f:Fld} (hx:cM e.1 bs=some j) (hf:fs[j]?=some f) (h6:lw e.2) (hno:∀ o:Nat,f.no o≠0→e.2.toNat.testBit o=true) (R:Rr) (m1 m2 m3 n1 n2:Nat) (c1 c2 cB ch z1 z2:D) (out:List ba) (hl:out.length≤100) :
  bm [wu (RP (n+3)) (rB e)] M0 0 [.d (il e.1),.d (il e.2),.d (il 0),.n out.length,.n m1,.n m2,.d c1,.d c2,.m (mapM bs fs),.r R,.r (out.map rS),.n m3,.d (il me),.d cB,.n n1,.n n2,.d ch,.d z1,.d z2]=some (0,[.n (out++cx me e.1 f 0).length,.n m1,.n m2,.d c1,.d c2,.m (mapM bs fs),.r R,.r ((out++cx me e.1 f 0).map rS),.n m3,.d (il me),.d cB,.n n1,.n n2,.d ch,.d z1,.d z2]):=by
 have:=dm (β:=List ba) 6 (by omega) (wu (RP (n+3)) (rB e)) (fun i g=>[.d (il e.1),.d (il e.2),.d (il i),.n g.length,.n m1,.n m2,.d c1,.d c2,.m (mapM bs fs),.r R,.r (g.map rS),.n m3,.d (il me),.d cB,.n n1,.n n2,.d ch,.d z1,.d z2]) (fun i g=>g.length≤100+i)
  (fun i g=>some (0,[.n (g++cx me e.1 f i).length,.n m1,.n m2,.d c1,.d c2,.m (mapM bs fs),.r R,.r ((g++cx me e.1 f i).map rS),.n m3,.d (il me),.d cB,.n n1,.n n2,.d ch,.d z1,.d z2])) ?_ ?_ out hl
 ·exact this
 ·intro g k _
  simp [wu,rg,cx]
 ·rintro i g k hi hg hw ih
  have hle3:3*i≤17:=by omega
  have hle4:3*i≤19:=by omega
  have hlt:(i:Int) < 6:=by omega
  have hd:cx me e.1 f i=(if bJ me f i=true then [iN e.1 f i] else [])++cx me e.1 f (i+1):=qy hi _ _
  have one:∀ (c:Bool) (x:ba),(if c=true then [x] else []).length≤1:=fun c x=>by cases c<;>simp
  have ih0:=ih (g++(if bJ me f i=true then [iN e.1 f i] else [])) (by
   have o1:=one (bJ me f i) (iN e.1 f i)
   simp only [K0]
   omega)
  have hfit:=yf (a:=g.length) (b:=1) (c:=32) (by omega) (by omega) (by omega)
  have hcl:aT me (i:Int) f=(aK me i (f.no i)&&(fe f.wants&&f.af i)):=by simp only [aT,K4]
  rw [hd,← Kb,← ih0]
  simp only [wu,bJ,iN,hcl,ah,aj,aF,aH,ao,aw,aq,av,ak,aZ,aU,Jr,ag,Js,bP,aC,ae,aD,kB hi,aN,cc,bV,bE,cK,bi,Jv,Kk,aS hf,eu f hi,yb f hi,cF,hlt,r8 _ _ h6,cq hi,Co,hx,hle3,hle4,Nat.reduceAdd,Nat.reduceLeDiff,lg _ _ _ _ (show (2:Int)≠0 by decide),bo,aR,aO,Jx,Jy,Jp,K0,b6,be,List.take,bp,hfit,Kt,b7,hw,bn,bh,aL,T3,lj]
  by_cases h1:(i:Int)=me
  ·simp [h1]
  ·by_cases h2:e.2.toNat.testBit i=true
   ·by_cases h3:f.no i=0
    ·simp [h1,h2,h3]
    ·rcases Mv (aK me (i:Int) (f.no i)) with h4 | h4
     ·by_cases h5:f.wants.tmod 2=1
      ·rcases Mv (f.af i) with h7 | h7<;>simp only [h1,h2,h3,h4,h5,h7,ah,aj,aF,aH,ao,aw,aq,av,Jr,Jt,ag,Js,ae,gS,Ku]<;>simp [rS,fe,h5]
      ·simp only [h1,h2,h3,h4,h5,ah,aj,aF,aH,ao,aw,aq,av,Jr,Jt,ag,Js,Ju,Jl,ae,gS,Ku]
       simp [rS,fe,h5]
     ·simp only [h1,h2,h3,h4,ah,aj,aF,aH,ao,aw,aq,av,Jr,Jt,ag,Js,Ju,Jl,ae,gS,Ku]
      simp [rS]
   ·have h3:f.no i=0:=by
     by_cases h:f.no i=0
     ·exact h
     ·exact absurd (hno i h) h2
    simp [h1,h2,h3]
theorem GA (n:Nat) {e:aJ} (me:Int) {bs:List aJ} {fs:List Fld} {j:Nat} {f:Fld} (hx:cM e.1 bs=some j) (hf:fs[j]?=some f) (h6:lw e.2) (hno:∀ o:Nat,f.no o≠0→e.2.toNat.testBit o=true) (R:Rr) (y:List Yr) (hy:(RP (n+3)).ld y 8=il e.1) (m1 m2 m3 n1 n2:Nat) (c1 c2 cB ch z1 z2:D) (out:List ba) (hl:out.length≤100) :
  bm [wt (RP (n+3)) y] M0 0 [.d (il e.1),.d (il e.2),.d (il 0),.n out.length,.r R,.r (out.map rS),.m (mapM bs fs),.n m1,.n m2,.d c1,.d c2,.n m3,.d (il me),.d cB,.n n1,.n n2,.d ch,.d z1,.d z2]=some (0,[.n (out++dK me e.1 f 0).length,.r R,.r ((out++dK me e.1 f 0).map rS),.m (mapM bs fs),.n m1,.n m2,.d c1,.d c2,.n m3,.d (il me),.d cB,.n n1,.n n2,.d ch,.d z1,.d z2]):=by
 have:=dm (β:=List ba) 6 (by omega) (wt (RP (n+3)) y) (fun i g=>[.d (il e.1),.d (il e.2),.d (il i),.n g.length,.r R,.r (g.map rS),.m (mapM bs fs),.n m1,.n m2,.d c1,.d c2,.n m3,.d (il me),.d cB,.n n1,.n n2,.d ch,.d z1,.d z2]) (fun i g=>g.length≤100+i)
  (fun i g=>some (0,[.n (g++dK me e.1 f i).length,.r R,.r ((g++dK me e.1 f i).map rS),.m (mapM bs fs),.n m1,.n m2,.d c1,.d c2,.n m3,.d (il me),.d cB,.n n1,.n n2,.d ch,.d z1,.d z2])) ?_ ?_ out hl
 ·exact this
 ·intro g k _
  simp [wt,rg,dK]
 ·rintro i g k hi hg hw ih
  have hle3:3*i≤17:=by omega
  have hle4:3*i≤19:=by omega
  have hlt:(i:Int) < 6:=by omega
  have hd:dK me e.1 f i=(if bM me f i=true then [iN e.1 f i] else [])++dK me e.1 f (i+1):=qy hi _ _
  have one:∀ (c:Bool) (x:ba),(if c=true then [x] else []).length≤1:=fun c x=>by cases c<;>simp
  have ih0:=ih (g++(if bM me f i=true then [iN e.1 f i] else [])) (by
   have o1:=one (bM me f i) (iN e.1 f i)
   simp only [K0]
   omega)
  have hfit:=yf (a:=g.length) (b:=1) (c:=32) (by omega) (by omega) (by omega)
  have hcl:aT me (i:Int) f=(aK me i (f.no i)&&(fe f.wants&&f.af i)):=by simp only [aT,K4]
  rw [hd,← Kb,← ih0]
  simp only [wt,bM,iN,hcl,hy,ah,aj,aF,aH,ao,aw,aq,av,ak,aZ,aU,Jr,ag,Js,bP,aC,ae,aD,kB hi,aN,cc,bV,bE,cK,bi,Jv,Kk,aS hf,eu f hi,yb f hi,cF,hlt,r8 _ _ h6,cq hi,Co,hx,hle3,hle4,Nat.reduceAdd,Nat.reduceLeDiff,lg _ _ _ _ (show (2:Int)≠0 by decide),bo,aR,aO,Jx,Jy,Jp,K0,b6,be,List.take,bp,hfit,Kt,b7,hw,bn,bh,aL,T3]
  by_cases h1:(i:Int)=me
  ·simp [h1]
  ·by_cases h2:e.2.toNat.testBit i=true
   ·by_cases h3:f.no i=0
    ·simp [h1,h2,h3]
    ·rcases Mv (aK me (i:Int) (f.no i)) with h4 | h4
     ·by_cases h5:f.wants.tmod 2=1
      ·rcases Mv (f.af i) with h7 | h7<;>simp only [h1,h2,h3,h4,h5,h7,ah,aj,aF,aH,ao,aw,aq,av,Jr,Jt,ag,Js,ae,gS,Ku]<;>simp [rS,fe,h5]
      ·simp only [h1,h2,h3,h4,h5,ah,aj,aF,aH,ao,aw,aq,av,Jr,Jt,ag,Js,Ju,Jl,ae,gS,Ku]
       simp [fe,h5]
     ·simp only [h1,h2,h3,h4,ah,aj,aF,aH,ao,aw,aq,av,Jr,Jt,ag,Js,Ju,Jl,ae,gS,Ku]
      simp []
   ·have h3:f.no i=0:=by
     by_cases h:f.no i=0
     ·exact h
     ·exact absurd (hno i h) h2
    simp [h1,h2,h3]
theorem Gz (n:Nat) {e:aJ} (me:Int) {bs:List aJ} {fs:List Fld} {j:Nat} {f:Fld} (_:cM e.1 bs=some j) (hf:fs[j]?=some f) (h6:lw e.2) (hask:∀ o:Nat,f.ask o≠0→e.2.toNat.testBit o=true) (R:Rr) (n1 n2:Nat) (c1 c2 cB ch z1 _:D) (out:List ba) (hl:out.length≤100) :
  bm [wq (RP (n+3))] M0 0 [.d (il e.1),.d (il e.2),.d (il 0),.n out.length,.d c1,.d c2,.d (il me),.d cB,.n n1,.n n2,.d ch,.d (il e.1),.d z1,.n j,.n 0,.m (mapM bs fs),.r (out.map rS),.r R]=some (0,[.n (out++ey me e.1 f 0).length,.d c1,.d c2,.d (il me),.d cB,.n n1,.n n2,.d ch,.d (il e.1),.d z1,.n j,.n 0,.m (mapM bs fs),.r ((out++ey me e.1 f 0).map rS),.r R]):=by
 have:=dm (β:=List ba) 6 (by omega) (wq (RP (n+3))) (fun i g=>[.d (il e.1),.d (il e.2),.d (il i),.n g.length,.d c1,.d c2,.d (il me),.d cB,.n n1,.n n2,.d ch,.d (il e.1),.d z1,.n j,.n 0,.m (mapM bs fs),.r (g.map rS),.r R]) (fun i g=>g.length≤100+i)
  (fun i g=>some (0,[.n (g++ey me e.1 f i).length,.d c1,.d c2,.d (il me),.d cB,.n n1,.n n2,.d ch,.d (il e.1),.d z1,.n j,.n 0,.m (mapM bs fs),.r ((g++ey me e.1 f i).map rS),.r R])) ?_ ?_ out hl
 ·exact this
 ·intro g k _
  simp [wq,rg,ey]
 ·rintro i g k hi hg hw ih
  have hle3:3*i≤17:=by omega
  have hle4:3*i≤19:=by omega
  have hlt:(i:Int) < 6:=by omega
  have hd:ey me e.1 f i=(if de me f i=true then [nQ e.1 f i] else [])++ey me e.1 f (i+1):=qy hi _ _
  have one:∀ (c:Bool) (x:ba),(if c=true then [x] else []).length≤1:=fun c x=>by cases c<;>simp
  have ih0:=ih (g++(if de me f i=true then [nQ e.1 f i] else [])) (by
   have o1:=one (de me f i) (nQ e.1 f i)
   simp only [K0]
   omega)
  have hfit:=yf (a:=g.length) (b:=1) (c:=32) (by omega) (by omega) (by omega)
  have hcl:aT me (i:Int) f=(aK me i (f.no i)&&(fe f.wants&&f.af i)):=by simp only [aT,K4]
  rw [hd,← Kb,← ih0]
  simp only [wq,de,nQ,ah,aj,aF,aH,ao,aw,aq,av,ak,aU,Jr,ag,Js,bP,aC,ae,aD,kB hi,aN,cc,bV,bE,bi,Jv,Kk,aS hf,kQ f hi,hlt,r8 _ _ h6,cq hi,hle3,Nat.reduceLeDiff,aR,aO,Jx,Jy,Jp,K0,b6,be,List.take,bp,hfit,Kt,b7,hw,bn,bh,aL,T3]
  by_cases h1:(i:Int)=me
  ·simp [h1]
  ·by_cases h2:e.2.toNat.testBit i=true
   ·by_cases h3:f.ask i=0
    ·simp [h1,h2,h3]
    ·simp only [h1,h2,h3,Jr,Jt,Js,Ku]
     simp [rS]
   ·have h3:f.ask i=0:=by
     by_cases h:f.ask i=0
     ·exact h
     ·exact absurd (hask i h) h2
    simp [h1,h2,h3]
end
section
set_option maxRecDepth 100000
theorem Dv {me P:Int} {f g:Fld} {s:ba} (h:aV me P f s=some g) (hf:∀ o:Nat,f.no o≠0→P.toNat.testBit o=true):∀ o:Nat,g.no o≠0→P.toNat.testBit o=true:=by
 unfold aV at h
 repeat' split at h
 all_goals first
  | (cases h;done)
  | (simp only [Jm] at h;subst h;exact hf)
  | skip
 ·rename_i hc
  simp only [Jm] at h
  subst h
  intro o ho
  simp only [bv] at ho
  by_cases he:o=s.2.2.1.toNat
  ·have hp:cE P s.2.2.1=true:=by
    cases hh:cE P s.2.2.1 with
    | true=>rfl
    | false=>simp [hh] at hc
   have:=bT.1 (gc hp)
   rw [he,← cq (P:=P) (gU (gc hp)),Int.toNat_of_nonneg this.1]
   exact hp
  ·rw [Kc (fun h=>he h.symm)] at ho
   exact hf o ho
theorem mK (me:Int) (b:aJ):∀ (ss:List ba) (f:Fld),(∀ o:Nat,f.no o≠0→b.2.toNat.testBit o=true)→∀ o:Nat,(ay me b f ss).1.no o≠0→b.2.toNat.testBit o=true
 | [],_,hf=>hf
 | s::r,f,hf=>by
  unfold ay
  split
  ·cases hs:aV me b.2 f s with
   | none=>exact hf
   | some g=>exact mK me b r g (Dv hs hf)
  ·exact mK me b r f hf
theorem l53_5 (n:Nat) {me h:Int} (b:Option (List aJ)) {ss:List ba} (h1:ck me (b.getD []) ss h=true) (R:Rr) (n1 n2:Nat) (ch z1 z2:D) :
  bm [wp (RP (n+3))] M0 0 [.d (dB b),.d (il (b.getD []).length),.d (il 0),.m (mapM (b.getD []) (pg me (b.getD []) ss)),.r R,.r [],.n 0,.d (il me),.d (dB b),.n n1,.n n2,.d ch,.d z1,.d z2] =
   some (0,[.m (mapM (b.getD []) (pg me (b.getD []) ss)),.r R,.r ((dy me (b.getD []) ss).map rS),.n (dy me (b.getD []) ss).length,.d (il me),.d (dB b),.n n1,.n n2,.d ch,.d z1,.d z2]):=by
 have hb4:=iC h1
 have hr:=bw h1
 have h66:=eF h1
 have:=bA (β:=List ba) (b.getD []) (by omega) (wp (RP (n+3))) (fun i g=>[.d (dB b),.d (il (b.getD []).length),.d (il i),.m (mapM (b.getD []) (pg me (b.getD []) ss)),.r R,.r (g.map rS),.n g.length,.d (il me),.d (dB b),.n n1,.n n2,.d ch,.d z1,.d z2])
  (fun i g=>g.length≤20*i)
  (fun i r g=>some (0,[.m (mapM (b.getD []) (pg me (b.getD []) ss)),.r R,.r ((g++dy me r ss).map rS),.n (g++dy me r ss).length,.d (il me),.d (dB b),.n n1,.n n2,.d ch,.d z1,.d z2])) ?_ ?_ M0 [] (by simp) (dM (by omega))
 ·simpa using this
 ·intro g k _
  simp [wp,dy]
 ·intro i e r g k hi hd hlt hw hg ih
  have hlt':(i:Int) < ((b.getD []).length:Int):=by omega
  have h6:=h66 e (K2 hi)
  have hx:=Ao hr hi
  have hff:fl me (b.getD []) ss i=(ay me e fd0 ss).1:=by
   simp only [fl]
   rw [eH _ hi]
  have hf:(pg me (b.getD []) ss)[i]?=some (ay me e fd0 ss).1:=by rw [jv h1 hlt,hff]
  have hno:=mK me e ss fd0 (by simp [fd0])
  have hask:=kS me e ss fd0 (by simp [fd0])
  have hal:=sF me e.1 (ay me e fd0 ss).1
  have ih0:=ih (g++kn me e.1 (ay me e fd0 ss).1) (by rw [K0];omega)
  simp only [dy,List.flatMap_cons] at ih0 ⊢
  rw [←Kb,← ih0]
  unfold kn
  generalize (ay me e fd0 ss).1=f at hf hno hask
  have a1:=kT 0 (bJ me f) (iN e.1 f)
  have a2:=kT 0 (bM me f) (iN e.1 f)
  have a3:=kT 0 (de me f) (nQ e.1 f)
  change (cx me e.1 f 0).length≤6 at a1
  change (dK me e.1 f 0).length≤6 at a2
  change (ey me e.1 f 0).length≤6 at a3
  have Fy:=yf (a:=(g++cx me e.1 f 0).length) (b:=1) (c:=32) (by rw [K0];omega) (by omega) (by omega)
  simp only [wp,ah,aj,aF,aH,ao,aw,aq,av,aU,hlt',Jr,ag,Js,eK hi,lj,vS,cK,hx,br,ak,aD]
  rw [l53_1 n me hx hf h6 hno R i 0 g.length n1 n2 (il e.1) (il e.2) (dB b) ch z1 z2 g (by omega)]
  simp only [ae,ah,aj,aF,aH,ao,aw,aq,av,bE,aS hf,aN,bV,Jv,Nat.reduceAdd,Nat.reduceLeDiff,Js,bi,cF,bP,ag]
  by_cases h0:f.wants=0
  ·simp only [h0,T3,Mk,Jt,Jl,Ju,aL,ae,ah,aj,aF,aH,ao,aw,aq,av,Ke]
   rw [GA n me hx hf h6 hno R _ rfl i 0 _ n1 n2 (il e.1) (il e.2) (dB b) ch z1 z2 (g++cx me e.1 f 0) (by simp only [K0];omega)]
   simp only [ae,ah,aj,aF,aH,ao,aw,aq,av]
   rw [Gz n me hx hf h6 hask R n1 n2 z1 z2 (dB b) ch (il e.2) (il e.2) ((g++cx me e.1 f 0)++dK me e.1 f 0) (by simp only [K0];omega)]
   have g4l:(((g++cx me e.1 f 0)++dK me e.1 f 0)++ey me e.1 f 0).length≤1000:=by simp only [K0];omega
   generalize hg4:(((g++cx me e.1 f 0)++dK me e.1 f 0)++ey me e.1 f 0)=G at g4l
   have fit2:=yf (a:=G.length) (b:=1) (c:=32) (by omega) (by omega) (by omega)
   have hN:G.length≤9223372036854775806:=by omega
   rcases Mv f.opn with ho | ho
   all_goals
    simp only [ho,Jl,Ju,ae,ah,aj,aF,aH,ao,aw,aq,av,bE,aS hf,Jv,Nat.reduceAdd,Nat.reduceLeDiff,Js,df,ag,b7,hw,aR,aO,Jx,Jy,Jp,b6,be,List.take,bp,fit2.1,hN,Kt,bh,bn]
    subst hg4
    simp [rS,T8,Nat.add_comm,Nat.add_left_comm]
  ·simp only [h0,T3,Ku,Jr,Js,aR,aO,Jx,Jy,Jp,b6,Jv,be,List.take,bp,Fy,Kt,bh,aL,ae,ah,aj,aF,aH,ao,aw,aq,av]
   have hap:(g++cx me e.1 f 0).map rS++[[il 2,il e.1,il 0,il f.wants]]=(g++cx me e.1 f 0++[((2,e.1,0,f.wants):ba)]).map rS:=by simp [rS]
   have hln:(g++cx me e.1 f 0).length+1=(g++cx me e.1 f 0++[((2,e.1,0,f.wants):ba)]).length:=by simp [T8]
   rw [hap,hln]
   rw [GA n me hx hf h6 hno R _ rfl i 0 _ n1 n2 (il e.1) (il e.2) (dB b) ch z1 z2 (g++cx me e.1 f 0++[(2,e.1,0,f.wants)]) (by simp only [K0,Jx,Jy];omega)]
   simp only [ae,ah,aj,aF,aH,ao,aw,aq,av]
   rw [Gz n me hx hf h6 hask R n1 n2 z1 z2 (dB b) ch (il e.2) (il e.2) ((g++cx me e.1 f 0++[(2,e.1,0,f.wants)])++dK me e.1 f 0) (by simp only [K0,Jx,Jy];omega)]
   have g4l:(((g++cx me e.1 f 0++[(2,e.1,0,f.wants)])++dK me e.1 f 0)++ey me e.1 f 0).length≤1000:=by simp only [K0,Jx,Jy];omega
   generalize hg4:(((g++cx me e.1 f 0++[(2,e.1,0,f.wants)])++dK me e.1 f 0)++ey me e.1 f 0)=G at g4l
   have fit2:=yf (a:=G.length) (b:=1) (c:=32) (by omega) (by omega) (by omega)
   have hN:G.length≤9223372036854775806:=by omega
   rcases Mv f.opn with ho | ho
   all_goals
    simp only [ho,Jl,Ju,ae,ah,aj,aF,aH,ao,aw,aq,av,bE,aS hf,Jv,Nat.reduceAdd,Nat.reduceLeDiff,Js,df,ag,b7,hw,Jp,fit2.1,hN,Kt,bn]
    subst hg4
    simp [rS,T8,Nat.add_comm,Nat.add_left_comm]
theorem eL53:@GM=@j9:=rfl
theorem s53 (n:Nat) (me h:Int) (b:Option (List aJ)) (o:Option (List ba)) (hl:(o.getD []).length≤4611686018427387904) (hb:(b.getD []).length≤4611686018427387904) :
  FN (n+6) 53 [il me,dB b,dS o,il h]=if ck me (b.getD []) (o.getD []) h=true then some (0,[.d (il me),.d (dB b),.d (dS (lV (dy me (b.getD []) (o.getD [])))),.d (il (dy me (b.getD []) (o.getD [])).length),.d (il 0)]) else gB 92:=by
 rw [FS,IM]
 have hop:v7 (RP (n+5)) (il me) (dB b) (dS o) (il h)=_:=HL (n+1) me h b o hl hb
 unfold G53
 rw [eL53]
 refine fJ hop ?_
 by_cases h1:ck me (b.getD []) (o.getD []) h=true
 ·simp only [h1,Js,bf,ah,aj,aF,aH,ao,aw,aq,av,ak,bP,T3,Mk,Jt,ag,Jl,Ju,cX,br,aR,aD]
  rw [l53_5 (n+2) b h1]
  simp only [ae,ah,aj,ao,aw,aq,av,aO,Jp,b6,Js,uQ,ci,aL]
 ·simp [h1,gB,ed]
end
end Go.VE
