/- Bell: what is served, GH and written anew is valid. -/
import Derived.Test.YtaagapoglhndjaaGreatDoorMg6
import Derived.Test.YtaagapoglhndjaaGreatDoorMg3
namespace Go.VE
open Go.RowKit Go.Proofs
section
theorem tL {P:Int} {o:Nat} (ho:o < 6) (h:P.toNat.testBit o=true):bU P (o:Int)=true:=by rw [bM ho];exact h
theorem vj {me o x:Int} (h:aK me o x=true):aK me o (x+1)=false:=by
 unfold aK at h ⊢
 by_cases h1:me < o<;>by_cases h2:x % 2=0
 ·have:¬ (x+1) % 2=0:=by omega
  simp [h1,this]
 ·simp [h1,h2] at h
 ·simp [h1,h2] at h
 ·have:(x+1) % 2=0:=by omega
  simp [h1,this]
theorem pM {me:Int} {e:aT} {f:Fld}:∀ (l:List Nat) (g:Fld),l.Nodup→(∀ o∈l,o < 6∧kc me e.2 f o=true∧g.no o=f.no o)→g.opn=false→(aI me e g (l.map fun (o:Nat)=>(1,e.1,(o:Int),f.no o+1))).2=true
 | [],_,_,_,_=>rfl
 | o::r,g,hn,hg,ho=>by
  simp only [Ml] at hn
  obtain ⟨h6,hgv,hno⟩:=hg o (by simp)
  simp only [kc,Js,Md,Mk] at hgv
  have hP:bU e.2 (o:Int)=true:=tL h6 hgv.2.1
  rw [K0,bR (g:={ g with no:=cd g.no o (f.no o+1),af:=cd g.af o true }) rfl]
  ·refine pM r _ hn.2 (fun q hq=>?_) ho
   obtain ⟨q1,q2,q3⟩:=hg q (by simp [hq])
   refine ⟨q1,q2,?_⟩
   simp only [cd]
   rw [Kg (fun h:o=q=>hn.1 (by rw [h];exact hq)),q3]
  ·simp [bi,hgv.1,hP,ho,hno]
   omega
theorem lK {me:Int} {e:aT} {f:Fld}:∀ s∈eX me e f,s.2.1=e.1∧s.1=1∧∃ o:Nat,o < 6∧kc me e.2 f o=true∧s=(1,e.1,(o:Int),f.no o+1):=by
 intro s hs
 unfold eX at hs
 split at hs
 ·cases hs
 ·obtain ⟨o,ho,rfl⟩:=M5.1 hs
  obtain ⟨h1,h2⟩:=M7.1 ho
  exact ⟨rfl,rfl,o,Ts.1 h1,h2,rfl⟩
theorem xq {me h:Int} {bs:List aT} {ss:List aY} (h1:bS me bs ss h=true) {e:aT} (he:e∈bs):nG (rf me e ss):=by
 obtain ⟨j,hj,rfl⟩:=List.mem_iff_getElem.1 he
 have:=mc h1 j
 rw [vy,gU _ (Jz hj)] at this
 exact this
theorem nJ {me h:Int} {bs:List aT} {ss:List aY} (h1:bS me bs ss h=true) {e:aT} (he:e∈bs):eZ e.1 1 99=true∧∃ j,dg e.1 bs=some j∧bs.getD j (0,0)=e:=by
 obtain ⟨j,hj,rfl⟩:=List.mem_iff_getElem.1 he
 have hx:=u6 (cN h1) hj
 exact ⟨lb h1 hx,j,hx,gU _ (Jz hj)⟩
theorem yN {bs:List aT} (h:lA bs):bs.Pairwise fun a b=>a.1≠b.1:=List.Pairwise.imp (fun h=>by omega) h
theorem C9 {me h:Int} {bs:List aT} {ss:List aY} (h1:bS me bs ss h=true) (hl:ss.length+(gB me bs ss).length≤120):bS me bs (ss++gB me bs ss) h=true∧∀ s∈gB me bs ss,s.1=1→aK me s.2.2.1 s.2.2.2=false:=by
 have hr:=cN h1
 refine ⟨tw h1 (fun s hs=>?_) (fun e he=>?_) hl,fun s hs _=>?_⟩
 ·obtain ⟨e,he,hs⟩:=List.mem_flatMap.1 hs
  obtain ⟨a1,_,o,a3,a4,rfl⟩:=lK s hs
  obtain ⟨b1,j,b2,_⟩:=nJ h1 he
  exact pd (Bj a3 a4 (xq h1 he) b1) b2
 ·unfold gB
  rw [gu (key:=fun e:aT=>e.1) (fun x s hs=>(lK s hs).1) (yN hr) he rfl]
  show (aI me e (rf me e ss) (eX me e (rf me e ss))).2=true
  unfold eX
  split
  ·rfl
  ·rename_i ho
   refine pM _ _ (List.nodup_range.filter _) (fun o ho=>?_) (by simpa using ho)
   obtain ⟨b1,b2⟩:=M7.1 ho
   exact ⟨Ts.1 b1,b2,rfl⟩
 ·obtain ⟨e,he,hs⟩:=List.mem_flatMap.1 hs
  obtain ⟨_,_,o,a3,a4,rfl⟩:=lK s hs
  simp only [kc,Js] at a4
  exact vj a4.2.2.2.1
theorem jl {me a:Int} {bs:List aT} {ss:List aY} {t:ge}:∀ s∈da me a bs ss t,s.2.1=t.1∧∃ j,dg t.1 bs=some j∧bU (bs.getD j (0,0)).2 a=true∧s∈gq me a t (fl me bs ss j):=by
 intro s hs
 unfold da at hs
 split at hs
 ·cases hs
 ·rename_i j hx
  split at hs
  ·rename_i hh
   refine ⟨?_,j,hx,hh,hs⟩
   unfold gq at hs
   rcases Kp.1 hs with hs | hs
   ·split at hs
    ·simp only [M2] at hs;rw [hs]
    ·cases hs
   ·split at hs
    ·simp only [M2] at hs;rw [hs]
    ·cases hs
  ·cases hs
theorem zF {me h a to:Int} {bs:List aT} {ss:List aY} {l:List ge} (h1:bS me bs ss h=true) (h2:gm a to l=true) (hto:to=me) (hl:ss.length+(bu me a bs ss l).length≤120) :
  bS me bs (ss++bu me a bs ss l) h=true∧∀ s∈bu me a bs ss l,s.1=1→∃ t∈l,s=(1,t.1,a,t.2.1):=by
 have hr:=cN h1
 have h2':=h2
 simp only [gm,Js,Ju,Md,Mk] at h2'
 obtain ⟨pa,pt,hne,h4,hL⟩:=h2'
 have hne':a≠me:=by rw [←hto];exact hne
 have hpw:=mK hL
 have hokt:∀ t∈l,jQ t=true:=by
  have:∀ {l:List ge} {p:Option Int},le jQ (·.1) p l=true→∀ t∈l,jQ t=true:=by
   intro l
   induction l with
   | nil=>intro p _ t ht;cases ht
   | cons x r ih =>
    intro p hp t ht
    simp only [le,Js] at hp
    rcases Ki.1 ht with rfl | ht
    ·exact hp.1
    ·exact ih hp.2.2 t ht
  exact this hL
 refine ⟨tw h1 (fun s hs=>?_) (fun e he=>?_) hl,fun s hs h1s=>?_⟩
 ·obtain ⟨t,ht,hs⟩:=List.mem_flatMap.1 hs
  obtain ⟨a1,j,hx,hh,hs⟩:=jl s hs
  have hfl:=lb h1 hx
  have hrng:=mc h1 j
  have ok:=hokt t ht
  simp only [jQ,eZ,Js,Ju] at ok
  refine pd ?_ (by rw [a1];exact hx)
  unfold gq at hs
  rcases Kp.1 hs with hs | hs
  ·split at hs
   ·rename_i hw
    simp only [M2] at hs;subst hs
    exact mV (.inr rfl) hfl pa (by have:=(hrng.2 a.toNat).2;omega) (by omega)
   ·cases hs
  ·split at hs
   ·rename_i hw
    simp only [M2] at hs;subst hs
    exact mV (.inl rfl) hfl pa (by have:=(hrng.2 a.toNat).1;have:=hw.1;omega) (by omega)
   ·cases hs
 ·unfold bu
  by_cases hex:∃ t∈l,t.1=e.1
  ·obtain ⟨t,ht,hte⟩:=hex
   rw [gu (key:=fun t:ge=>t.1) (fun x s hs=>(jl s hs).1) (List.Pairwise.imp (fun h=>by omega) hpw) ht hte]
   obtain ⟨_,j,hx,hj⟩:=nJ h1 he
   unfold da
   rw [hte,hx]
   simp only
   split
   ·rename_i hh
    rw [hj] at hh
    have hf:fl me bs ss j=rf me e ss:=by rw [vy,hj]
    rw [hf]
    generalize rf me e ss=f
    unfold gq
    split
    ·rename_i hw
     rw [List.singleton_append,bR hte (lZ hne' hh hw t.1)]
     split
     ·rename_i hc
      rw [bR hte (io hne' hh (by exact hc.1) (by exact hc.2.2) t.1)]
      rfl
     ·rfl
    ·rw [K7]
     split
     ·rename_i hc
      rw [bR hte (io hne' hh hc.1 hc.2.2 t.1)]
      rfl
     ·rfl
   ·rfl
  ·rw [qA (key:=fun t:ge=>t.1) (fun x s hs=>(jl s hs).1) (fun t ht h=>hex ⟨t,ht,h⟩)]
 ·obtain ⟨t,ht,hs⟩:=List.mem_flatMap.1 hs
  obtain ⟨a1,j,hx,hh,hs⟩:=jl s hs
  refine ⟨t,ht,?_⟩
  unfold gq at hs
  rcases Kp.1 hs with hs | hs
  ·split at hs
   ·simp only [M2] at hs;subst hs;simp at h1s
   ·cases hs
  ·split at hs
   ·simp only [M2] at hs;exact hs
   ·cases hs
end
section
theorem mw {me:Int} {e:aT} {f:Fld}:∀ (l:List Nat) (g:Fld),l.Nodup→(∀ o∈l,o < 6∧bU e.2 (o:Int)=true∧(o:Int)≠me∧g.no o < f.no o)→g.opn=false →
  aI me e g (l.map (fI e.1 f))=({ g with no:=fun o=>if o∈l then f.no o else g.no o,af:=fun o=>if o∈l then true else g.af o },true)
 | [],g,_,_,_=>by simp [aI]
 | o::r,g,hn,hg,ho=>by
  simp only [Ml] at hn
  obtain ⟨h6,hP,hme,hp⟩:=hg o (by simp)
  have hst:bi me e.2 g (fI e.1 f o)=some { g with no:=cd g.no o (f.no o),af:=cd g.af o true }:=by
   have:¬ f.no o≤g.no o:=by omega
   simp [bi,fI,hme,hP,ho,this]
  rw [K0,bR rfl hst,mw r { g with no:=cd g.no o (f.no o),af:=cd g.af o true } hn.2 (fun q hq=>?_) ho]
  ·refine Prod.ext ?_ rfl
   simp only [Fld.mk.injEq,Vi]
   constructor
   ·funext q
    by_cases hq:q=o
    ·subst hq;simp [cd,hn.1]
    ·have:¬ o=q:=fun h=>hq h.symm
     simp [cd,hq,this]
   ·funext q
    by_cases hq:q=o
    ·subst hq;simp [cd,hn.1]
    ·have:¬ o=q:=fun h=>hq h.symm
     simp [cd,hq,this]
  ·obtain ⟨q1,q2,q3,q5⟩:=hg q (by simp [hq])
   refine ⟨q1,q2,q3,?_⟩
   simp only [cd]
   rw [Kg (fun h:o=q=>hn.1 (by rw [h];exact hq))]
   exact q5
theorem vY {me:Int} {e:aT} {f:Fld}:∀ (l:List Nat) (g:Fld),l.Nodup→(∀ o∈l,o < 6∧bU e.2 (o:Int)=true∧(o:Int)≠me∧0 < f.ask o∧g.ask o=0) →
  aI me e g (l.map (kn e.1 f))=({ g with ask:=fun o=>if o∈l then f.ask o else g.ask o },true)
 | [],g,_,_=>by simp [aI]
 | o::r,g,hn,hg=>by
  simp only [Ml] at hn
  obtain ⟨h6,hP,hme,hp,hz⟩:=hg o (by simp)
  have hst:bi me e.2 g (kn e.1 f o)=some { g with ask:=cd g.ask o (f.ask o) }:=by
   simp [bi,kn,hme,hP,hz]
   omega
  rw [K0,bR rfl hst,vY r { g with ask:=cd g.ask o (f.ask o) } hn.2 (fun q hq=>?_)]
  ·refine Prod.ext ?_ rfl
   simp only [Fld.mk.injEq,Tp,Vi]
   funext q
   by_cases hq:q=o
   ·subst hq;simp [cd,hn.1]
   ·have:¬ o=q:=fun h=>hq h.symm
    simp [cd,hq,this]
  ·obtain ⟨q1,q2,q3,q4,q5⟩:=hg q (by simp [hq])
   refine ⟨q1,q2,q3,q4,?_⟩
   simp only [cd]
   rw [Kg (fun h:o=q=>hn.1 (by rw [h];exact hq)),q5]
theorem Dm {me P:Int} {f g:Fld} {s:aY} (h:bi me P f s=some g) (hf:∀ o:Nat,(f.no o≠0∨f.ask o≠0)→(o:Int)≠me):∀ o:Nat,(g.no o≠0∨g.ask o≠0)→(o:Int)≠me:=by
 unfold bi at h
 repeat' split at h
 all_goals first
  | (cases h;done)
  | (simp only [Jr] at h;subst h;exact hf)
  | skip
 ·rename_i hc
  simp only [Jr] at h
  subst h
  intro o ho
  simp only [Mg,Ju,not_or,Md] at hc
  have:=bn.1 (fD (by simpa using hc.1.1.2))
  simp only [cd] at ho
  by_cases he:s.2.2.1.toNat=o
  ·have:=hc.1.1.1;omega
  ·rw [Kg he] at ho;exact hf o ho
 ·rename_i hc
  simp only [Jr] at h
  subst h
  intro o ho
  simp only [Mg,Ju,not_or,Md] at hc
  have:=bn.1 (fD (by simpa using hc.1.2))
  simp only [cd] at ho
  by_cases he:s.2.2.1.toNat=o
  ·have:=hc.1.1;omega
  ·rw [Kg he] at ho;exact hf o ho
theorem mY {me:Int} {e:aT}:∀ {l:List aY} {f:Fld},(∀ o:Nat,(f.no o≠0∨f.ask o≠0)→(o:Int)≠me)→∀ o:Nat,((aI me e f l).1.no o≠0∨(aI me e f l).1.ask o≠0)→(o:Int)≠me
 | [],_,hf=>hf
 | s::r,f,hf=>by
  rw [aI]
  split
  ·cases hs:bi me e.2 f s with
   | none=>exact hf
   | some g=>exact mY (Dm hs hf)
  ·exact mY hf
structure FldOK (me:Int) (e:aT) (f:Fld):Prop where
 rng:nG f
 no:∀ o:Nat,f.no o≠0→o < 6∧bU e.2 (o:Int)=true∧(o:Int)≠me
 ask:∀ o:Nat,f.ask o≠0→o < 6∧bU e.2 (o:Int)=true∧(o:Int)≠me
 all:f.opn=true→dC me e.2 f=[]
theorem bit6 {P:Int} (h:j7 P) {o:Nat} (hb:P.toNat.testBit o=true):o < 6:=by
 rcases Nat.lt_or_ge o 6 with h6 | h6
 ·exact h6
 ·have h1:=Nat.ge_two_pow_of_testBit hb
  have h2:2 ^ 6≤2 ^ o:=Nat.pow_le_pow_right (by omega) h6
  unfold j7 at h
  omega
theorem Cj {me h:Int} {bs:List aT} {ss:List aY} (h1:bS me bs ss h=true) {e:aT} (he:e∈bs):FldOK me e (rf me e ss) where
 rng:=xq h1 he
 no:=fun o ho=>by
  have hb:=mX me e ss fd0 (by simp [fd0]) o ho
  have h6:=bit6 (fW h1 e he) hb
  exact ⟨h6,tL h6 hb,mY (by simp [fd0]) o (.inl ho)⟩
 ask:=fun o ho=>by
  have hb:=jv me e ss fd0 (by simp [fd0]) o ho
  have h6:=bit6 (fW h1 e he) hb
  exact ⟨h6,tL h6 hb,mY (by simp [fd0]) o (.inr ho)⟩
 all:=nT (by simp [fd0])
def renF (me:Int) (f:Fld):Fld:={ f with af:=fun o=>decide (o∈(rg 0).filter (bG me f))||(decide (f.wants=0)&&decide (o∈(rg 0).filter (bB me f))) }
theorem nK {o:Nat}:o∈rg 0↔o < 6:=by simp [rg,List.mem_range']
theorem BF {me:Int} {e:aT} {f:Fld} (hf:FldOK me e f):aI me e fd0 (iC me e.1 f)=(renF me f,true):=by
 have hn:(rg 0).Nodup:=List.nodup_range' ..
 have hd:∀ o∈(rg 0).filter (bB me f),o < 6∧bU e.2 (o:Int)=true∧(o:Int)≠me∧fd0.no o < f.no o:=fun o ho=>by
  obtain ⟨_,h2⟩:=M7.1 ho
  simp only [bB,Js,Ju] at h2
  obtain ⟨a,b,c⟩:=hf.no o h2.2.1
  have:=(hf.rng.2 o).1
  exact ⟨a,b,c,by show (0:Int) < _;omega⟩
 have hc:∀ o∈(rg 0).filter (bG me f),o < 6∧bU e.2 (o:Int)=true∧(o:Int)≠me∧0 < f.no o∧o∉(rg 0).filter (bB me f):=fun o ho=>by
  obtain ⟨_,h2⟩:=M7.1 ho
  simp only [bG,Js,Ju] at h2
  obtain ⟨a,b,c⟩:=hf.no o h2.2.1
  have:=(hf.rng.2 o).1
  refine ⟨a,b,c,by omega,fun hm=>?_⟩
  have:=(M7.1 hm).2
  simp only [bB,Js,h2.2.2] at this
  simp at this
 have ha:∀ o∈(rg 0).filter (cu me f),o < 6∧bU e.2 (o:Int)=true∧(o:Int)≠me∧0 < f.ask o:=fun o ho=>by
  obtain ⟨_,h2⟩:=M7.1 ho
  simp only [cu,Js,Ju] at h2
  obtain ⟨a,b,c⟩:=hf.ask o h2.2
  have:=(hf.rng.2 o).2
  exact ⟨a,b,c,by omega⟩
 have hcov:∀ o:Nat,f.no o≠0→o∈(rg 0).filter (bB me f)∨o∈(rg 0).filter (bG me f):=fun o ho=>by
  obtain ⟨a,_,c⟩:=hf.no o ho
  simp only [M7,nK,a,bB,bG,c,ho,My,Kw,Jt,Jw,M6,Kf,Tp]
  cases cq me o f<;>simp
 have haov:∀ o:Nat,f.ask o≠0→o∈(rg 0).filter (cu me f):=fun o ho=>by
  obtain ⟨a,_,c⟩:=hf.ask o ho
  simp [nK,a,cu,c,ho]
 unfold iC bN cp cG
 rw [cW (by rw [mw _ _ (hn.filter _) hd rfl])]
 rw [mw _ _ (hn.filter _) hd rfl]
 have hw0:=hf.rng.1
 have wr:∀ g:Fld,g.wants=0→aI me e g (if f.wants≠0 then [(2,e.1,0,f.wants)] else [])=((if f.wants≠0 then { g with wants:=f.wants,af:=fun _=>false } else g),true):=fun g hg=>by
  by_cases h0:f.wants=0
  ·simp [h0,aI]
  ·rw [K9 h0,K9 h0,bR (g:={ g with wants:=f.wants,af:=fun _=>false }) rfl]
   ·rfl
   ·simp [bi,hg]
    omega
 rw [cW (by rw [wr _ rfl]),wr _ rfl]
 generalize hg1:(if f.wants≠0 then ({ ({ fd0 with no:=fun o=>if o∈(rg 0).filter (bB me f) then f.no o else fd0.no o,af:=fun o=>if o∈(rg 0).filter (bB me f) then true else fd0.af o }:Fld) with wants:=f.wants,af:=fun _=>false }:Fld) else { fd0 with no:=fun o=>if o∈(rg 0).filter (bB me f) then f.no o else fd0.no o,af:=fun o=>if o∈(rg 0).filter (bB me f) then true else fd0.af o })=g1
 have g1n:∀ o,g1.no o=if o∈(rg 0).filter (bB me f) then f.no o else 0:=fun o=>by rw [←hg1];split<;>rfl
 have g1a:∀ o,g1.ask o=0:=fun o=>by rw [←hg1];split<;>rfl
 have g1o:g1.opn=false:=by rw [←hg1];split<;>rfl
 have g1w:g1.wants=f.wants:=by
  rw [←hg1]
  split
  ·rfl
  ·rename_i h;simpa [fd0] using (by simpa using h:f.wants=0).symm
 have g1f:∀ o,g1.af o=(decide (f.wants=0)&&decide (o∈(rg 0).filter (bB me f))):=fun o=>by
  rw [←hg1]
  by_cases h0:f.wants=0
  ·by_cases hm:o∈(rg 0).filter (bB me f)<;>simp [h0,hm,fd0]<;>simpa using hm
  ·simp [h0]
 have hcr:=mw (me:=me) (e:=e) (f:=f) _ g1 (hn.filter (bG me f)) (fun o ho=>by
  obtain ⟨a,b,c,d,e'⟩:=hc o ho
  exact ⟨a,b,c,by rw [g1n,Kg e'];exact d⟩) g1o
 rw [cW (by rw [hcr]),hcr]
 have har:=vY (me:=me) (e:=e) (f:=f) _ { g1 with no:=fun o=>if o∈(rg 0).filter (bG me f) then f.no o else g1.no o,af:=fun o=>if o∈(rg 0).filter (bG me f) then true else g1.af o } (hn.filter (cu me f)) (fun o ho=>by
  obtain ⟨a,b,c,d⟩:=ha o ho
  exact ⟨a,b,c,d,g1a o⟩)
 rw [cW (by rw [har]),har]
 have eno:(fun o=>if o∈(rg 0).filter (bG me f) then f.no o else g1.no o)=f.no:=by
  funext o
  rw [g1n]
  by_cases h1:o∈(rg 0).filter (bG me f)
  ·rw [K9 h1]
  ·rw [Kg h1]
   by_cases h2:o∈(rg 0).filter (bB me f)
   ·rw [K9 h2]
   ·rw [Kg h2]
    by_cases h0:f.no o=0
    ·exact h0.symm
    ·rcases hcov o h0 with h | h
     ·exact absurd h h2
     ·exact absurd h h1
 have eas:(fun o=>if o∈(rg 0).filter (cu me f) then f.ask o else g1.ask o)=f.ask:=by
  funext o
  rw [g1a]
  by_cases h1:o∈(rg 0).filter (cu me f)
  ·rw [K9 h1]
  ·rw [Kg h1]
   by_cases h0:f.ask o=0
   ·exact h0.symm
   ·exact absurd (haov o h0) h1
 have eaf:(fun o=>if o∈(rg 0).filter (bG me f) then true else g1.af o)=(renF me f).af:=by
  funext o
  rw [g1f]
  by_cases h1:o∈(rg 0).filter (bG me f)
  ·simp only [K9 h1,renF,Vh h1,Bool.true_or]
  ·simp only [Kg h1,renF,decide_eq_false h1,Bool.false_or]
 simp only [eno,eas,eaf,g1w,g1o]
 by_cases ho:f.opn=true
 ·rw [K9 ho,bR (g:=renF me f) rfl]
  ·rfl
  ·have hm:=hf.all ho
   have e2:∀ af:Nat→Bool,dC me e.2 ⟨f.no,af,f.ask,f.wants,false⟩=[]:=fun _=>hm
   simp [bi,e2,renF,ho]
 ·rw [Kg ho]
  have ho':f.opn=false:=by simpa using ho
  simp [aI,renF,ho']
end
section
theorem o7 {me fld:Int} {f:Fld} {s:aY} (h:s∈iC me fld f):(∃ o,(bB me f o=true∨bG me f o=true)∧o < 6∧s=fI fld f o)∨(f.wants≠0∧s=(2,fld,0,f.wants))∨(∃ o,cu me f o=true∧o < 6∧s=kn fld f o)∨(s=(4,fld,0,1)):=by
 unfold iC bN cp cG at h
 simp only [Kp] at h
 rcases h with h | h | h | h | h
 ·obtain ⟨o,ho,rfl⟩:=M5.1 h
  obtain ⟨h1,h2⟩:=M7.1 ho
  exact .inl ⟨o,.inl h2,nK.1 h1,rfl⟩
 ·split at h
  ·rename_i hw
   simp only [M2] at h
   exact .inr (.inl ⟨hw,h⟩)
  ·cases h
 ·obtain ⟨o,ho,rfl⟩:=M5.1 h
  obtain ⟨h1,h2⟩:=M7.1 ho
  exact .inl ⟨o,.inr h2,nK.1 h1,rfl⟩
 ·obtain ⟨o,ho,rfl⟩:=M5.1 h
  obtain ⟨h1,h2⟩:=M7.1 ho
  exact .inr (.inr (.inl ⟨o,h2,nK.1 h1,rfl⟩))
 ·split at h
  ·simp only [M2] at h
   exact .inr (.inr (.inr h))
  ·cases h
theorem sG {me fld:Int} {f:Fld} {s:aY} (h:s∈iC me fld f):s.2.1=fld:=by
 rcases o7 h with ⟨o,_,_,rfl⟩ | ⟨_,rfl⟩ | ⟨o,_,_,rfl⟩ | rfl<;>rfl
theorem DM {me:Int} {e:aT} {f:Fld} (hf:FldOK me e f) (hfl:eZ e.1 1 99=true) {s:aY} (h:s∈iC me e.1 f):gQ s=true:=by
 have hw:=hf.rng.1
 have hp:∀ o:Nat,o < 6→dR (o:Int)=true:=fun o ho=>bn.2 (by omega)
 rcases o7 h with ⟨o,ho,h6,rfl⟩ | ⟨h0,rfl⟩ | ⟨o,ho,h6,rfl⟩ | rfl
 ·have hn:f.no o≠0:=by
   rcases ho with ho | ho
   ·simp only [bB,Js,Ju] at ho;exact ho.2.1
   ·simp only [bG,Js,Ju] at ho;exact ho.2.1
  have:=(hf.rng.2 o).1
  simp only [fI,gQ,hfl,hp o h6,Kf,true_or,Jv]
  simp [eZ]
  omega
 ·simp only [gQ,hfl,Kf]
  simp [eZ]
  omega
 ·have hn:f.ask o≠0:=by simp only [cu,Js,Ju] at ho;exact ho.2
  have:=(hf.rng.2 o).2
  simp only [kn,gQ,hfl,hp o h6,Kf,or_true,Jv]
  simp [eZ]
  omega
 ·simp only [gQ,hfl,Kf]
  simp [eZ]
theorem mD {me h:Int} {bs:List aT} {ss:List aY} (h1:bS me bs ss h=true) {e:aT} (he:e∈bs):aI me e fd0 (dU me bs ss)=(renF me (rf me e ss),true):=by
 unfold dU
 rw [gu (key:=fun e:aT=>e.1) (fun x s hs=>sG hs) (yN (cN h1)) he rfl]
 exact BF (Cj h1 he)
theorem Cn {me h:Int} {bs:List aT} {ss:List aY} (h1:bS me bs ss h=true):bS me bs (dU me bs ss) (dU me bs ss).length=true:=by
 obtain ⟨a1,a2,_,_,_,_⟩:=eU.1 h1
 have h4:=cU h1
 have hl:=uC (me:=me) (ss:=ss) bs
 refine eU.2 ⟨a1,a2,by omega,⟨by omega,by omega⟩,fun s hs=>?_,fun e he=>?_⟩
 ·obtain ⟨e,he,hs⟩:=List.mem_flatMap.1 hs
  obtain ⟨b1,j,b2,_⟩:=nJ h1 he
  exact pd (DM (Cj h1 he) b1 hs) (by rw [sG hs];exact b2)
 ·unfold rk
  rw [mD h1 he]
theorem EQ {me h:Int} {bs:List aT} {ss:List aY} (_:bS me bs ss h=true) {s:aY} (hs:s∈dU me bs ss) (h1s:s.1=1):s∈ss:=by
 obtain ⟨e,he,hs⟩:=List.mem_flatMap.1 hs
 rcases o7 hs with ⟨o,ho,_,rfl⟩ | ⟨_,rfl⟩ | ⟨o,_,_,rfl⟩ | rfl
 ·have hn:(aI me e fd0 ss).1.no o≠0:=by
   rcases ho with ho | ho
   ·simp only [bB,Js,Ju] at ho;exact ho.2.1
   ·simp only [bG,Js,Ju] at ho;exact ho.2.1
  exact i6 (f:=fd0) (by simpa [fd0] using hn)
 ·simp at h1s
 ·simp [kn] at h1s
 ·simp at h1s
theorem sT {me h:Int} {bs:List aT} {ss:List aY} (h1:bS me bs ss h=true) {n:Nat} (h2:h≤n):bS me bs (ss.take n) h=true:=by
 obtain ⟨a1,a2,a3,a4,a5,a6⟩:=eU.1 h1
 refine eU.2 ⟨a1,a2,by rw [M4];omega,⟨a4.1,by rw [M4];omega⟩,fun s hs=>a5 s (Mo hs),fun e he=>?_⟩
 have:=a6 e he
 unfold rk at this ⊢
 rw [←Mt n ss] at this
 exact ju this
theorem Ad {me h:Int} {bs:List aT} {ss:List aY} (h1:bS me bs ss h=true):bS me bs ss ss.length=true:=by
 obtain ⟨a1,a2,a3,a4,a5,a6⟩:=eU.1 h1
 exact eU.2 ⟨a1,a2,a3,⟨by omega,by omega⟩,a5,a6⟩
theorem jJ {me h:Int} {bs:List aT} {ss:List aY} (h1:bS me bs ss h=true) {e:aT} (he:e∈bs) (n o:Nat):(rf me e (ss.take n)).no o≤(rf me e ss).no o:=by
 have h6:=(eU.1 h1).2.2.2.2.2 e he
 unfold rk at h6
 have h7:=h6
 rw [←Mt n ss] at h7
 have h8:=cW (l2:=ss.drop n) (ju h7)
 rw [Mt] at h8
 unfold rf
 rw [h8]
 exact jr o
end
section
set_option maxRecDepth 100000
abbrev W4:=Int×Option (List aT)×Option (List aY)×Int
def C6 (w:W4):Prop:=(w.2.1.getD []).length≤4611686018427387904∧(w.2.2.1.getD []).length≤4611686018427387904
section
variable {Fn:Nat→List D→az} {FnD:D→List Sh→List D→az} {m:Nat}
end
end
section
abbrev P3:=Int×Int×Option (List ge)
def bk (k:Nat):List aT:=([(3,63),(5,7),(8,42),(9,12)]:List aT).filter fun b=>b.2.toNat.testBit k
def bF (w:W4):List aY:=w.2.2.1.getD []
def bnd (w:W4):List aY:=(bF w).take w.2.2.2.toNat
structure GoodW (ws:List W4) (ps:List P3):Prop where
 len:ws.length=6
 wat:∀ (k:Nat) w,ws[k]?=some w→w.1=(k:Int)∧w.2.1.getD []=bk k∧bS k (bk k) (bF w) w.2.2.2=true
 tal:∀ (k:Nat) w (a:Nat) v,ws[k]?=some w→ws[a]?=some v→∀ s∈bF w,s.1=1→s.2.2.1=(a:Int)→aK k a s.2.2.2=true→∀ e∈bk a,e.1=s.2.1→s.2.2.2≤(rf a e (bnd v)).no k
 pl:∀ p∈ps,gm p.1 p.2.1 (p.2.2.getD [])=true∧∀ t∈p.2.2.getD [],∀ (a b:Nat) v,p.1=(a:Int)→p.2.1=(b:Int)→ws[a]?=some v→∀ e∈bk a,e.1=t.1→t.2.1≤(rf a e (bnd v)).no b
theorem po {α:Type} {l:List α} {i j:Nat} {x y:α} (h:(l.set i x)[j]?=some y):(j=i∧y=x∧i < l.length)∨(j≠i∧l[j]?=some y):=by
 rw [List.getElem?_set] at h
 split at h
 ·rename_i e
  split at h
  ·rename_i hl
   cases h
   exact .inl ⟨e.symm,rfl,hl⟩
  ·cases h
 ·rename_i e
  exact .inr ⟨fun h=>e h.symm,h⟩
theorem GoodW.chg {ws:List W4} {ps:List P3} (hG:GoodW ws ps) {k:Nat} {w w':W4} (hw:ws[k]?=some w) (h1:w'.1=(k:Int)) (h2:w'.2.1.getD []=bk k) (h3:bS k (bk k) (bF w') w'.2.2.2=true)
  (hup:∀ e∈bk k,∀ o,(rf k e (bnd w)).no o≤(rf k e (bnd w')).no o)
  (hs:∀ s∈bF w',s.1=1→aK k s.2.2.1 s.2.2.2=true→s∈bF w∨∀ (a:Nat) v,ws[a]?=some v→s.2.2.1=(a:Int)→∀ e∈bk a,e.1=s.2.1→s.2.2.2≤(rf a e (bnd v)).no k):GoodW (ws.set k w') ps:=by
 have old:∀ {a:Nat} {v':W4},(ws.set k w')[a]?=some v'→∃ v,ws[a]?=some v∧∀ e∈bk a,∀ o,(rf a e (bnd v)).no o≤(rf a e (bnd v')).no o:=fun {a v'} h=>by
  rcases po h with ⟨rfl,rfl,_⟩ | ⟨_,h⟩
  ·exact ⟨w,hw,hup⟩
  ·exact ⟨v',h,fun e _ o=>Mu _⟩
 refine ⟨by rw [List.length_set];exact hG.len,fun j v hj=>?_,fun j x a v' hj ha s hsm h1s hsa hwi e he hes=>?_,fun p hp=>⟨(hG.pl p hp).1,fun t ht a b v' ha hb hv e he het=>?_⟩⟩
 ·rcases po hj with ⟨rfl,rfl,_⟩ | ⟨_,h⟩
  ·exact ⟨h1,h2,h3⟩
  ·exact hG.wat j v h
 ·obtain ⟨v,hv,hle⟩:=old ha
  refine Int.le_trans ?_ (hle e he j)
  rcases po hj with ⟨rfl,rfl,_⟩ | ⟨_,h⟩
  ·rcases hs s hsm h1s (by rw [hsa];exact hwi) with h | h
   ·exact hG.tal j w a v hw hv s h h1s hsa hwi e he hes
   ·exact h a v hv hsa e he hes
  ·exact hG.tal j x a v h hv s hsm h1s hsa hwi e he hes
 ·obtain ⟨v,hv',hle⟩:=old hv
  exact Int.le_trans ((hG.pl p hp).2 t ht a b v ha hb hv' e he het) (hle e he b)
theorem GoodW.add {ws:List W4} {ps:List P3} (hG:GoodW ws ps) {p:P3} (h1:gm p.1 p.2.1 (p.2.2.getD [])=true) (h2:∀ t∈p.2.2.getD [],∀ (a b:Nat) v,p.1=(a:Int)→p.2.1=(b:Int)→ws[a]?=some v→∀ e∈bk a,e.1=t.1→t.2.1≤(rf a e (bnd v)).no b):GoodW ws (ps++[p]):=by
 refine ⟨hG.len,hG.wat,hG.tal,fun q hq=>?_⟩
 rcases Kp.1 hq with hq | hq
 ·exact hG.pl q hq
 ·simp only [M2] at hq
  subst hq
  exact ⟨h1,h2⟩
theorem GoodW.one {ws:List W4} {ps:List P3} (hG:GoodW ws ps) {a b:Nat} (hab:a≠b) {v w:W4} (hv:ws[a]?=some v) (hw:ws[b]?=some w) {e e':aT} (he:e∈bk a) (he':e'∈bk b) (hee:e.1=e'.1)
  (h1:aK a b ((rf a e (bF v)).no b)=true) (h2:aK b a ((rf b e' (bF w)).no a)=true):False:=by
 obtain ⟨_,_,ov⟩:=hG.wat a v hv
 obtain ⟨_,_,ow⟩:=hG.wat b w hw
 have hx:(rf a e (bF v)).no b≤(rf b e' (bF w)).no a:=by
  by_cases h0:(rf a e (bF v)).no b=0
  ·rw [h0]
   exact jr (f:=fd0) a
  ·have hm:=i6 (me:=a) (e:=e) (l:=bF v) (f:=fd0) (o:=b) (by simpa [fd0,rf] using h0)
   exact Int.le_trans (hG.tal a v b w hv hw _ hm rfl rfl h1 e' he' hee.symm) (jJ ow he' _ a)
 have hy:(rf b e' (bF w)).no a≤(rf a e (bF v)).no b:=by
  by_cases h0:(rf b e' (bF w)).no a=0
  ·rw [h0]
   exact jr (f:=fd0) b
  ·have hm:=i6 (me:=b) (e:=e') (l:=bF w) (f:=fd0) (o:=a) (by simpa [fd0,rf] using h0)
   exact Int.le_trans (hG.tal b w a v hw hv _ hm rfl rfl h2 e he hee) (jJ ov he _ b)
 have hxy:(rf a e (bF v)).no b=(rf b e' (bF w)).no a:=by omega
 rw [hxy] at h1
 generalize (rf b e' (bF w)).no a=x at h1 h2
 unfold aK at h1 h2
 by_cases hx:x % 2=0
 ·simp only [hx,Jt,beq_true,Ju] at h1 h2
  omega
 ·simp only [hx,Jw,beq_false,Md,Mk] at h1 h2
  omega
theorem Io {k j:Nat} {e e':aT} (he:e∈bk k) (he':e'∈bk j) (h:e.1=e'.1):e=e'∧e.2.toNat.testBit k=true∧e.2.toNat.testBit j=true:=by
 unfold bk at he he'
 obtain ⟨h1,h2⟩:=M7.1 he
 obtain ⟨h3,h4⟩:=M7.1 he'
 have:e=e':=by
  simp only [Ki,Me,Tn] at h1 h3
  rcases h1 with rfl | rfl | rfl | rfl<;>rcases h3 with rfl | rfl | rfl | rfl<;>first | rfl | (simp at h)
 subst this
 exact ⟨rfl,h2,h4⟩
end
section
section
variable {ws:List W4} {ps:List P3} (hG:GoodW ws ps) {k:Nat} {w:W4} (hw:ws[k]?=some w)
include hG hw
theorem DJ {L:List aY} {b:Option (List aT)} (hb:b.getD []=bk k) (h1:bS k (bk k) (bF w++L) w.2.2.2=true) (hs:∀ s∈L,s.1=1→aK k s.2.2.1 s.2.2.2=true→∀ (a:Nat) v,ws[a]?=some v→s.2.2.1=(a:Int)→∀ e∈bk a,e.1=s.2.1→s.2.2.2≤(rf a e (bnd v)).no k):GoodW (ws.set k (w.1,b,some (bF w++L),w.2.2.2)) ps:=by
 obtain ⟨a1,a2,a3⟩:=hG.wat k w hw
 have hh:=qg a3
 refine hG.chg hw a1 hb h1 (fun e _ o=>?_) fun s hm h1s hwi=>?_
 ·have:bnd (w.1,b,some (bF w++L),w.2.2.2)=bnd w:=by
   show ((bF w++L).take w.2.2.2.toNat)=(bF w).take w.2.2.2.toNat
   rw [Tl (by omega)]
  rw [this]
  exact Mu _
 ·rcases Kp.1 (show s∈bF w++L from hm) with hm | hm
  ·exact .inl hm
  ·exact .inr (hs s hm h1s hwi)
theorem E8:bS w.1 (w.2.1.getD []) (bF w) w.2.2.2=true:=by
 obtain ⟨a1,a2,a3⟩:=hG.wat k w hw
 rw [a1,a2];exact a3
end
end
section
set_option maxRecDepth 100000
def rP (p:P3):List D:=[il p.1,il p.2.1,dT p.2.2]
abbrev dP (o:Option (List P3)):D:=dL 3 rP o
abbrev allB:List aT:=[(3,63),(5,7),(8,42),(9,12)]
theorem l99 (n:Nat) {k:Nat} (hk:k < 6):bh [sK (RP (n+3))] M0 0 [.d (il k),.n 4,.n 4,.n 0,.d (il 0),.r [],.r (allB.map rB)]=some (0,[.n (bk k).length,.r ((bk k).map rB)]):=by
 have:=aZ (β:=List aT) allB (by simp) (sK (RP (n+3))) (fun i g=>[.d (il k),.n 4,.n 4,.n g.length,.d (il i),.r (g.map rB),.r (allB.map rB)]) (fun i g=>g.length≤i)
  (fun i r g=>some (0,[.n (g++r.filter fun b=>b.2.toNat.testBit k).length,.r ((g++r.filter fun b=>b.2.toNat.testBit k).map rB)])) ?_ ?_ M0 [] (by simp) (cc (by simp))
 ·simpa [bk] using this
 ·intro g j _
  simp [sK]
 ·intro i e r g j hi hd hlt hw hg ih
  have hlt4:i < 4:=hlt
  have hlt':(i:Int) < ((4:Nat):Int):=by omega
  have h6:j7 e.2:=by
   have:=Ka hi
   simp only [Ki,Me,Tn] at this
   rcases this with rfl | rfl | rfl | rfl<;>(unfold j7;omega)
  have hrow:(allB.map rB)[i]?=some (rB e):=by rw [Kn,hi];rfl
  have h71:=fun x=>jE n x h6 (k:Int)
  have hfit:=jz (a:=g.length) (b:=1) (c:=16) (by omega) (by omega) (by omega)
  have hl4:(allB.map rB).length=4:=rfl
  have hc:(rB e).length=2:=rfl
  generalize hA:allB.map rB=A at hrow hl4
  rw [V0]
  cases hb:e.2.toNat.testBit k with
  | false =>
   have ih0:=ih g (by omega)
   simp only [b5,hA] at ih0
   simp only [sK,ae,aj,aw,ax,av,aA,dj,aB,hlt',Jt,ac,Jv,aQ,hl4,aS,dk,Int.natCast_nonneg,Tp,Km,kC,hrow,hc,eC,fL,an,h71,ab,bM hk,hb,Jq,Jx,aF,ah,hw]
   exact ih0
  | true =>
   have ih0:=ih (g++[e]) (by simp;omega)
   simp only [b5,hA] at ih0
   rw [K9 rfl,show g++e::r.filter (fun b=>b.2.toNat.testBit k)=(g++[e])++r.filter (fun b=>b.2.toNat.testBit k) by simp,← ih0]
   simp only [sK,ae,aj,aw,ax,av,aA,dj,aB,hlt',Jt,ac,Jv,aQ,hl4,aS,dk,Int.natCast_nonneg,Km,kC,hrow,hc,eC,fL,an,h71,ab,bM hk,hb,aO,aC,Jy,K8,K5,Kc,K4,aN,List.take,aH,aL,hfit,Kk,bp,aF,ah,hw,Mm,K0,Kb]
   rfl
theorem s99 (n:Nat) {k:Nat} (hk:k < 6):FN (n+4) 70 [il k]=some (0,[.d (dB (oU (bk k)))]):=by
 rw [FS,IR]
 have h:=l99 n hk
 have e:allB.map rB=[[il 3,il 63],[il 5,il 7],[il 8,il 42],[il 9,il 12]]:=rfl
 rw [e] at h
 simp only [G70,bf,aC,aO,ah]
 rw [h]
 simp only [ab,aw,av,aA,aQ,K5,aS,Jv,uM,au]
theorem vW:∀ k:Nat,k < 6→bS (k:Int) (bk k) [] 0=true:=by decide
theorem sd {me h:Int} {bs:List aT} {ss:List aY} (h1:bS me bs ss h=true):bs.length≤4611686018427387904∧ss.length≤4611686018427387904:=by
 have:=cU h1;have:=du h1;omega
theorem GoodW.small {ws:List W4} {ps:List P3} (hG:GoodW ws ps):∀ w∈ws,C6 w:=fun w hm=>by
 obtain ⟨k,hk,rfl⟩:=List.mem_iff_getElem.1 hm
 have:=E8 hG (Jz hk)
 exact sd this
end
section
set_option maxRecDepth 100000
theorem FH (l:List ge):FI l=dT (oU l):=by cases l<;>rfl
theorem GoodW.tell {ws:List W4} {ps:List P3} (hG:GoodW ws ps) {k b:Nat} {w:W4} (hw:ws[k]?=some w) (hb:b < 6) (hkb:k≠b):GoodW ws (ps++[((k:Int),(b:Int),oU (ea k (bk k) (bnd w) b))]):=by
 obtain ⟨a1,a2,a3⟩:=hG.wat k w hw
 have hk:k < 6:=by rw [←hG.len];exact (Kv.1 hw).1
 have hh:=qg a3
 have hbd:bS k (bk k) (bnd w) w.2.2.2=true:=sT a3 (by omega)
 have htld:∀ e∈bk k,∀ t,ky k (bnd w) b e=some t→t.1=e.1∧t.2.1=(rf k e (bnd w)).no b∧jQ t=true:=fun e he t ht=>by
  unfold ky at ht
  split at ht
  ·simp only [Jr] at ht
   subst ht
   refine ⟨rfl,by rw [Km];rfl,?_⟩
   have hr:=xq hbd he
   have h1:=(nJ a3 he).1
   have h2:=hr.1
   have h3:=(hr.2 b).1
   unfold rf at h2 h3
   simp only [jQ,h1,Kf]
   simp only [eZ,Js,Ju,Km]
   omega
  ·cases ht
 refine hG.add ?_ ?_
 ·simp only [cZ]
  have hl:(ea k (bk k) (bnd w) b).length≤4:=by
   unfold ea
   exact Tb (List.length_filterMap_le _ _) (cU a3)
  have h1:dR (k:Int)=true:=bn.2 (by omega)
  have h2:dR (b:Int)=true:=bn.2 (by omega)
  have h3:¬ ((k:Int)=(b:Int)):=by omega
  have h5:le jQ (·.1) none (ea k (bk k) (bnd w) b)=true:=by
   have key:∀ {bs:List aT} {p:Option Int},lA bs→(∀ e∈bs,e∈bk k)→(∀ e∈bs,tz p e.1=true)→le jQ (·.1) p (bs.filterMap (ky k (bnd w) b))=true:=by
    intro bs
    induction bs with
    | nil=>intro p _ _ _;rfl
    | cons e r ih =>
     intro p hr hm hp
     cases hr with
     | cons h1 h2 =>
      rw [List.filterMap_cons]
      cases he:ky k (bnd w) b e with
      | none=>exact ih h2 (fun x hx=>hm x (by simp [hx])) fun x hx=>hp x (by simp [hx])
      | some t =>
       obtain ⟨t1,_,t2⟩:=htld e (hm e (by simp)) t he
       simp only [le,t2,Kf]
       rw [t1,hp e (by simp),Kf]
       exact ih h2 (fun x hx=>hm x (by simp [hx])) fun x hx=>by simp only [tz,Ju];exact h1 x hx
   exact key (cN a3) (fun _ h=>h) fun _ _=>rfl
  simp only [gm,h1,h2,h3,h5,hl,Jt,Jw,M6,Kf]
 ·intro t ht a c v ha hc hv e he het
  simp only [cZ] at ht
  simp only [Int.natCast_inj] at ha hc
  subst ha
  subst hc
  rw [hw] at hv
  cases hv
  obtain ⟨e',he',hte⟩:=List.mem_filterMap.1 ht
  obtain ⟨t1,t2,_⟩:=htld e' he' t hte
  have:e=e':=t7 (cN a3) he he' (by rw [het,t1])
  rw [t2,this]
  exact Mu _
theorem bk_ne {k:Nat} (h:k < 6):bk k≠[]:=by
 have:∀ k,k < 6→bk k≠[]:=by decide
 exact this k h
theorem Hr (n:Nat) {k:Nat} (hk:k < 6) {b:Option (List aT)} (hb:b.getD []=bk k) (x0 x1 x3 x4 x5 x7 x8:D) (f:Int):∃ fld j,FN (n+2) 72 [x0,x1,il f,x3,x4,x5,dB b,x7,x8]=some (0,[.d (il fld)])∧dg fld (bk k)=some j:=by
 have hok:=vW k hk
 have h4:=cU hok
 have h1:0 < (bk k).length:=Ve.2 (bk_ne hk)
 have hm:=dV (x:=f) (m:=((bk k).length:Int)) (by omega)
 have hz:bQ f ((bk k).length:Int)=((bQ f ((bk k).length:Int)).toNat:Int):=by omega
 generalize hi:(bQ f ((bk k).length:Int)).toNat=i at hz
 have hlt:i < (bk k).length:=by omega
 have hrow:(b.getD [])[i]?=some (bk k)[i]:=by rw [hb,Jz hlt]
 refine ⟨(bk k)[i].1,i,?_,u6 (cN hok) hlt⟩
 rw [FS,IP]
 have h96:=uf n f ((bk k).length:Int) (by omega) (by omega)
 have hne:¬ (((bk k).length:Int)=0):=by omega
 simp only [G72,b7,hb,ah,ba,hne,Jw,ac,Jq,Jx,an,h96,ab,ae,hz,bO hrow,eC,au]
end
section
theorem Dn {me P:Int} {f g:Fld} {s:aY} (hs:gQ s=true) (h:bi me P f s=some g) (hf:(∀ o,0≤f.no o)∧∀ o,f.af o=true→f.no o≠0):(∀ o,0≤g.no o)∧∀ o,g.af o=true→g.no o≠0:=by
 unfold bi at h
 split at h
 ·rename_i h1
  have hn:=tv hs (by omega)
  split at h
  ·cases h
  ·simp only [Jr] at h
   subst h
   refine ⟨fun o=>?_,fun o ho=>?_⟩
   ·simp only [cd]
    split
    ·omega
    ·exact hf.1 o
   ·simp only [cd] at ho ⊢
    split
    ·omega
    ·rename_i hne
     rw [Kg hne] at ho
     exact hf.2 o ho
 ·split at h
  ·split at h
   ·cases h
   ·simp only [Jr] at h
    subst h
    exact ⟨hf.1,fun o ho=>by cases ho⟩
  ·split at h
   ·split at h
    ·cases h
    ·simp only [Jr] at h;subst h;exact hf
   ·split at h
    ·cases h
    ·simp only [Jr] at h;subst h;exact hf
theorem qB {me:Int} {e:aT}:∀ {l:List aY} {f:Fld},(∀ s∈l,gQ s=true)→((∀ o,0≤f.no o)∧∀ o,f.af o=true→f.no o≠0)→(∀ o,0≤(aI me e f l).1.no o)∧∀ o,(aI me e f l).1.af o=true→(aI me e f l).1.no o≠0
 | [],_,_,hf=>hf
 | s::r,f,hs,hf=>by
  rw [aI]
  split
  ·cases h:bi me e.2 f s with
   | none=>exact hf
   | some g=>exact qB (fun x hx=>hs x (by simp [hx])) (Dn (hs s (by simp)) h hf)
  ·exact qB (fun x hx=>hs x (by simp [hx])) hf
theorem rf_af {me h:Int} {bs:List aT} {ss:List aY} (h1:bS me bs ss h=true) (e:aT):∀ o,(rf me e ss).af o=true→(rf me e ss).no o≠0 :=
 (qB (zc h1) ⟨fun _=>by simp [fd0],fun _ h=>by simp [fd0] at h⟩).2
theorem xt {me:Int} {e:aT} {f:Fld} (hf:FldOK me e f) (haf:∀ o,f.af o=true→f.no o≠0) (o:Nat):cq me o (renF me f)=cq me o f:=by
 unfold cq
 simp only [Km]
 show (aK me o (f.no o)&&(gR f.wants&&(renF me f).af o))=_
 cases hw:aK me o (f.no o) with
 | false=>simp
 | true =>
  cases hod:gR f.wants with
  | false=>simp
  | true =>
   simp only [Kf]
   have hw0:f.wants≠0:=fun h=>by rw [h] at hod;revert hod;decide
   simp only [renF,hw0,Jw,Mj,Mv]
   cases ha:f.af o with
   | true =>
    obtain ⟨h6,_,hne⟩:=hf.no o (haf o ha)
    refine Vh (M7.2 ⟨nK.2 h6,?_⟩)
    simp [bG,hne,haf o ha,cq,hw,hod,ha]
   | false =>
    refine decide_eq_false fun hm=>?_
    have:=(M7.1 hm).2
    simp [bG,cq,hw,hod,ha] at this
theorem B8 {me a:Int} {e:aT} {f:Fld} {t:ge} (hte:t.1=e.1) (hne:a≠me) (hP:bU e.2 a=true):aI me e f (gq me a t f)=({ f with ask:=if f.ask a.toNat < t.2.2 then cd f.ask a.toNat t.2.2 else f.ask,no:=if f.no a.toNat < t.2.1∧aK me a t.2.1=true∧f.opn=false then cd f.no a.toNat t.2.1 else f.no,af:=if f.no a.toNat < t.2.1∧aK me a t.2.1=true∧f.opn=false then cd f.af a.toNat true else f.af },true):=by
 unfold gq
 by_cases h1:f.ask a.toNat < t.2.2
 ·rw [K9 h1,K9 h1,List.singleton_append,bR hte (lZ hne hP h1 t.1)]
  by_cases h2:f.no a.toNat < t.2.1∧aK me a t.2.1=true∧f.opn=false
  ·rw [K9 h2,K9 h2,K9 h2,bR hte (io hne hP (by exact h2.1) (by exact h2.2.2) t.1)]
   rfl
  ·rw [Kg h2,Kg h2,Kg h2]
   rfl
 ·rw [Kg h1,Kg h1,K7]
  by_cases h2:f.no a.toNat < t.2.1∧aK me a t.2.1=true∧f.opn=false
  ·rw [K9 h2,K9 h2,K9 h2,bR hte (io hne hP h2.1 h2.2.2 t.1)]
   rfl
  ·rw [Kg h2,Kg h2,Kg h2]
   rfl
theorem B9 {me a:Int} {e:aT} {f:Fld} {t t':ge} (hte:t.1=e.1) (hne:a≠me) (hP:bU e.2 a=true) (h1:t'.2.1≤t.2.1) (h2:t'.2.2≤t.2.2) (h3:aK me a t'.2.1=true→aK me a t.2.1=true∨t'.2.1≤f.no a.toNat):gq me a t' (aI me e f (gq me a t f)).1=[]:=by
 rw [B8 hte hne hP]
 unfold gq
 simp only
 rw [Kg,Kg]
 ·rfl
 ·rintro ⟨c1,c2,c3⟩
  by_cases h:f.no a.toNat < t.2.1∧aK me a t.2.1=true∧f.opn=false
  ·rw [K9 h] at c1
   simp only [cd,Jv] at c1
   omega
  ·rw [Kg h] at c1
   rcases h3 c2 with h4 | h4
   ·exact h ⟨by omega,h4,c3⟩
   ·omega
 ·split
  ·simp only [cd,Jv];omega
  ·omega
end
section
def GP (p q:P3):Prop:=∀ t∈p.2.2.getD [],∃ t'∈q.2.2.getD [],t'.1=t.1∧t.2.1≤t'.2.1∧t.2.2≤t'.2.2
structure GoodV (ws:List W4) (ps:List P3):Prop extends GoodW ws ps where
 fld:∀ p∈ps,∃ a b:Nat,p.1=(a:Int)∧p.2.1=(b:Int)∧a≠b∧∀ t∈p.2.2.getD [],∃ e∈bk a,e.1=t.1∧e∈bk b
 wnt:∀ p∈ps,∀ t∈p.2.2.getD [],∀ (a:Nat) v,p.1=(a:Int)→ws[a]?=some v→∀ e∈bk a,e.1=t.1→t.2.2≤(rf a e (bnd v)).wants
 hld:∀ p∈ps,∀ t∈p.2.2.getD [],∀ (a b:Nat) v,p.1=(a:Int)→p.2.1=(b:Int)→aK a b t.2.1=true→ws[b]?=some v→∀ e∈bk b,e.1=t.1→t.2.1≤(rf b e (bnd v)).no a
 ord:ps.Pairwise fun p q=>p.1=q.1→p.2.1=q.2.1→GP p q
theorem Bl {me P:Int} {f g:Fld} {s:aY} (h:bi me P f s=some g):f.wants≤g.wants:=by
 unfold bi at h
 repeat' split at h
 all_goals first
  | (cases h;done)
  | (simp only [Jr] at h;subst h;first | exact Mu _ | (simp only;omega))
theorem nS {me:Int} {e:aT}:∀ {l:List aY} {f:Fld},f.wants≤(aI me e f l).1.wants
 | [],_=>Mu _
 | s::r,f=>by
  rw [aI]
  split
  ·cases hf:bi me e.2 f s with
   | none=>exact Mu _
   | some g=>exact Int.le_trans (Bl hf) nS
  ·exact nS
theorem uo {me h:Int} {bs:List aT} {ss:List aY} (h1:bS me bs ss h=true) {e:aT} (he:e∈bs) (n:Nat):(rf me e (ss.take n)).wants≤(rf me e ss).wants:=by
 have h6:=(eU.1 h1).2.2.2.2.2 e he
 unfold rk at h6
 have h7:=h6
 rw [←Mt n ss] at h7
 have h8:=cW (l2:=ss.drop n) (ju h7)
 rw [Mt] at h8
 unfold rf
 rw [h8]
 exact nS
theorem GoodV.chgV {ws:List W4} {ps:List P3} (hV:GoodV ws ps) {k:Nat} {w w':W4} (hw:ws[k]?=some w) (hG:GoodW (ws.set k w') ps)
  (hup:∀ e∈bk k,(∀ o,(rf k e (bnd w)).no o≤(rf k e (bnd w')).no o)∧(rf k e (bnd w)).wants≤(rf k e (bnd w')).wants):GoodV (ws.set k w') ps:=by
 have old:∀ {a:Nat} {v':W4},(ws.set k w')[a]?=some v'→∃ v,ws[a]?=some v∧∀ e∈bk a,(∀ o,(rf a e (bnd v)).no o≤(rf a e (bnd v')).no o)∧(rf a e (bnd v)).wants≤(rf a e (bnd v')).wants:=fun {a v'} h=>by
  rcases po h with ⟨rfl,rfl,_⟩ | ⟨_,h⟩
  ·exact ⟨w,hw,hup⟩
  ·exact ⟨v',h,fun e _=>⟨fun o=>Mu _,Mu _⟩⟩
 refine ⟨hG,hV.fld,fun p hp t ht a v ha hv e he het=>?_,fun p hp t ht a b v ha hb hwi hv e he het=>?_,hV.ord⟩
 ·obtain ⟨u,hu,hle⟩:=old hv
  exact Int.le_trans (hV.wnt p hp t ht a u ha hu e he het) (hle e he).2
 ·obtain ⟨u,hu,hle⟩:=old hv
  exact Int.le_trans (hV.hld p hp t ht a b u ha hb hwi hu e he het) ((hle e he).1 a)
theorem GoodV.tellV {ws:List W4} {ps:List P3} (hV:GoodV ws ps) {k b:Nat} {w:W4} (hw:ws[k]?=some w) (hb:b < 6) (hkb:k≠b):GoodV ws (ps++[((k:Int),(b:Int),oU (ea k (bk k) (bnd w) b))]):=by
 obtain ⟨a1,a2,a3⟩:=hV.wat k w hw
 have hmem:∀ t∈ea k (bk k) (bnd w) b,∃ e∈bk k,e.2.toNat.testBit b=true∧t=(e.1,(rf k e (bnd w)).no b,(rf k e (bnd w)).wants):=fun t ht=>by
  obtain ⟨e,he,ht⟩:=List.mem_filterMap.1 ht
  unfold ky at ht
  split at ht
  ·rename_i hP
   simp only [Jr] at ht
   refine ⟨e,he,by rw [←bM hb];exact hP,?_⟩
   rw [←ht,Km]
   rfl
  ·cases ht
 have hin:∀ e∈bk k,e.2.toNat.testBit b=true→((e.1,(rf k e (bnd w)).no b,(rf k e (bnd w)).wants):ge)∈ea k (bk k) (bnd w) b:=fun e he hP=>by
  refine List.mem_filterMap.2 ⟨e,he,?_⟩
  unfold ky
  rw [K9 (by rw [bM hb];exact hP),Km]
  rfl
 have hbk:∀ e∈bk k,e.2.toNat.testBit b=true→e∈bk b:=fun e he hP=>M7.2 ⟨(M7.1 he).1,hP⟩
 have key:∀ {p:P3} {P:P3→Prop},p∈ps++[((k:Int),(b:Int),oU (ea k (bk k) (bnd w) b))]→(p∈ps→P p)→P ((k:Int),(b:Int),oU (ea k (bk k) (bnd w) b))→P p:=fun {p P} hp h1 h2=>by
  rcases Kp.1 hp with hp | hp
  ·exact h1 hp
  ·simp only [M2] at hp
   subst hp
   exact h2
 refine ⟨hV.toGoodW.tell hw hb hkb,fun p hp=>key (P:=fun p=>∃ a b:Nat,p.1=(a:Int)∧p.2.1=(b:Int)∧a≠b∧∀ t∈p.2.2.getD [],∃ e∈bk a,e.1=t.1∧e∈bk b) hp (hV.fld p) ⟨k,b,rfl,rfl,hkb,fun t ht=>?_⟩,fun p hp=>key (P:=fun p=>∀ t∈p.2.2.getD [],∀ (a:Nat) v,p.1=(a:Int)→ws[a]?=some v→∀ e∈bk a,e.1=t.1→t.2.2≤(rf a e (bnd v)).wants) hp (hV.wnt p) fun t ht a v ha hv e he het=>?_,
  fun p hp=>key (P:=fun p=>∀ t∈p.2.2.getD [],∀ (a b:Nat) v,p.1=(a:Int)→p.2.1=(b:Int)→aK a b t.2.1=true→ws[b]?=some v→∀ e∈bk b,e.1=t.1→t.2.1≤(rf b e (bnd v)).no a) hp (hV.hld p) fun t ht a c v ha hc hwi hv e he het=>?_,?_⟩
 ·simp only [cZ] at ht
  obtain ⟨e,he,hP,rfl⟩:=hmem t ht
  exact ⟨e,he,rfl,hbk e he hP⟩
 ·simp only [cZ] at ht
  simp only [Int.natCast_inj] at ha
  subst ha
  rw [hw] at hv;cases hv
  obtain ⟨e',he',_,rfl⟩:=hmem t ht
  have:e=e':=t7 (cN a3) he he' het
  rw [this]
  exact Mu _
 ·simp only [cZ] at ht
  simp only [Int.natCast_inj] at ha hc
  subst ha
  subst hc
  obtain ⟨e',he',hP,rfl⟩:=hmem t ht
  have hee:e=e':=(Io he he' het).1
  subst hee
  simp only at hwi ⊢
  by_cases h0:(rf k e (bnd w)).no b=0
  ·rw [h0]
   exact jr (f:=fd0) k
  ·have hm:=i6 (me:=k) (e:=e) (l:=bnd w) (f:=fd0) (o:=b) (by simpa [fd0,rf] using h0)
   exact hV.tal k w b v hw hv _ (Mo hm) rfl rfl hwi e he rfl
 ·refine List.pairwise_append.2 ⟨hV.ord,List.pairwise_singleton _ _,fun p hp q hq h1 h2 t ht=>?_⟩
  simp only [M2] at hq
  subst hq
  simp only at h1 h2
  obtain ⟨a,c,ha,hc,hac,hf⟩:=hV.fld p hp
  obtain ⟨e,he,het,heb⟩:=hf t ht
  have:a=k:=by omega
  subst this
  have:c=b:=by omega
  subst this
  refine ⟨(e.1,(rf a e (bnd w)).no c,(rf a e (bnd w)).wants),?_,het,?_,?_⟩
  ·simp only [cZ]
   exact hin e he (M7.1 heb).2
  ·exact (hV.pl p hp).2 t ht a c w ha hc hw e he het
  ·exact hV.wnt p hp t ht a w ha hw e he het
end
end Go.VE
