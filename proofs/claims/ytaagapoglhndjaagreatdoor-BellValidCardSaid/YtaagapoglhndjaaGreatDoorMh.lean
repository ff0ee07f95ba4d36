/- All statements; a function's contract; contracts by depth of calls. -/
import Derived.Test.YtaagapoglhndjaaGreatDoorMe
import Derived.IntWalk
import Derived.WideShapes
import Derived.Carry
import Derived.JoinedOf
import Derived.OpenShut
import Derived.LaidMore
namespace Go.VE
open Go.RowKit
section
variable {P:Program} {Fn:Nat→List D→az} {m0:Nat} {cfg:Cf3}
theorem sA {pk:List Nat} {st:j4} {j:Nat} {ys:List Yr}:∀ {sks:List Sk} {n:Nat},md (dJ P cfg Fn m0) pk st sks n=some (j,ys)→∃ i sk,j=n+i∧sks[i]?=some sk∧tX (dJ P cfg Fn m0) pk sk st=some ys
 | [],n,h=>by cases h
 | sk::sks,n,h=>by
  simp only [md] at h
  split at h
  ·rename_i ys' hf
   cases h
   exact ⟨0,sk,rfl,rfl,hf⟩
  ·obtain ⟨i,s,h1,h2,h3⟩:=sA h
   exact ⟨i+1,s,by omega,by simpa using h2,h3⟩
theorem qE {pk:List Nat} {st:j4} {j:Nat} {ys:List Yr} {sks:List Sk} {B:Base} {zsOf:Option Ex→List (Nat×Obj)} {fr:Fr} {yv:Value} {a:Act} {w:World} (hpr:∀ k,B.ob k≠none→k∈pk) (h:md (dJ P cfg Fn m0) pk st sks 0=some (j,ys)) (hs:cT B zsOf fr yv st a w) :
  ∃ sk,sks[j]?=some sk∧cT B zsOf fr yv (eH (dJ P cfg Fn m0) ys sk) a w:=by
 obtain ⟨i,sk,h1,h2,h3⟩:=sA h
 obtain ⟨g1,g2⟩:=pK hpr h3 hs
 refine ⟨sk,by rw [h1];simpa using h2,?_⟩
 show Sim2 B (zsOf (eH (dJ P cfg Fn m0) ys sk).pend) _ _ _ _ _ _ _ _
 rw [g2]
 exact g1
theorem Ft {id i:Nat} {B:Base} {zsOf:Option Ex→List (Nat×Obj)} {fr:Fr} {yv:Value} {k:Ex→j4→az} {r:Nat×List Yr} {a:Act} {w:World} {st:j4} (h:k (Fu id (.exit i)) st=some r) (hs:cT B zsOf fr yv st a w):Exit.inBlock id (j6 B zsOf fr yv k r) (yd (.exit i)) a w:=by
 simp only [Fu] at h
 simp only [yd,Exit.inBlock]
 split at h
 ·rename_i hi;rw [K9 hi];exact ⟨.normal,st,rfl,h,hs⟩
 ·rename_i hi;rw [Kg hi];exact ⟨.exit i,st,rfl,h,hs⟩
theorem DQ {w:World} {U:Nat→Prop} {ι:Pl} {ob:Ob} {y:L}:∀ {xs:List L} {vs:List Value} {i:Nat} {x:L},xs[i]?=some x→(∀ v,LR w U ι ob x v→LR w U ι ob y v)→LF w U ι ob xs vs→LF w U ι ob (xs.set i y) vs
 | [],vs,i,x,h,_,_=>by simp at h
 | z::zs,vs,0,x,h,hy,hl=>by
  simp only [Ky,Jr] at h
  subst h
  simp only [LF,List.set_cons_zero] at hl ⊢
  obtain ⟨v,vs',e,h1,h2⟩:=hl
  exact ⟨v,vs',e,hy v h1,h2⟩
 | z::zs,vs,i+1,x,h,hy,hl=>by
  simp only [T2] at h
  simp only [LF,List.set_cons_succ] at hl ⊢
  obtain ⟨v,vs',e,h1,h2⟩:=hl
  exact ⟨v,vs',e,h1,DQ h hy h2⟩
theorem DS {w:World} {U:Nat→Prop} {ι:Pl} {ob:Ob}:∀ {xs:List L} {vs:List Value} {i:Nat} {x:L},xs[i]?=some x→LF w U ι ob xs vs→∃ v,LR w U ι ob x v
 | [],vs,i,x,h,_=>by simp at h
 | z::zs,vs,0,x,h,hl=>by
  simp only [Ky,Jr] at h
  subst h
  simp only [LF] at hl
  obtain ⟨v,vs',e,h1,h2⟩:=hl
  exact ⟨v,h1⟩
 | z::zs,vs,i+1,x,h,hl=>by
  simp only [T2] at h
  simp only [LF] at hl
  obtain ⟨v,vs',e,h1,h2⟩:=hl
  exact DS h h2
theorem vV {w:World} {U:Nat→Prop} {ι:Pl} {ob:Ob} {b i e:Nat} {cells:List L} {x y:L} (hm:Mem w U ι ob) (hb:ob b=some (.box cells e)) (hi:cells[i]?=some x) (hd:∀ v,LR w U ι ob x v→LR w U ι ob y v) :
  Mem w U ι (bX ob b (.box (cells.set i y) e))∧Evo w U ι ob w U ι (bX ob b (.box (cells.set i y) e)):=by
 have ev:Evo w U ι ob w U ι (bX ob b (.box (cells.set i y) e)):=by
  refine ⟨rfl,rfl,rfl,Ko _,fun _ _=>rfl,fun _ h=>h,fun k c e' h=>?_,fun k rows size elem own h=>?_,fun k agg keys vals own h=>?_,fun k keys vals h=>?_,fun k keys rows size elem h=>?_,fun _ _ _=>rfl,fun k o h ho b1 hb1=>?_,fun _ h=>.inl h⟩
  ·by_cases hk:k=b
   ·subst hk;rw [hb] at h;cases h;exact ⟨_,bc _ _ _,rfl⟩
   ·exact ⟨c,by rw [ap _ _ hk];exact h,rfl⟩
  ·have hk:k≠b:=by rintro rfl;rw [hb] at h;cases h
   exact ⟨rows,own,by rw [ap _ _ hk];exact h,Ko _,fun _=>rfl⟩
  ·have hk:k≠b:=by rintro rfl;rw [hb] at h;cases h
   exact ⟨keys,vals,own,by rw [ap _ _ hk];exact h,rfl⟩
  ·have hk:k≠b:=by rintro rfl;rw [hb] at h;cases h
   exact ⟨keys,vals,by rw [ap _ _ hk];exact h,rfl⟩
  ·have hk:k≠b:=by rintro rfl;rw [hb] at h;cases h
   exact ⟨keys,rows,by rw [ap _ _ hk];exact h,rfl,List.prefix_refl _⟩
  ·by_cases hk:k=b
   ·subst hk;exact .inr ⟨k,_,hb,rfl,hb1⟩
   ·exact .inr ⟨k,o,by rw [ap _ _ hk] at h;exact h,ho,hb1⟩
 have old:∀ k o,bX ob b (.box (cells.set i y) e) k=some o→∃ o0,ob k=some o0∧o0.owned=o.owned:=fun k o h=>by
  by_cases hk:k=b
  ·subst hk;rw [bc] at h;cases h;exact ⟨_,hb,rfl⟩
  ·rw [ap _ _ hk] at h;exact ⟨o,h,rfl⟩
 refine ⟨⟨hm.lt,fun k o h=>?_,fun k k' o o' h h' ho ho' hne=>?_,fun k o h ha=>?_⟩,ev⟩
 ·by_cases hk:k=b
  ·subst hk
   rw [bc] at h
   cases h
   obtain ⟨cur,h1,h2,h3⟩:=hm.obj k _ hb
   exact ⟨cur,h1,LF.evo ev _ _ (DQ hi (hd) h2),h3⟩
  ·rw [ap _ _ hk] at h
   exact OR.evo ev rfl (fun _ _=>rfl) (fun _ _=>Iff.rfl) (hm.obj k o h)
 ·obtain ⟨o1,g1,g2⟩:=old k o h
  obtain ⟨o2,g3,g4⟩:=old k' o' h'
  exact hm.inj k k' o1 o2 g1 g3 (by rw [g2];exact ho) (by rw [g4];exact ho') hne
 ·by_cases hk:k=b
  ·subst hk;exact hm.one k _ hb rfl
  ·exact hm.one k o (by rw [ap _ _ hk] at h;exact h) ha
theorem Ab {w:World} {U:Nat→Prop} {ι:Pl} {ob:Ob} {b i e:Nat} {cells:List L} {x:L} {d:D} (hm:Mem w U ι ob) (hb:ob b=some (.box cells e)) (hi:cells[i]?=some x) (hd:∀ v,LR w U ι ob x v→DR w U d v) :
  Mem w U ι (bX ob b (.box (cells.set i (.d d)) e))∧Evo w U ι ob w U ι (bX ob b (.box (cells.set i (.d d)) e)) :=
 vV hm hb hi fun v hv=>by simp only [LR];exact hd v hv
theorem CP {ob:Ur} {key size elem:Nat} {own:Bool} (hk:aX ob key=none):ai (aD ((key,O3.arn ([]:Rr) size elem own)::ob))=ai (aD ob):=by
 funext j
 rw [aV]
 simp only [ai]
 split
 ·rename_i e;rw [e,aq,hk];rfl
 ·rfl
theorem CQ {w:World} {U:Nat→Prop} {ι:Pl} {ob:Ob} {k:Nat} {v:Value} (h:LR w U ι ob (.d (.lit (.slice none 0 0))) v):LR w U ι ob (.sln k 0) v:=by
 rw [LR.sln_nil]
 simp only [LR,DR] at h
 exact h.1
theorem eR {B:Base} {zsOf:Option Ex→List (Nat×Obj)} {fr:Fr} {yv:Value} {a:Act} {w:World} {kk:j4→az} {r:Nat×List Yr}:∀ {l:List (Option Nat×Nat)} {st:j4},jq (dJ P cfg Fn m0) l st kk=some r→cT B zsOf fr yv st a w→∃ st',kk st'=some r∧cT B zsOf fr yv st' a w
 | [],st,h,hs=>⟨st,h,hs⟩
 | (none,t)::l,st,h,hs=>by
  simp only [jq] at h
  split at h
  ·rename_i key off n c hx
   obtain ⟨d,us,rd,h1,_,h⟩:=tR h
   refine eR h ?_
   obtain ⟨U,ι,ds,hm,he0,hz,hdf,hnd,hds,hrg',hsz,hv,hy⟩:=hs
   have hvt:=hv t
   rw [show bg (eS st).env t=eV (dc st.env t) from eM t st.env,hx] at hvt
   have h1':(e9 [eL (.slk key off n c:gx)]).run (ai (aD st.ob))=some ([d],aD us):=by
    simp [e9,Q.run_bind,h1,Q.run]
   obtain ⟨U2,n1,n2,n3,_⟩:=iP h1' (SameBut.refl _) hm (vs:=[a.tmps.getD t undef]) (by simp only [LF];exact ⟨_,[],rfl,hvt,rfl⟩)
   have hob:ai (aD (cD us st.ob))=b9 (ai (aD st.ob)) (aD us):=by rw [fR,cL]
   refine ⟨U2,ι,ds,by rw [show (eS { st with env:=(t,.one (.d d))::st.env,ob:=cD us st.ob }).ob=aD (cD us st.ob) from rfl,hob];exact n1,?_,?_,hdf,hnd,hds,hrg',hsz,fun t'=>?_,hy⟩
   all_goals simp only [eS,hob]
   ·exact he0.trans n2
   ·exact hz.evo n2
   ·simp only [bv,K0,bg]
    split
    ·rename_i htt
     simp only [FR] at n3
     obtain ⟨v,vs',e1,e2,_⟩:=n3
     cases e1
     simp only [eV,eL,VR,LR]
     have:t'=t:=by simpa using htt
     rw [this];exact e2
    ·exact VR.evo n2 _ _ (hv t')
  ·rename_i key n hx
   obtain ⟨d,us,rd,h1,_,h⟩:=tR h
   refine eR h ?_
   obtain ⟨U,ι,ds,hm,he0,hz,hdf,hnd,hds,hrg',hsz,hv,hy⟩:=hs
   have hvt:=hv t
   rw [show bg (eS st).env t=eV (dc st.env t) from eM t st.env,hx] at hvt
   have h1':(e9 [eL (.sln key n:gx)]).run (ai (aD st.ob))=some ([d],aD us):=by
    simp [e9,Q.run_bind,h1,Q.run]
   obtain ⟨U2,n1,n2,n3,_⟩:=iP h1' (SameBut.refl _) hm (vs:=[a.tmps.getD t undef]) (by simp only [LF];exact ⟨_,[],rfl,hvt,rfl⟩)
   have hob:ai (aD (cD us st.ob))=b9 (ai (aD st.ob)) (aD us):=by rw [fR,cL]
   refine ⟨U2,ι,ds,by rw [show (eS { st with env:=(t,.one (.d d))::st.env,ob:=cD us st.ob }).ob=aD (cD us st.ob) from rfl,hob];exact n1,?_,?_,hdf,hnd,hds,hrg',hsz,fun t'=>?_,hy⟩
   all_goals simp only [eS,hob]
   ·exact he0.trans n2
   ·exact hz.evo n2
   ·simp only [bv,K0,bg]
    split
    ·rename_i htt
     simp only [FR] at n3
     obtain ⟨v,vs',e1,e2,_⟩:=n3
     cases e1
     simp only [eV,eL,VR,LR]
     have:t'=t:=by simpa using htt
     rw [this];exact e2
    ·exact VR.evo n2 _ _ (hv t')
  ·rename_i hx
   refine eR h ?_
   have he:bg (bv ((t,.one (.d ((dJ P cfg Fn m0).lit (.slice none 0 0))))::st.env))=bg (bv st.env):=by
    funext t'
    simp only [bv,K0,bg]
    split
    ·rename_i htt
     have htt':t'=t:=by simpa using htt
     have:=eM t st.env
     rw [hx] at this
     rw [htt']
     rw [show bg (List.map (fun p=>(p.1,eV p.2)) st.env) t=bg (bv st.env) t from rfl,this]
     simp [eV,eL,aa]
    ·rfl
   show Sim2 B (zsOf st.pend) _ _ _ (bg (bv _)) _ _ _ _
   rw [he]
   exact hs
  ·exact eR h hs
 | (some b,i)::l,st,h,hs=>by
  simp only [jq] at h
  split at h
  ·rename_i cells e hb
   split at h
   ·rename_i key off n c hx
    simp only [tS] at h
    split at h
    ·rename_i rows size elem own hk
     obtain ⟨hc,h⟩:=b6 h
     have hc':c=rows.length:=hc
     refine eR h ?_
     obtain ⟨U,ι,ds,hm,he0,hz,hdf,hnd,hds,hrg',hsz,hv,hy⟩:=hs
     have hk':ai (aD st.ob) key=some (.arr rows size elem own):=by rw [aq,hk];rfl
     have hb':ai (aD st.ob) b=some (.box (bV cells) e):=by rw [aq,hb];rfl
     have hi:(bV cells)[i]?=some (.slk key (off.getD 0) n c):=by rw [bj,Kn,hx];simp [eL]
     have hbk:b≠key:=by rintro rfl;rw [hb] at hk;cases hk
     obtain ⟨cur,_,hlf,_⟩:=hm.obj b _ hb'
     obtain ⟨v,hxv⟩:=DS hi hlf
     have h1':(e9 [L.slk key (off.getD 0) n c]).run (ai (aD st.ob))=some ([.sl size ((rows.drop (off.getD 0)).take n)],[(key,.arr rows size elem false)]):=by
      simp [e9,ke,Q.run_bind,Q.run,hk',Q.guard,hc']
     obtain ⟨U2,n1,n2,_,_⟩:=iP h1' (SameBut.refl _) hm (vs:=[v]) (by simp only [LF];exact ⟨_,[],rfl,hxv,rfl⟩)
     simp only [b9] at n1 n2
     have hk1:bX (ai (aD st.ob)) key (.arr rows size elem false) key=some (.arr rows size elem false):=bc _ _ _
     have hUk:U2 (ι key).1:=by
      obtain ⟨_,_,_,_,_,_,g⟩:=n1.obj key _ hk1
      simpa using g
     obtain ⟨b1,b2⟩:=Ab n1 (b:=b) (e:=e) (cells:=bV cells) (i:=i) (d:=.sl size ((rows.drop (off.getD 0)).take n)) (by rw [ap _ _ hbk];exact hb') hi fun v hv=>oq n1 hv hk1 hc' (fun _ h=>h) hUk
     have ev:=n2.trans b2
     have hob:ai (aD ((b,.box (cells.set i (.d ((dJ P cfg Fn m0).slD size ((dJ P cfg Fn m0).seg rows off n)))) e)::cD [(key,.arr rows size elem false)] st.ob))=bX (bX (ai (aD st.ob)) key (.arr rows size elem false)) b (.box ((bV cells).set i (.d (.sl size ((rows.drop (off.getD 0)).take n)))) e):=by
      funext j
      simp only [cD,aV,ai,bX,eO,bj,Vc,eL]
      rfl
     refine ⟨U2,ι,ds,by simp only [eS,hob];exact b1,?_,?_,hdf,hnd,hds,hrg',hsz,fun t'=>?_,hy⟩
     all_goals simp only [eS,hob]
     ·exact he0.trans ev
     ·exact hz.evo ev
     ·exact VR.evo ev _ _ (hv t')
    ·cases h
   ·rename_i hx
    refine eR h ?_
    have he:ai (aD ((b,.box (cells.set i (.d ((dJ P cfg Fn m0).lit (.slice none 0 0)))) e)::st.ob))=ai (aD st.ob):=by
     funext j
     simp only [aV,ai]
     split
     ·rename_i hj
      rw [hj,aq,hb]
      have:(bV cells).set i (.d (.lit (.slice none 0 0)))=bV cells:=by
       have hi:(bV cells)[i]?=some (.d (.lit (.slice none 0 0))):=by rw [bj,Kn,hx];simp [eL]
       obtain ⟨hlt,h2⟩:=Kv.1 hi
       rw [←h2];exact List.set_getElem_self hlt
      simp only [Ke,eO,p6,bj,Vc] at this ⊢
      rw [←this]
      simp [eL,aa]
     ·rfl
    show Sim2 B (zsOf st.pend) _ _ _ _ (ai (aD _)) _ _ _
    rw [he]
    exact hs
   ·rename_i key hx
    simp only [tS] at h
    split at h
    ·rename_i agg mm own hk
     refine eR h ?_
     obtain ⟨U,ι,ds,hm,he0,hz,hdf,hnd,hds,hrg',hsz,hv,hy⟩:=hs
     have hk':ai (aD st.ob) key=some (.mp agg mm.1 mm.2 own):=by rw [aq,hk];rfl
     have hb':ai (aD st.ob) b=some (.box (bV cells) e):=by rw [aq,hb];rfl
     have hi:(bV cells)[i]?=some (.mk key):=by rw [bj,Kn,hx];simp [eL]
     have hbk:b≠key:=by rintro rfl;rw [hb] at hk;cases hk
     obtain ⟨cur,_,hlf,_⟩:=hm.obj b _ hb'
     obtain ⟨v,hxv⟩:=DS hi hlf
     have h1':(e9 [L.mk key]).run (ai (aD st.ob))=some ([.mp agg mm.1 mm.2],[(key,.mp agg mm.1 mm.2 false)]):=by
      simp [e9,ke,Q.run_bind,Q.run,hk']
     obtain ⟨U2,n1,n2,_,_⟩:=iP h1' (SameBut.refl _) hm (vs:=[v]) (by simp only [LF];exact ⟨_,[],rfl,hxv,rfl⟩)
     simp only [b9] at n1 n2
     have hk1:bX (ai (aD st.ob)) key (.mp agg mm.1 mm.2 false) key=some (.mp agg mm.1 mm.2 false):=bc _ _ _
     obtain ⟨b1,b2⟩:=Ab n1 (b:=b) (e:=e) (cells:=bV cells) (i:=i) (d:=.mp agg mm.1 mm.2) (by rw [ap _ _ hbk];exact hb') hi fun v hv=>by
      obtain ⟨es,clock,g1,g2,g3⟩:=n1.obj key _ hk1
      simp only [LR] at hv
      obtain ⟨_,_,_,_,_,hv⟩:=hv
      simp only [DR]
      exact ⟨_,es,clock,hv,by simpa using g3,g1,g2⟩
     have ev:=n2.trans b2
     have hob:ai (aD ((b,.box (cells.set i (.d ((dJ P cfg Fn m0).mpD agg mm))) e)::cD [(key,.mp agg mm false)] st.ob))=bX (bX (ai (aD st.ob)) key (.mp agg mm.1 mm.2 false)) b (.box ((bV cells).set i (.d (.mp agg mm.1 mm.2))) e):=by
      funext j
      simp only [cD,aV,ai,bX,eO,bj,Vc,eL]
      rfl
     refine ⟨U2,ι,ds,by simp only [eS,hob];exact b1,?_,?_,hdf,hnd,hds,hrg',hsz,fun t'=>?_,hy⟩
     all_goals simp only [eS,hob]
     ·exact he0.trans ev
     ·exact hz.evo ev
     ·exact VR.evo ev _ _ (hv t')
    ·cases h
   ·exact eR h hs
  ·exact eR h hs
theorem gn {B:Base} {zsOf:Option Ex→List (Nat×Obj)} {fr:Fr} {yv:Value} {a:Act} {w:World}:∀ {l:List ((Option Nat×Nat)×(Nat×Nat×Nat))} {st:j4},cT B zsOf fr yv st a w→cT B zsOf fr yv (kG (dJ P cfg Fn m0) l st) a w
 | [],st,hs=>hs
 | ((none,t),key,size,elem)::l,st,hs=>by
  simp only [kG]
  split
  ·rename_i hx
   split
   ·rename_i hk
    refine gn ?_
    obtain ⟨U,ι,ds,hm,he0,hz,hdf,hnd,hds,hrg',hsz,hv,hy⟩:=hs
    have hob:ai (aD ((key,O3.arn ((dJ P cfg Fn m0).rows []) size elem true)::st.ob))=ai (aD st.ob):=CP hk
    have hvt:=hv t
    rw [show bg (eS st).env t=eV (dc st.env t) from eM t st.env,hx] at hvt
    refine ⟨U,ι,ds,by simp only [eS,hob];exact hm,by simp only [eS,hob];exact he0,by simp only [eS,hob];exact hz,hdf,hnd,hds,hrg',hsz,fun t'=>?_,hy⟩
    simp only [eS,hob,bv,K0,bg]
    split
    ·rename_i htt
     have:t'=t:=by simpa using htt
     rw [this]
     simp only [eV,eL,VR] at hvt ⊢
     exact CQ hvt
    ·exact hv t'
   ·exact gn hs
  ·exact gn hs
 | ((some b,i),key,size,elem)::l,st,hs=>by
  simp only [kG]
  split
  ·rename_i hk
   split
   ·rename_i cells e hb
    split
    ·rename_i hx
     refine gn ?_
     obtain ⟨U,ι,ds,hm,he0,hz,hdf,hnd,hds,hrg',hsz,hv,hy⟩:=hs
     have hb':ai (aD st.ob) b=some (.box (bV cells) e):=by rw [aq,hb];rfl
     have hi:(bV cells)[i]?=some (.d (.lit (.slice none 0 0))):=by rw [bj,Kn,hx];simp [eL]
     obtain ⟨b1,ev⟩:=vV hm hb' hi (y:=.sln key 0) fun v hv=>CQ hv
     have hob:ai (aD ((b,O3.box (cells.set i (.sln key ((dJ P cfg Fn m0).natN 0))) e)::(key,O3.arn ((dJ P cfg Fn m0).rows []) size elem true)::st.ob))=bX (ai (aD st.ob)) b (.box ((bV cells).set i (.sln key 0)) e):=by
      funext j
      rw [aV,← CP (size:=size) (elem:=elem) (own:=true) hk]
      simp only [ai,bX,eO,bj,Vc,eL]
      rfl
     refine ⟨U,ι,ds,by simp only [eS,hob];exact b1,?_,?_,hdf,hnd,hds,hrg',hsz,fun t'=>?_,hy⟩
     all_goals simp only [eS,hob]
     ·exact he0.trans ev
     ·exact hz.evo ev
     ·exact VR.evo ev _ _ (hv t')
    ·exact gn hs
   ·exact gn hs
  ·exact gn hs
theorem zI {B:Base} {zsOf:Option Ex→List (Nat×Obj)} {fr:Fr} {yv:Value} {a:Act} {w:World} {k:Ex→j4→az} {r:Nat×List Yr} {l:List (Option Nat×Nat)} {l2:List ((Option Nat×Nat)×(Nat×Nat×Nat))} {e:Ex} {st:j4} (h:I6 (dJ P cfg Fn m0) l l2 k e st=some r) (hs:cT B zsOf fr yv st a w):∃ st',k e st'=some r∧cT B zsOf fr yv st' a w:=by
 cases e with
 | normal =>
  obtain ⟨st',h1,h2⟩:=eR h hs
  exact ⟨_,h1,gn h2⟩
 | exit i=>exact ⟨st,h,hs⟩
 | ret=>exact ⟨st,h,hs⟩
theorem oN (hF:mo P cfg Fn) (hM:nj P cfg Fn) (hS:rD P cfg) (hI:∀ f bd,cfg.inl f=some bd→∃ fn,InlOK P (tcf cfg) f bd fn) (hmix:P.follows .mixedOrders=true):∀ n,FX P cfg Fn m0 n:=by
 intro n
 induction n with
 | zero=>intro r fr hd cur p c st k a w B zsOf yv ro m _ _ _ _ _ h;simp [cm,aa] at h
 | succ n ih =>
  intro r fr hd cur p c st k a w B zsOf yv ro m hdr hpr hrg hhd hro h hs
  cases c with
  | skip=>simp only [cm] at h;exact wpIn_skip ⟨.normal,st,rfl,h,hs⟩
  | label l=>simp only [cm] at h;exact wpIn_label ⟨.normal,st,rfl,h,hs⟩
  | ret=>simp only [cm] at h;exact wpIn_ret ⟨.ret,st,rfl,h,hs⟩
  | exit id=>simp only [cm] at h;exact wpIn_exit ⟨.exit id,st,rfl,h,hs⟩
  | region id ops draw =>
   cases draw with
   | false =>
    simp only [cm] at h
    have:=xA (l2:=[]) hF hpr (Ci hM hS hI ih) hhd hro (ro:=ro) (m:=m) (Q:=j6 B zsOf fr yv k r) ops.size 0 ops.toList st _ r a w h hs (fun st' a' w' hk hs'=>⟨.normal,st',rfl,hk,hs'⟩)
    rw [Kj] at this
    exact wpIn_region_list this
   | true =>
    simp only [cn] at hdr
    simp only [cm] at h
    split at h
    ·rename_i hys
     exact wpIn_region_any hmix (Bs hF hM (Ci hM hS hI ih) hdr hys h hs fun st' a' w' hk hs'=>⟨.normal,st',rfl,hk,hs'⟩)
    ·cases h
  | seq x y =>
   simp only [cm] at h
   simp only [cn,Js] at hdr
   have after:∀ (e:Ex) (st':j4) (a':Act) (w':World),(match e with
     | .normal=>cm (dJ P cfg Fn m0) cfg P n fr hd cur (2*p+1) y st' k
     | .exit i=>k (.exit i) st'
     | .ret=>k .ret st')=some r→cT B zsOf fr yv st' a' w'→Exit.then (y.wpIn (FW ro) m P (j6 B zsOf fr yv k r)) (j6 B zsOf fr yv k r) (yd e) a' w':=by
    intro e st' a' w' hk hs'
    cases e with
    | normal=>exact ih r fr hd cur (2*p+1) y st' k a' w' B zsOf yv ro m hdr.2 hpr hrg hhd hro hk hs'
    | exit i=>exact ⟨.exit i,st',rfl,hk,hs'⟩
    | ret=>exact ⟨.ret,st',rfl,hk,hs'⟩
   split at h
   ·refine wpIn_seq (wpIn_mono (ih r fr hd cur (2*p) x st _ a w B zsOf yv ro m hdr.1 hpr hrg hhd hro h hs) ?_)
    rintro e a' w' ⟨z,st',rfl,hk,hs'⟩
    obtain ⟨st1,hk,hs'⟩:=zI hk hs'
    exact after z st1 a' w' hk hs'
   ·split at h
    ·cases h
    ·rename_i c js _
     obtain ⟨j,ys,kont,h1,h2,h3⟩:=gi h
     refine wpIn_seq (wpIn_mono (ih (j,ys) fr hd cur (2*p) x st _ a w B zsOf yv ro m hdr.1 hpr hrg hhd hro h1 hs) ?_)
     rintro e a' w' ⟨z,st',rfl,hk,hs'⟩
     obtain ⟨st1,hk,hs'⟩:=zI hk hs'
     obtain ⟨st2,g1,g2⟩:=pj hpr hk h2 h3 hs'
     exact after z st2 a' w' g1 g2
  | cond c x y =>
   simp only [cm] at h
   simp only [cn,Js] at hdr
   split at h
   ·rename_i t
    obtain ⟨U,ι,ds,hm,he0,hz,hdf,hnd,hds,hrg',hsz,hv,hy⟩:=id hs
    have ev_:∀ b,eV (dc st.env t)=.one (.d (.lit (.bool b)))→a.eval (.tmp t)=.bool b:=by
     intro b hb
     have:=hv t
     rw [show bg (eS st).env t=eV (dc st.env t) from eM t st.env,hb] at this
     simp only [VR,LR,DR] at this
     exact this.1
    have push:∀ b,eV (dc st.env t)=.one (.d (.lit (.bool b)))→cT B zsOf fr yv { st with env:=(t,.one (.b b))::st.env } a w:=by
     intro b hb
     show Sim2 B (zsOf st.pend) fr.nt fr.rng yv (bg ((t,bZ (.bool b))::bv st.env)) (ai (aD st.ob)) st.ys a w
     rw [nQ (b:=b) (by rw [eM];exact hb) rfl]
     exact hs
    split at h
    ·rename_i hb
     exact wpIn_cond_true (ev_ true (by rw [hb];simp [eV,eL])) (ih r fr hd cur (2*p) x st k a w B zsOf yv ro m hdr.1 hpr hrg hhd hro h hs)
    ·rename_i hb
     exact wpIn_cond_false (ev_ false (by rw [hb];simp [eV,eL])) (ih r fr hd cur (2*p+1) y st k a w B zsOf yv ro m hdr.2 hpr hrg hhd hro h hs)
    ·rename_i z hb
     rcases i3 h with ⟨rfl,h⟩ | ⟨rfl,h⟩
     ·have hb':eV (dc st.env t)=.one (.d (.lit (.bool true))):=by rw [hb];simp [eV,eL]
      exact wpIn_cond_true (ev_ true hb') (ih r fr hd cur (2*p) x _ k a w B zsOf yv ro m hdr.1 hpr hrg hhd hro h (push true hb'))
     ·have hb':eV (dc st.env t)=.one (.d (.lit (.bool false))):=by rw [hb];simp [eV,eL]
      exact wpIn_cond_false (ev_ false hb') (ih r fr hd cur (2*p+1) y _ k a w B zsOf yv ro m hdr.2 hpr hrg hhd hro h (push false hb'))
    ·cases h
   ·exact wpIn_cond_true rfl (ih r fr hd cur (2*p) x st k a w B zsOf yv ro m hdr.1 hpr hrg hhd hro h hs)
   ·exact wpIn_cond_false rfl (ih r fr hd cur (2*p+1) y st k a w B zsOf yv ro m hdr.2 hpr hrg hhd hro h hs)
   ·cases h
  | block id c =>
   simp only [cn] at hdr
   simp only [cm] at h
   split at h
   ·rename_i body
    simp only [cn] at hdr
    split at h
    ·cases h
    ·rename_i c sks outs _
     split at h
     ·cases h
     ·rename_i i0 ys0 hfit
      obtain ⟨j,ys,kont,h1,h2,h3⟩:=gi h
      obtain ⟨sk0,hsk0,hs0⟩:=qE hpr hfit hs
      refine wpIn_block (wpIn_loop_rounds m0 ?_)
      have key:∀ (bs:List ((Nat→List Yr→az)→List Yr→az)),(∀ (i:Nat) (sk:Sk),sks[i]?=some sk→∃ b,bs[i]?=some b∧∀ (J:Nat→List Yr→az) (zs:List Yr),b J zs=some (j,ys)→∀ (a:Act) (w:World),cT B zsOf fr yv (eH (dJ P cfg Fn m0) zs sk) a w →
         body.wpIn (FW ro) m P (fun e a' w'=>∃ z st',e=yd z∧cT B zsOf fr yv st' a' w'∧((z=.normal∧∃ j' ys',md (dJ P cfg Fn m0) fr.pr st' sks 0=some (j',ys')∧J j' ys'=some (j,ys)) ∨
          (∃ i,z=.exit i∧ru (dJ P cfg Fn m0) (2+10*c) fr.f fr.b id fr.pr outs (Fu id (.exit i)) st'=some (j,ys))∨(z=.ret∧ru (dJ P cfg Fn m0) (2+10*c) fr.f fr.b id fr.pr outs .ret st'=some (j,ys)))) a w) →
        ∀ (n' i:Nat) (zs:List Yr) (a:Act) (w:World) (sk:Sk),bh bs n' i zs=some (j,ys)→sks[i]?=some sk→cT B zsOf fr yv (eH (dJ P cfg Fn m0) zs sk) a w →
        Code.roundsIn (FW ro) m P body (Exit.inBlock id (j6 B zsOf fr yv k r)) n' a w:=by
       intro bs hbs n'
       induction n' with
       | zero=>intro i zs a w sk hl;cases hl
       | succ n' ihl =>
        intro i zs a w sk hl hski hs
        rw [roundsIn_succ]
        obtain ⟨b,hb,hB⟩:=hbs i sk hski
        simp only [bh,hb] at hl
        refine wpIn_mono (hB _ zs hl a w hs) ?_
        rintro e a' w' ⟨z,st',rfl,hs',⟨rfl,j',ys',hf',hk⟩ | ⟨i',rfl,hk⟩ | ⟨rfl,hk⟩⟩
        ·obtain ⟨sk',hsk',hs2⟩:=qE hpr hf' hs'
         exact ihl j' ys' a' w' sk' hk hsk' hs2
        ·obtain ⟨st2,g1,g2⟩:=pj hpr hk h2 h3 hs'
         exact Ft g1 g2
        ·obtain ⟨st2,g1,g2⟩:=pj hpr hk h2 h3 hs'
         exact ⟨.ret,st2,rfl,g1,g2⟩
      refine key _ ?_ m0 i0 ys0 a w sk0 h1 hsk0 hs0
      intro i sk hski
      refine ⟨_,by rw [Kn,hski];rfl,?_⟩
      intro J zs hl a w hs
      simp only at hl
      split at hl
      ·cases hl
      ·refine wpIn_mono (ih (j,ys) fr hd id (2*p) body _ _ a w B zsOf yv ro m hdr hpr hrg hhd hro hl hs) ?_
       rintro e a' w' ⟨z,st',rfl,hk,hs'⟩
       refine ⟨z,st',rfl,hs',?_⟩
       cases z with
       | normal =>
        simp only at hk
        split at hk
        ·rename_i j' ys' hf'
         exact .inl ⟨rfl,j',ys',hf',hk⟩
        ·cases hk
       | exit i=>exact .inr (.inl ⟨i,rfl,hk⟩)
       | ret=>exact .inr (.inr ⟨rfl,hk⟩)
   ·refine wpIn_block (wpIn_mono (ih r fr hd id (2*p) _ st _ a w B zsOf yv ro m hdr hpr hrg hhd hro h hs) ?_)
    rintro e a' w' ⟨z,st',rfl,hk,hs'⟩
    cases z with
    | normal=>exact ⟨.normal,st',rfl,hk,hs'⟩
    | ret=>exact ⟨.ret,st',rfl,hk,hs'⟩
    | exit i =>
     simp only at hk
     simp only [yd,Exit.inBlock]
     split at hk
     ·rename_i hi;rw [K9 hi];exact ⟨.normal,st',rfl,hk,hs'⟩
     ·rename_i hi;rw [Kg hi];exact ⟨.exit i,st',rfl,hk,hs'⟩
  | rangeFunc g ps assign body=>exact AH hI ih hdr hpr hrg h hs
  | loop _=>simp [cm,aa] at h
  | scope _=>simp [cm,aa] at h
  | goto _=>simp [cm,aa] at h
  | refuse _=>simp [cm,aa] at h
end
section
variable {P:Program} {Fn:Nat→List D→az} {FnD:D→List Sh→List D→az} {m0:Nat} {cfg:Cf3}
section
variable {w:World} {U:Nat→Prop} {ι:Pl} {ob:Ur} {r:Nat×List Yr}
def Jp (w:World) (U:Nat→Prop) (ι:Pl) (ob:Ur) (rk:RK) (v:Value) (y:Yr) (ko kd:List Nat):Prop :=
 (∀ q∈ko,∃ o,ai (aD ob) q=some o∧o.owned=true)∧(∀ q∈kd,∃ o,ai (aD ob) q=some o) ∧
 ∀ (Us:Nat→Prop),(∀ b,U b→Us b)→(∀ q∈kd,Us (ι q).1)→∀ (e:List Yr) (j:Nat),e[j]?=some y→RcR w Us (uK e rk j) v (ko.map fun q=>(ι q).1)
theorem Cw {rk:RK} {x:gx} {v:Value} {k:Yr→List Nat→az} (hm:Mem w U ι (ai (aD ob))) (hx:LR w U ι (ai (aD ob)) (eL x) v) (h:rcK (aa Fn FnD m0) ob rk x k=some r) :
  ∃ y u ko kd,k y u=some r∧u=ko++kd∧Jp w U ι ob rk v y ko kd:=by
 unfold rcK at h
 split at h
 ·rename_i key n c
  split at h
  ·rename_i rows size elem own hk
   obtain ⟨hc,h⟩:=b6 h
   have hc':c=rows.length:=hc
   obtain ⟨hn,h⟩:=je h
   refine ⟨_,_,[],[key],h,rfl,by simp,by intro q hq;cases M2.1 hq;exact ⟨_,by rw [aq,hk];rfl⟩,fun Us hU hd e j he=>?_⟩
   have hk':ai (aD ob) key=some (.arr rows size elem own):=by rw [aq,hk];rfl
   have:=oq hm (by simpa only [eL] using hx) hk' hc' hU (hd key (by simp))
   refine ⟨rfl,?_⟩
   simp only [aa] at he
   simp only [aa,he]
   simpa using this
  ·cases h
 ·rename_i s e0 key n c
  split at h
  ·rename_i rows size elem hk
   split at h
   ·rename_i hse
    obtain ⟨rfl,rfl⟩:=hse
    obtain ⟨hc,h⟩:=b6 h
    have hc':c=rows.length:=hc
    obtain ⟨hn,h⟩:=je h
    have hn':n≤rows.length:=hn
    have hk':ai (aD ob) key=some (.arr rows s e0 true):=by rw [aq,hk];rfl
    refine ⟨_,_,[key],[],h,rfl,by intro q hq;simp at hq;subst hq;exact ⟨_,hk',rfl⟩,by simp,fun Us hU hd e j he=>?_⟩
    simp only [eL,LR] at hx
    obtain ⟨rows',size',elem',own',h1,h2,h3,_⟩:=hx
    rw [hk'] at h1
    cases h1
    obtain ⟨_,rfl⟩:=h3 hc'
    obtain ⟨cur,h5,h6,h7,h8,h9,h10⟩:=hm.obj key _ hk'
    simp only [uK,aa,he]
    refine ⟨(ι key).1,(ι key).2,cur,rfl,?_,h5,by simp;omega,h7,h8,RR.mono (fun _ _=>rfl) hU _ rfl _ _ _ (by simpa using h9.take n)⟩
    simp [V1 hn']
   ·cases h
  ·cases h
 ·rename_i key
  split at h
  ·rename_i agg mm own hk
   have hk':ai (aD ob) key=some (.mp agg mm.1 mm.2 own):=by rw [aq,hk];rfl
   refine ⟨_,_,[],[key],h,rfl,by simp,by intro q hq;cases M2.1 hq;exact ⟨_,by rw [aq,hk];rfl⟩,fun Us hU hd e j he=>?_⟩
   simp only [eL,LR] at hx
   obtain ⟨_,_,_,_,h1,rfl⟩:=hx
   obtain ⟨es,clock,h3,h4,h5⟩:=hm.obj _ _ hk'
   refine ⟨rfl,?_⟩
   simp only [aa] at he
   simp only [aa,he,DR]
   exact ⟨_,es,clock,rfl,hd key (by simp),h3,KR.mono (fun _ _=>rfl) hU _ _ _ _ h4⟩
  ·cases h
 ·rename_i g key
  split at h
  ·rename_i agg mm hk
   split at h
   ·rename_i hg
    subst hg
    have hk':ai (aD ob) key=some (.mp g mm.1 mm.2 true):=by rw [aq,hk];rfl
    refine ⟨_,_,[key],[],h,rfl,by intro q hq;simp at hq;subst hq;exact ⟨_,hk',rfl⟩,by simp,fun Us hU hd e j he=>?_⟩
    simp only [eL,LR] at hx
    obtain ⟨_,_,_,_,h1,rfl⟩:=hx
    obtain ⟨es,clock,h3,h4,h5⟩:=hm.obj _ _ hk'
    simp only [uK,aa,he]
    exact ⟨_,es,clock,rfl,rfl,h3,KR.mono (fun _ _=>rfl) hU _ _ _ _ h4⟩
   ·cases h
  ·cases h
 ·split at h
  ·rename_i y hy
   refine ⟨_,_,[],[],h,rfl,by simp,by simp,fun Us hU hd e j he=>⟨rfl,?_⟩⟩
   rw [cM hy] at hx
   simp only [LR] at hx
   simp only [aa,he]
   exact DR.mono (fun _ _=>rfl) hU _ _ hx
  ·cases h
 ·cases h
theorem yR (hm:Mem w U ι (ai (aD ob))):∀ {rs:List RK} {xs:List gx} {vs:List Value} {k:List Yr→List Nat→az},LF w U ι (ai (aD ob)) (bV xs) vs→Cv (aa Fn FnD m0) ob rs xs k=some r →
  ∃ ys u ko kd,k ys u=some r∧u.Perm (ko++kd)∧ys.length=rs.length∧(∀ q∈ko,∃ o,ai (aD ob) q=some o∧o.owned=true)∧(∀ q∈kd,∃ o,ai (aD ob) q=some o) ∧
   ∀ (Us:Nat→Prop),(∀ b,U b→Us b)→(∀ q∈kd,Us (ι q).1)→∀ (e:List Yr) (j:Nat),At e j ys→RcF w Us (em e rs j) vs (ko.map fun q=>(ι q).1)
 | [],[],vs,k,hl,h=>by
  simp only [Cv] at h
  refine ⟨[],[],[],[],h,List.Perm.refl _,rfl,by simp,by simp,fun Us hU hd e j he=>?_⟩
  simp only [bV,LF] at hl
  exact ⟨hl,rfl⟩
 | [],x::xs,vs,k,hl,h=>by cases h
 | rk::rs,[],vs,k,hl,h=>by cases h
 | rk::rs,x::xs,vs,k,hl,h=>by
  simp only [Cv] at h
  simp only [bV,LF] at hl
  obtain ⟨v,vs',rfl,h3,h4⟩:=hl
  obtain ⟨y,u,ko,kd,h,rfl,c1,c2,c3⟩:=Cw hm h3 h
  obtain ⟨ys,us,ko',kd',h,hp,hlen,d1,d2,d3⟩:=yR hm h4 h
  refine ⟨_,_,ko++ko',kd++kd',h,?_,by simp [hlen],?_,?_,fun Us hU hd e j he=>?_⟩
  ·refine (List.Perm.append_left _ hp).trans ?_
   rw [Kh,Kh]
   refine List.Perm.append_left _ ?_
   rw [←Kh,← Kh]
   exact List.Perm.append_right _ List.perm_append_comm
  ·intro q hq;rcases Kp.1 hq with h | h;exact c1 q h;exact d1 q h
  ·intro q hq;rcases Kp.1 hq with h | h;exact c2 q h;exact d2 q h
  ·have e1:At e j ([y]++ys):=he
   obtain ⟨a1,a2⟩:=e1.append
   refine ⟨v,vs',_,_,rfl,by rw [Mm],c3 Us hU (fun q hq=>hd q (Mc _ hq)) e j (by simpa using a1 0 y rfl),d3 Us hU (fun q hq=>hd q (Ma _ hq)) e (j+1) a2⟩
theorem EO (hm:Mem w U ι (ai (aD ob))):∀ {rs:RS} {xs:List cv} {vs:List Value} {k:List Yr→List Nat→az},VF w U ι (ai (aD ob)) (cI xs) vs→iI (aa Fn FnD m0) ob rs xs k=some r →
  ∃ ys u ko kd,k ys u=some r∧u.Perm (ko++kd)∧(∀ q∈ko,∃ o,ai (aD ob) q=some o∧o.owned=true)∧(∀ q∈kd,∃ o,ai (aD ob) q=some o) ∧
   ∀ (Us:Nat→Prop),(∀ b,U b→Us b)→(∀ q∈kd,Us (ι q).1)→∀ (e:List Yr) (j:Nat),At e j ys→RvF w Us (dz e rs j) vs (ko.map fun q=>(ι q).1):=by
 intro rs
 induction rs with
 | nil =>
  intro xs vs k hl h
  cases xs with
  | nil =>
   simp only [iI] at h
   refine ⟨[],[],[],[],h,List.Perm.refl _,by simp,by simp,fun Us hU hd e j he=>?_⟩
   simp only [cI,VF] at hl
   simp only [dz,RvF]
   exact ⟨hl,rfl⟩
  | cons x xs=>cases h
 | cons p rs ih =>
  intro xs vs k hl h
  obtain ⟨g,cs⟩:=p
  have more:∀ {x:cv} {xs:List cv} {v:Value} {vs':List Value} {ys ys':List Yr} {u us ko ko' kd kd':List Nat},u.Perm (ko++kd)→us.Perm (ko'++kd')→ys.length=cs.length →
    (∀ q∈ko,∃ o,ai (aD ob) q=some o∧o.owned=true)→(∀ q∈ko',∃ o,ai (aD ob) q=some o∧o.owned=true)→(∀ q∈kd,∃ o,ai (aD ob) q=some o)→(∀ q∈kd',∃ o,ai (aD ob) q=some o) →
    (∀ (Us:Nat→Prop),(∀ b,U b→Us b)→(∀ q∈kd,Us (ι q).1)→∀ (e:List Yr) (j:Nat),At e j ys→RvR w Us (sY e g cs j) v (ko.map fun q=>(ι q).1)) →
    (∀ (Us:Nat→Prop),(∀ b,U b→Us b)→(∀ q∈kd',Us (ι q).1)→∀ (e:List Yr) (j:Nat),At e j ys'→RvF w Us (dz e rs j) vs' (ko'.map fun q=>(ι q).1)) →
    (u++us).Perm ((ko++ko')++(kd++kd'))∧(∀ q∈ko++ko',∃ o,ai (aD ob) q=some o∧o.owned=true)∧(∀ q∈kd++kd',∃ o,ai (aD ob) q=some o) ∧
     ∀ (Us:Nat→Prop),(∀ b,U b→Us b)→(∀ q∈kd++kd',Us (ι q).1)→∀ (e:List Yr) (j:Nat),At e j (ys++ys')→RvF w Us (dz e ((g,cs)::rs) j) (v::vs') ((ko++ko').map fun q=>(ι q).1):=by
   intro x xs v vs' ys ys' u us ko ko' kd kd' p1 p2 hlen c1 d1 c2 d2 c3 d3
   refine ⟨?_,?_,?_,fun Us hU hd e j he=>?_⟩
   ·refine (List.Perm.append p1 p2).trans ?_
    rw [Kh,Kh]
    refine List.Perm.append_left _ ?_
    rw [←Kh,← Kh]
    exact List.Perm.append_right _ List.perm_append_comm
   ·intro q hq;rcases Kp.1 hq with h | h;exact c1 q h;exact d1 q h
   ·intro q hq;rcases Kp.1 hq with h | h;exact c2 q h;exact d2 q h
   ·obtain ⟨a1,a2⟩:=he.append
    rw [hlen] at a2
    simp only [dz,RvF]
    exact ⟨v,vs',_,_,rfl,by rw [Mm],c3 Us hU (fun q hq=>hd q (Mc _ hq)) e j a1,d3 Us hU (fun q hq=>hd q (Ma _ hq)) e _ a2⟩
  cases xs with
  | nil =>
   cases g with
   | true=>simp [iI,aa] at h
   | false=>(match cs,h with | [],h=>simp [iI,aa] at h | [rk],h=>simp [iI,aa] at h | _::_::_,h=>simp [iI,aa] at h)
  | cons x xs =>
   simp only [cI,VF] at hl
   obtain ⟨v,vs',rfl,h3,h4⟩:=hl
   cases x with
   | tup ts =>
    cases g with
    | true=>simp [iI,aa] at h
    | false=>(match cs,h with | [],h=>simp [iI,aa] at h | [rk],h=>simp [iI,aa] at h | _::_::_,h=>simp [iI,aa] at h)
   | one x =>
    cases g with
    | true=>simp [iI,aa] at h
    | false =>
     match cs,h with
     | [],h=>simp [iI,aa] at h
     | [rk],h =>
      simp only [iI] at h
      simp only [eV,VR] at h3
      obtain ⟨y,u,ko,kd,h,rfl,c1,c2,c3⟩:=Cw hm h3 h
      obtain ⟨ys,us,ko',kd',h,hp,d1,d2,d3⟩:=ih h4 h
      have:=more (x:=.one x) (xs:=xs) (ys:=[y]) (v:=v) (List.Perm.refl _) hp rfl c1 d1 c2 d2 (fun Us hU hd e j he=>by
       simp only [sY,em,RvR]
       exact c3 Us hU hd e j (by simpa using he 0 y rfl)) d3
      exact ⟨_,_,_,_,h,this⟩
     | _::_::_,h=>simp [iI,aa] at h
   | agg ls =>
    cases g with
    | false=>(match cs,h with | [],h=>simp [iI,aa] at h | [rk],h=>simp [iI,aa] at h | _::_::_,h=>simp [iI,aa] at h)
    | true =>
     simp only [iI] at h
     simp only [eV,VR] at h3
     obtain ⟨as,rfl,hl3⟩:=h3
     obtain ⟨ys0,u,ko,kd,h,hp0,hlen,c1,c2,c3⟩:=yR hm hl3 h
     obtain ⟨ys,us,ko',kd',h,hp,d1,d2,d3⟩:=ih h4 h
     have:=more (x:=.agg ls) (xs:=xs) (ys:=ys0) (v:=.agg as) hp0 hp hlen c1 d1 c2 d2 (fun Us hU hd e j he=>by
      simp only [sY,RvR]
      exact ⟨as,rfl,c3 Us hU hd e j he⟩) d3
     exact ⟨_,_,_,_,h,this⟩
end
end
section
variable {P:Program} {Fn:Nat→List D→az} {FnD:D→List Sh→List D→az} {m0:Nat} {cfg:Cf3} {ob:Ur} {r:Nat×List Yr}
theorem rQ {vs:List cv} {j:Nat} {rs:RS}:∀ {l:List RS} {n:Nat},pS ob vs l n=some (j,rs)→∃ i,j=n+i∧l[i]?=some rs∧lM ob rs vs=true
 | [],n,h=>by cases h
 | x::l,n,h=>by
  simp only [pS] at h
  split at h
  ·rename_i hf;cases h;exact ⟨0,rfl,rfl,hf⟩
  ·obtain ⟨i,h1,h2,h3⟩:=rQ h;exact ⟨i+1,by omega,by simpa using h2,h3⟩
theorem q8:∀ {rs:List RK} {xs:List gx},tf ob rs xs=true→rs.length=xs.length
 | [],[],_=>rfl
 | [],_::_,h=>by cases h
 | _::_,[],h=>by cases h
 | r::rs,x::xs,h=>by simp only [tf,Js] at h;simp [q8 h.2]
theorem tg {e:List Yr}:∀ {cs:List RK} {ds:List D} {j:Nat},cs.all RK.isD=true→cs.length=ds.length→At e j (ds.map .d)→em e cs j=ds.map .d
 | [],[],j,_,_,_=>rfl
 | [],_::_,j,_,h,_=>by cases h
 | _::_,[],j,_,h,_=>by cases h
 | c::cs,d::ds,j,hd,hl,ha=>by
  simp only [T6,Js] at hd
  have ha':At e j ([.d d]++ds.map .d):=ha
  obtain ⟨a1,a2⟩:=ha'.append
  cases c with
  | d =>
   simp only [em,uK,K0]
   have a2':At e (j+1) (ds.map .d):=a2
   rw [tg hd.2 (by simpa using hl) a2']
   have:=a1 0 _ rfl
   simp only [Kq] at this
   simp [aa,this]
  | own _ _=>cases hd.1
  | om _=>cases hd.1
theorem te:∀ {rs:RS} {vs:List cv} {k:List Yr→az},lM ob rs vs=true→FQ rs=true→uH (aa Fn FnD m0) ob vs k=some r →
  ∃ ys rvs,(Q.mapM Gw (cI vs)).run (ai (aD ob))=some rvs∧k ys=some r∧∀ e j,At e j ys→dz e rs j=rvs
 | [],vs,k,hf,ha,h=>by
  cases vs with
  | nil=>simp only [uH] at h;exact ⟨[],[],by simp [cI,Q.mapM,Q.run],h,fun e j _=>rfl⟩
  | cons v vs=>cases hf
 | (g,cs)::rs,vs,k,hf,ha,h=>by
  simp only [FQ,T6,Js] at ha
  cases vs with
  | nil=>(cases g with | true=>cases hf | false=>(match cs,hf with | [],hf=>cases hf | [_],hf=>cases hf | _::_::_,hf=>cases hf))
  | cons v vs =>
   cases v with
   | tup ts=>(cases g with | true=>cases hf | false=>(match cs,hf with | [],hf=>cases hf | [_],hf=>cases hf | _::_::_,hf=>cases hf))
   | one x =>
    cases g with
    | true=>cases hf
    | false =>
     match cs,hf,ha with
     | [],hf,_=>cases hf
     | _::_::_,hf,_=>cases hf
     | [c],hf,ha =>
      simp only [lM,Js] at hf
      simp only [uH] at h
      obtain ⟨d,rd,h1,_,h⟩:=mv _ _ _ h
      obtain ⟨ys,rvs,h2,h3,h4⟩:=te hf.2 ha.2 h
      refine ⟨_,.one (.d d)::rvs,?_,h3,fun e j he=>?_⟩
      ·simp [cI,eV,Q.mapM,Gw,Q.run_bind,h1,h2,Q.run]
      ·have he':At e j ([.d d]++ys):=he
       obtain ⟨a1,a2⟩:=he'.append
       simp only [dz,List.length_singleton]
       rw [h4 e (j+1) a2]
       have:=tg (cs:=[c]) (ds:=[d]) (by simpa using ha.1) rfl (by simpa using a1)
       simp only [em,K0,Kb,Vg,Vi] at this
       simp only [sY,em,this]
   | agg ls =>
    cases g with
    | false=>(match cs,hf with | [],hf=>cases hf | [_],hf=>cases hf | _::_::_,hf=>cases hf)
    | true =>
     simp only [lM,Js] at hf
     simp only [uH] at h
     obtain ⟨ds,rd,h1,_,hl,h⟩:=j8 (f:=ci 4) (fun x k=>mv 4 x k) h
     obtain ⟨ys,rvs,h2,h3,h4⟩:=te hf.2 ha.2 h
     refine ⟨_,.agg (ds.map .d)::rvs,?_,h3,fun e j he=>?_⟩
     ·simp [cI,eV,Q.mapM,Gw,Q.run_bind,h1,h2,Q.run]
     ·obtain ⟨a1,a2⟩:=he.append
      have hlen:cs.length=ds.length:=by rw [q8 hf.1,hl]
      simp only [dz]
      rw [show cs.length=(ds.map Y.d:List Yr).length by simpa using hlen,h4 e _ a2]
      simp only [sY,tg ha.1 hlen a1]
theorem ua:∀ {sh:List Sh} {xs:List D} {vs:List cv} {vds:List VD},ne sh xs=some vs→fp sh xs=some vds→cI vs=vds.map ED
 | [],[],vs,vds,h1,h2=>by simp only [ne,fp,Jr] at h1 h2;subst h1 h2;rfl
 | [],_::_,vs,vds,h1,h2=>by cases h1
 | .one::sh,[],vs,vds,h1,h2=>by cases h1
 | .one::sh,x::xs,vs,vds,h1,h2=>by
  simp only [ne] at h1
  split at h1
  ·rename_i vs' hv
   cases h1
   simp only [fp,K6] at h2
   obtain ⟨vd,h3,rfl⟩:=h2
   simp [cI,eV,eL,ED,ua hv h3]
  ·cases h1
 | .agg n::sh,xs,vs,vds,h1,h2=>by
  simp only [ne] at h1
  simp only [fp] at h2
  split at h1
  ·rename_i hn
   rw [K9 hn] at h2
   split at h1
   ·rename_i vs' hv
    cases h1
    simp only [K6] at h2
    obtain ⟨vd,h3,rfl⟩:=h2
    simp [cI,eV,bj,eL,ED,ua hv h3,T3]
   ·cases h1
  ·cases h1
 | .ptr n::sh,xs,vs,vds,h1,h2=>by
  simp only [ne] at h1
  simp only [fp] at h2
  split at h1
  ·rename_i hn
   rw [K9 hn] at h2
   split at h1
   ·rename_i vs' hv
    cases h1
    simp only [K6] at h2
    obtain ⟨vd,h3,rfl⟩:=h2
    simp [cI,eV,eL,ED,ua hv h3]
   ·cases h1
  ·cases h1
structure Tb3 where
 inl:Nat→Bool
 draw:Nat→Nat→List (Nat×Nat)
 lp:Nat→Nat→Nat→List (Sk×List Sk×List (Ex×Sk))
 jn:Nat→Nat→Nat→Option (List (Sk×List (Ex×Sk)))
 gj:Nat→Nat→Nat→Option (Nat×List (Sk×List (Ex×Sk)))
 ash:Nat→Option (List Sh)
 rsk:Nat→List RS
 iv:String→Nat
 ms:Nat→Option Ms
 sp:Nat→Option (Nat×Nat×Nat)
 cb:Nat→Nat→Bool
 fz:Nat→Nat→Nat→List (Option Nat×Nat)
 ar:Nat→Nat→Option Nat
 nz:Nat→Nat→Nat→List ((Option Nat×Nat)×(Nat×Nat×Nat))
def bd3 (T:Tb3) (P:Program) (f:Nat):Option Bd:=match P.funcs[f]? with
 | some fn=>if fn.name == "runtime.NumGoroutine" then none else match fn.body with
  | some c=>if cn (fun id _=>T.draw f id) c then some ⟨fn.ntmps,fn.results.toList,c⟩ else none
  | none=>none
 | none=>none
def inl3 (T:Tb3) (P:Program) (f:Nat):Option Bd:=match T.inl f with
 | true=>bd3 T P f
 | false=>none
def fm (T:Tb3) (P:Program):Cf3:=⟨inl3 T P,fun f id _=>T.draw f id,T.lp,T.jn,T.gj,fun f=>if f < 1000000 then T.ash f else none,T.rsk,T.iv,T.ms,T.sp,T.cb,T.fz,T.ar,T.nz⟩
theorem yo {T:Tb3} {f:Nat} {bd:Bd} (h:bd3 T P f=some bd):∃ fn,InlOK P (tcf (fm T P)) f bd fn:=by
 unfold bd3 at h
 split at h
 ·rename_i fn hfn
  split at h
  ·cases h
  ·rename_i hnm
   split at h
   ·rename_i c hc
    split at h
    ·rename_i hd
     cases h
     refine ⟨fn,hfn,hc,rfl,rfl,fun as w=>?_,hd⟩
     simp only [Bool.not_eq_true] at hnm
     have hne:¬ fn.name = "runtime.NumGoroutine" := fun e=>by rw [e] at hnm;simp at hnm
     simp [callFunc,hfn,hne,hc]
    ·cases h
   ·cases h
 ·cases h
theorem zC {T:Tb3}:∀ f bd,(fm T P).inl f=some bd→∃ fn,InlOK P (tcf (fm T P)) f bd fn:=by
 intro f bd h
 simp only [fm,inl3] at h
 split at h
 ·exact yo h
 ·cases h
def I5 {Δ N R W M E Ω:Type} (pr:Pr Δ N R W M E Ω) (T:Tb3) (P:Program) (fuel f:Nat) (ms:Ms) (xs:List Δ):Ω:=match AR ms with
 | false=>pr.fail
 | true=>match bd3 T P f with
  | none=>pr.fail
  | some bd=>fP pr id true ms.obs xs fun ob ys=>match iS pr id ob ms.args ys with
   | none=>pr.fail
   | some (vs,_) =>
    if vs.length≤bd.nt then cm pr (fm T P) P fuel ⟨f,0,bd.nt,true,e8 ob,false⟩ none 0 1 bd.code ⟨kf vs 0,ob,[],none⟩ (fun e st=>match e with
     | .exit _=>pr.fail
     | .normal=>iO pr P bd ob (Fq pr ms) st
     | .ret=>iO pr P bd ob (Fq pr ms) st) else pr.fail
def xZ {Δ N R W M E Ω:Type} (pr:Pr Δ N R W M E Ω) (T:Tb3) (P:Program) (fuel f:Nat) (args:List Δ):Ω:=if 1000000≤f then (match T.ms (f - 1000000) with
  | some ms=>I5 pr T P fuel (pY (f - 1000000)) ms args
  | none=>pr.fail) else match T.ash f with
 | none=>pr.fail
 | some sh=>match bd3 T P f with
  | none=>pr.fail
  | some bd=>match ne sh args with
   | none=>pr.fail
   | some vs=>if vs.length≤bd.nt then cm pr (fm T P) P fuel ⟨f,0,bd.nt,true,[],true⟩ none 0 1 bd.code ⟨kf vs 0,[],[],none⟩ (fin3 pr (fm T P) P f bd.res) else pr.fail
theorem tQ {T:Tb3} (hmix:P.follows .mixedOrders=true) (hF:mo P (fm T P) Fn) (hM:nj P (fm T P) Fn) (hS:rD P (fm T P)) {fuel f:Nat} {sh:List Sh} {xs:List D} {vds:List VD} {j:Nat} {ys:List Yr} {rs:RS}
  (h:xZ (dJ P (fm T P) Fn m0) T P fuel f xs=some (j,ys)) (hlt:f < 1000000) (hsh:T.ash f=some sh) (hvd:fp sh xs=some vds) (hrs:(T.rsk f)[j]?=some rs):SC P f vds (jh (dz ys rs 0)):=by
 unfold xZ at h
 rw [Kg (by omega),hsh] at h
 simp only at h
 split at h
 ·cases h
 rename_i bd hbd
 split at h
 ·cases h
 rename_i vs hvs
 split at h
 case isFalse=>cases h
 rename_i hlen
 obtain ⟨fn,hin⟩:=yo hbd
 refine ⟨hin.call,fun w U as hU hv=>?_⟩
 have hve:cI vs=vds.map ED:=ua hvs hvd
 have hlen2:=hv.len
 simp only [Mz] at hlen2
 have hm0:Mem w U (fun _=>⟨0,0,[]⟩) (ai []):=⟨hU,by intro _ _ h;simp [ai] at h,by intro _ _ _ _ h;simp [ai] at h,by intro _ _ h;simp [ai] at h⟩
 have henv:∀ (l:List VD) (i:Nat),ry (l.map ED) i=sC l i:=by
  intro l
  induction l with
  | nil=>intro i;rfl
  | cons x l ih=>intro i;simp only [K0,ry,sC,ih]
 have hl2:vds.length=vs.length:=by have:=congrArg List.length hve;simpa [pp] using this.symm
 have hs:cT ⟨w,U,fun _=>⟨0,0,[]⟩,ai []⟩ (fun _=>[]) ⟨f,0,bd.nt,true,[],true⟩ undef ⟨kf vs 0,[],[],none⟩ { tmps:=as++Array.replicate (fn.ntmps - as.size) undef,defers:=[] } w:=by
  refine ⟨U,fun _=>⟨0,0,[]⟩,[],hm0,Evo.refl _ _ _ _,fun p hp=>(by simp [yg] at hp),rfl,by simp,by simp,fun _=>rfl,by rw [hin.nt];simp;omega,fun t=>?_,fun t ht=>by cases ht⟩
  rw [pI]
  show VR w U (fun _=>⟨0,0,[]⟩) (ai []) (bg (bv (kf vs 0)) t) _
  rw [tZ,hve,henv]
  rcases vF (ι:=fun _=>⟨0,0,[]⟩) (ob:=ai []) (i:=0) hv t with h3 | h3
  ·simpa using h3
  ·rw [h3];simp only [VR,LR]
 have hwp:=oN hF hM hS zC hmix fuel (j,ys) ⟨f,0,bd.nt,true,[],true⟩ none 0 1 bd.code _ _ _ w ⟨w,U,fun _=>⟨0,0,[]⟩,ai []⟩ (fun _=>[]) undef none 0 hin.draws (fun k hk=>(hk rfl).elim) (fun _=>rfl) HdOK3.none' (fun h=>by cases h) h hs
 refine callsIn_wide.1 (show CallsIn (FW none) 0 P f as w _ from ?_)
 refine callsIn_of_wp_marks hin.hfn hin.body trivial (wpIn_mono hwp ?_)
 rintro e a w' ⟨x,st,rfl,hk,U',ι,ds,hm,he,hz,hdf,hnd,hds,hrg,hsz,hvr,_⟩
 have main:(ot (dJ P (fm T P) Fn m0) P st.ob st.env bd.res fun vs=>match pS st.ob vs ((fm T P).rsk f) 0 with
   | none=>(dJ P (fm T P) Fn m0).miss 3 f 0 0 [] x st (vs.map (GJ st.ob))
   | some (j,rs)=>match FQ rs with
    | true=>uH (dJ P (fm T P) Fn m0) st.ob vs fun ys=>(dJ P (fm T P) Fn m0).out j ys
    | false=>iI (dJ P (fm T P) Fn m0) st.ob rs vs fun ys ks=>if ii ks=true then (dJ P (fm T P) Fn m0).out j ys else (dJ P (fm T P) Fn m0).fail)=some (j,ys) →
   LeavesInM (FW none) 0 P fn a.tmps (Iv w U (jh (dz ys rs 0))) a.defers .returning w':=by
  intro hq
  rw [hdf]
  refine jU ds w' hm he (fun p hp=>hz p (by simp [hp])) hnd hds fun w'' hm he g3=>?_
  have hvr:∀ t,VR w'' U' ι (ai (aD st.ob)) (bg (bv st.env) t) (a.tmps.getD t undef):=fun t=>VR.keep g3 _ _ (hvr t)
  obtain ⟨rvs,h1,hq⟩:=mC hq
  obtain ⟨us,h2,h3⟩:=p9 (P:=P) hm hvr h1
  have hbelow:Below w.heap.size w w'':=⟨he.os,he.tape,he.output,he.size,fun b hb=>he.same b hb (by intro k o h;cases h)⟩
  have horig:∀ b,U' b→U b∨w.heap.size≤b:=fun b hb=>by
   rcases he.orig b hb with h | h | ⟨k,o,h,_⟩
   ·exact .inl h
   ·exact .inr h
   ·cases h
  have howned:∀ k o,ai (aD st.ob) k=some o→o.owned=true→w.heap.size≤(ι k).1:=fun k o hk ho=>by
   rcases he.ownd k o hk ho (ι k).1 (by simp [Pt.foot]) with h | ⟨k0,o0,h,_⟩
   ·exact h
   ·cases h
  refine ⟨ie us,lO (by rw [hin.res];exact h2),?_⟩
  split at hq
  ·cases hq
  ·rename_i j' rs' hfind
   obtain ⟨i,hi1,hi2,hfit⟩:=rQ hfind
   split at hq
   ·rename_i hall
    obtain ⟨ys',rvs',g1,g2,g4⟩:=te hfit hall hq
    simp only [aa,Jr,Ku] at g2
    obtain ⟨rfl,rfl⟩:=g2
    rw [K4] at hi1
    subst hi1
    have:rs'=rs:=by
     have hi2':(T.rsk f)[j']?=some rs':=hi2
     rw [hrs] at hi2';cases hi2';rfl
    subst this
    rw [g4 ys' 0 (At.self ys')]
    have:=Cg hm (Us:=fun b=>U' b∨(w.heap.size≤b∧b < w''.heap.size)) (fun b hb=>.inl hb) (fun k o hk=>by
     cases ho:o.owned with
     | true=>exact .inr ⟨howned k o hk ho,hm.block hk⟩
     | false=>exact .inl ((hm.obj k o hk).blk ho)) g1 h3
    refine ⟨ie us,fun b=>U' b∨(w.heap.size≤b∧b < w''.heap.size),[],rfl,hbelow,fun b hb=>.inl (he.sub b hb),?_,by simp,by simp,yZ this⟩
    rintro b (hb | hb)
    ·exact ⟨hm.lt b hb,horig b hb⟩
    ·exact ⟨hb.2,.inr hb.1⟩
   ·obtain ⟨ys',u,ko,kd,g1,g2,g3',g4,g5⟩:=EO hm h3 hq
    split at g1
    case isFalse=>cases g1
    rename_i hnod
    have hnod':=fN hnod
    have hnd2:(ko++kd).Nodup:=g2.nodup_iff.1 hnod'
    simp only [aa,Jr,Ku] at g1
    obtain ⟨rfl,rfl⟩:=g1
    rw [K4] at hi1
    subst hi1
    have:rs'=rs:=by
     have hi2':(T.rsk f)[j']?=some rs':=hi2
     rw [hrs] at hi2';cases hi2';rfl
    subst this
    let Us:Nat→Prop:=fun b=>U' b∨∃ q∈kd,(ι q).1=b
    have hUs:=g5 Us (fun b hb=>.inl hb) (fun q hq=>.inr ⟨q,hq,rfl⟩) ys' 0 (At.self ys')
    refine ⟨ie us,Us,ko.map fun q=>(ι q).1,rfl,hbelow,fun b hb=>.inl (he.sub b hb),?_,?_,?_,yZ hUs⟩
    ·rintro b (hb | ⟨q,hq,rfl⟩)
     ·exact ⟨hm.lt b hb,horig b hb⟩
     ·obtain ⟨o,ho⟩:=g4 q hq
      refine ⟨hm.block ho,?_⟩
      cases how:o.owned with
      | true=>exact .inr (howned q o ho how)
      | false=>exact horig _ ((hm.obj q o ho).blk how)
    ·have key:∀ {ks:List Nat},ks.Nodup→(∀ k∈ks,∃ o,ai (aD st.ob) k=some o∧o.owned=true)→(ks.map fun k=>(ι k).1).Nodup:=by
      intro ks
      induction ks with
      | nil=>intro _ _;simp
      | cons k ks ih =>
       intro hn ho
       simp only [Ml] at hn
       simp only [K0,Ml]
       refine ⟨?_,ih hn.2 fun k' hk'=>ho k' (by simp [hk'])⟩
       intro hmem
       obtain ⟨k',hk',heq⟩:=M5.1 hmem
       obtain ⟨o,h5,h6⟩:=ho k (by simp)
       obtain ⟨o',h7,h8⟩:=ho k' (by simp [hk'])
       exact hm.inj k k' o o' h5 h7 h6 h8 (fun e=>hn.1 (e ▸ hk')) (ι k).1 (by simp [Pt.foot]) (by rw [←heq];simp [Pt.foot])
     exact key (V5.1 hnd2).1 g3'
    ·intro b hb
     obtain ⟨k,hk,rfl⟩:=M5.1 hb
     obtain ⟨o,h5,h6⟩:=g3' k hk
     refine ⟨howned k o h5 h6,hm.block h5,?_⟩
     rintro (hb | ⟨q,hq,heq⟩)
     ·exact hm.notU h5 h6 hb
     ·obtain ⟨o',ho'⟩:=g4 q hq
      have hne:k≠q:=fun e=>(V5.1 hnd2).2.2 k hk q hq e
      cases how:o'.owned with
      | true=>exact hm.inj k q o o' h5 ho' h6 how hne (ι k).1 (by simp [Pt.foot]) (by rw [←heq];simp [Pt.foot])
      | false =>
       have:=(hm.obj q o' ho').blk how
       rw [heq] at this
       exact hm.notU h5 h6 this
 cases x with
 | normal=>exact main hk
 | ret=>exact main hk
 | exit id=>cases hk
mutual
theorem B0 {Fn:Nat→List D→az} {FnD:D→List Sh→List D→az} {m:Nat} {ρ:Nat→Nat}:∀ (s:L3 Unit Unit) (x:gx) (ys:List D),ce (aa Fn FnD m) ρ s x=some ys→ys.length=Ik s
 | .d _,x,ys,h=>by
  simp only [ce] at h
  split at h
  ·cases h;rfl
  ·cases h
 | .fn f cs,x,ys,h=>by
  cases x with
  | fn f' cs' =>
   simp only [ce] at h
   split at h
   ·simp only [Ik];exact kL cs cs' ys h
   ·cases h
  | _=>simp [ce] at h
 | .mk c,x,ys,h=>by
  cases x with
  | mk k =>
   simp only [ce] at h
   split at h
   ·cases h;rfl
   ·cases h
  | _=>simp [ce] at h
 | .ptr c o,x,ys,h=>by
  cases x with
  | ptr k o' =>
   simp only [ce] at h
   split at h
   ·cases h;rfl
   ·cases h
  | _=>simp [ce] at h
 | .dp q o,x,ys,h=>by
  cases x with
  | dp row o' =>
   simp only [ce] at h
   split at h
   ·rename_i e;cases h;exact e.1.symm
   ·cases h
  | _=>simp [ce] at h
 | .mq c,x,ys,h=>by
  cases x with
  | mq k =>
   simp only [ce] at h
   split at h
   ·cases h;rfl
   ·cases h
  | _=>simp [ce] at h
 | .slk c none _ _,x,ys,h=>by
  cases x with
  | slk k off n c' =>
   cases off with
   | none =>
    simp only [ce] at h
    split at h
    ·cases h;rfl
    ·cases h
   | some o=>simp [ce] at h
  | _=>simp [ce] at h
 | .b _,_,_,h | .i _ _,_,_,h | .nil,_,_,h | .slk _ (some _) _ _,_,_,h | .pa ..,_,_,h | .undef,_,_,h | .pb ..,_,_,h | .px ..,_,_,h | .np,_,_,h=>by simp [ce] at h
theorem kL {Fn:Nat→List D→az} {FnD:D→List Sh→List D→az} {m:Nat} {ρ:Nat→Nat}:∀ (ss:List (L3 Unit Unit)) (xs:List gx) (ys:List D),fA (aa Fn FnD m) ρ ss xs=some ys→ys.length=vN ss
 | [],[],ys,h=>by simp only [fA,Jr] at h;subst h;rfl
 | s::ss,x::xs,ys,h=>by
  simp only [fA] at h
  split at h
  ·rename_i a b ha hb
   cases h
   simp only [Kc,vN,B0 s x a ha,kL ss xs b hb]
  ·cases h
 | [],_::_,_,h=>by simp [fA] at h
 | _::_,[],_,h=>by simp [fA] at h
end
theorem xM {Fn:Nat→List D→az} {FnD:D→List Sh→List D→az} {m:Nat} {ρ:Nat→Nat} {ob:Ur} {wn:Bool}:∀ {os:List (Nat×O3 Unit Unit Unit Unit)} {ys:List D},cK (aa Fn FnD m) ρ ob wn os=some ys→ys.length=n9 os:=by
 intro os
 induction os with
 | nil=>intro ys h;simp only [cK,Jr] at h;subst h;rfl
 | cons p os ih =>
  intro ys h
  obtain ⟨c,o⟩:=p
  cases o with
  | box cells e =>
   simp only [cK] at h
   split at h
   ·split at h
    ·split at h
     ·rename_i a b ha hb
      cases h
      simp only [Kc,n9,kL _ _ _ ha,ih hb]
     ·cases h
    ·cases h
   ·cases h
  | arr rows s e o =>
   simp only [cK] at h
   split at h
   ·split at h
    ·split at h
     ·rename_i b hb
      cases h
      simp only [Jy,n9,ih hb];omega
     ·cases h
    ·cases h
   ·cases h
  | mp g mm o =>
   cases o with
   | false=>simp [cK] at h
   | true =>
    simp only [cK] at h
    split at h
    ·split at h
     ·split at h
      ·rename_i b hb
       cases h
       simp only [Jy,n9,ih hb];omega
      ·cases h
     ·cases h
    ·cases h
  | ml keys vals=>simp [cK] at h
  | arn rows s e o=>simp [cK] at h
  | am keys rows size =>
   simp only [cK] at h
   split at h
   ·split at h
    ·split at h
     ·rename_i b hb
      cases h
      simp only [Jy,n9,ih hb];omega
     ·cases h
    ·cases h
   ·cases h
theorem Cl {res:Option (Bool×Nat)} {v:cv} {cs:List gx} (h:Cm res v=some cs):cs.length=xr res∧∀ {w:World} {U:Nat→Prop} {ι:Pl} {ob:Ob} {vv:Value},VR w U ι ob (eV v) vv →
  ∃ cells,LF w U ι ob (bV cs) cells∧∀ {U2:Nat→Prop} {ι2:Pl} {ob2:Ob} {ds:List D} {e:Nat→D},(∀ i,i < ds.length→ds[i]?=some (e i))→ds.length=cs.length→FR w U2 ds cells→VR w U2 ι2 ob2 (eV (kA (N:=Nat) e res)) vv:=by
 unfold Cm at h
 split at h
 ·cases h
  exact ⟨rfl,fun hv=>⟨[],by simp [bV,LF],fun _ _ _=>by simpa only [kA,eV,cI,VR,VF] using hv⟩⟩
 ·rename_i x
  cases h
  refine ⟨rfl,fun {w U ι ob vv} hv=>?_⟩
  simp only [eV,VR] at hv
  refine ⟨[vv],by simp only [bV,LF];exact ⟨vv,[],rfl,hv,rfl⟩,fun {U2 ι2 ob2 ds e} he hl hf=>?_⟩
  match ds,hl,he with
  | [d],_,he =>
   have e0:d=e 0:=by simpa using he 0 (by simp)
   simp only [FR] at hf
   obtain ⟨v1,vs1,e1,h1,_⟩:=hf
   cases e1
   simp only [kA,eV,eL,VR,LR]
   rw [←e0];exact h1
 ·rename_i n xs
  split at h
  ·rename_i hn
   cases h
   refine ⟨hn,fun {w U ι ob vv} hv=>?_⟩
   simp only [eV,VR] at hv
   obtain ⟨cells,rfl,hv⟩:=hv
   refine ⟨cells.toList,hv,fun {U2 ι2 ob2 ds e} he hl hf=>?_⟩
   simp only [kA,eV,VR]
   refine ⟨cells,rfl,?_⟩
   have e1:bV ((List.range n).map fun i=>L3.d (e i))=((List.range n).map e).map L.d:=by rw [bj,Mn,Mn];rfl
   have e2:(List.range n).map e=ds:=by
    apply Mp
    intro i
    rw [Kn]
    by_cases hi:i < n
    ·rw [T0 hi]
     exact (he i (by omega)).symm
    ·rw [Kx (by simpa using hi),Kx (by omega)];rfl
   rw [e1,e2]
   exact kz hf
  ·cases h
 ·cases h
theorem Fm {T:Tb3} {Fn:Nat→List D→az} {m0:Nat} (hmix:P.follows .mixedOrders=true) (hF:mo P (fm T P) Fn) (hM:nj P (fm T P) Fn) (hS:rD P (fm T P)) {fuel f:Nat} {ms:Ms} {xs:List D} {zs:List Yr}
  (h:I5 (dJ P (fm T P) Fn m0) T P fuel f ms xs=some (0,zs)):MC P f ms xs zs:=by
 unfold I5 at h
 split at h
 ·cases h
 rename_i hok
 split at h
 ·cases h
 rename_i bd hbd
 obtain ⟨o1,ys,ho1,h⟩:=sB h
 split at h
 ·cases h
 rename_i vs rest hvs
 rw [mj] at hvs
 obtain ⟨fn,hin⟩:=yo hbd
 obtain ⟨hC,hCa,hCo⟩:=ze hok
 obtain ⟨hcall,hrun⟩:=zB (kk:=Fq (dJ P (fm T P) Fn m0) ms) (oN hF hM hS zC hmix fuel) hin h
 refine ⟨hcall,fun vs' ys' rest' o1' h2 h1 m w U ι as hm hv=>?_⟩
 rw [ho1] at h2
 simp only [Jr,Ku] at h2
 obtain ⟨rfl,rfl⟩:=h2
 rw [hvs] at h1
 simp only [Jr,Ku] at h1
 obtain ⟨rfl,rfl⟩:=h1
 refine CallsIn.mono (hrun m w U ι as hm hv) ?_
 rintro e w' ⟨v,vv,ob',U',ι',he,hk,m1,m2,m3⟩
 have core:∀ (cs:List gx) (cells:List Value),LF w' U' ι' (ai (aD ob')) (bV cs) cells→cs.length=xr ms.res →
   Ib (dJ P (fm T P) Fn m0) ms ob' cs=some (0,zs) →
   ∃ o2 U2 ds us,bm id ms.wn ms.obs ((List.range (n9 ms.obs)).map fun i=>Fb zs (xr ms.res+i))=some (o2,[])∧Mem w' U2 ι' (ai (aD o2))∧Evo w U ι (ai (aD o1)) w' U2 ι' (ai (aD o2))∧FR w' U2 ds cells∧ds.length=cs.length ∧
    (∀ i,i < ds.length→ds[i]?=some (Fb zs i))∧(cs=[]→us=[])∧∀ c∈ms.obs.map (·.1),ai (aD o2) c=b9 (ai (aD ob')) us c:=by
  intro cs cells hcl hlen hk
  unfold Ib at hk
  obtain ⟨ds,us,rd,h1,_,hk⟩:=jo hk
  split at hk
  case h_2=>cases hk
  rename_i ys2 hys
  simp only [aa,Jr,Ku,Tp] at hk
  subst hk
  obtain ⟨o2,ho2,hmate⟩:=sq (τ:=id) (σ:=id) hys (fun p hp=>⟨rfl,fun c hc=>rfl⟩) (by simpa using hC) []
  rw [Kj] at ho2
  have hlen2:ys2.length=n9 ms.obs:=xM hys
  have hobf:ai (aD (cD us ob'))=b9 (ai (aD ob')) (aD us):=by rw [fR,cL]
  obtain ⟨U2,n1,n2,n3,_⟩:=iP h1 (SameBut.refl _) m1 hcl
  have hdl:ds.length=cs.length:=by
   have e1:=n3.len
   have e2:=hcl.len
   rw [co] at e2
   omega
  have hld:∀ i,i < ds.length→ds[i]?=some (Fb ((ds++ys2).map Y.d) i):=by
   intro i hi
   have:((ds++ys2).map Y.d)[i]?=some (Y.d ds[i]:Yr):=by
    rw [Kn,Mb hi,Jz hi];rfl
   unfold Fb
   rw [this]
   simp [Jz hi]
  have hlist:((List.range (n9 ms.obs)).map fun i=>Fb ((ds++ys2).map Y.d) (xr ms.res+i))=ys2:=by
   apply Mp
   intro i
   rw [Kn]
   by_cases hi:i < n9 ms.obs
   ·rw [T0 hi]
    have:i < ys2.length:=by omega
    simp [Fb,← hlen,← hdl,T8,Jz this]
   ·rw [Kx (by simpa using hi),Kx (by omega)];rfl
  have mate:∀ c∈ms.obs.map (·.1),∃ oa,ai (aD (cD us ob')) c=some oa∧ai (aD o2) c=some oa∧∀ k∈oa.keysOf,k∈ms.obs.map (·.1):=fun c hc=>by
   obtain ⟨p,hp,rfl⟩:=M5.1 hc
   obtain ⟨oa,ob2,e1,e2,e3,_⟩:=hmate p hp
   have:=e3.eq
   rw [O.ren_id] at this
   rw [this] at e2
   refine ⟨oa,e1,e2,fun k hk=>?_⟩
   obtain ⟨d,d1,rfl⟩:=e3.keys k hk
   exact hCo p hp d d1
  have hdom:∀ k o,ai (aD o2) k=some o→k∈ms.obs.map (·.1):=fun k o hk=>by
   have:=mM hk
   rw [ip ho2,List.map_id] at this
   exact this
  have hdom1:∀ k o,ai (aD o1) k=some o→k∈ms.obs.map (·.1):=fun k o hk=>by
   have:=mM hk
   rw [ip ho1,List.map_id] at this
   exact this
  have hsub:∀ k,ai (aD o2) k=b9 (ai (aD ob')) (aD us) k∨ai (aD o2) k=none:=fun k=>by
   cases hk:ai (aD o2) k with
   | none=>exact .inr rfl
   | some o =>
    obtain ⟨oa,e1,e2,_⟩:=mate k (hdom k o hk)
    rw [hk] at e2
    cases e2
    rw [hobf] at e1
    exact .inl e1.symm
  have hshut:∀ k o,ai (aD o2) k=some o→∀ j∈o.keysOf,ai (aD o2) j=b9 (ai (aD ob')) (aD us) j:=fun k o hk j hj=>by
   obtain ⟨oa,e1,e2,e3⟩:=mate k (hdom k o hk)
   rw [hk] at e2
   cases e2
   obtain ⟨oj,g1,g2,_⟩:=mate j (e3 j hj)
   rw [hobf] at g1
   rw [g1,g2]
  refine ⟨o2,U2,ds,aD us,by rw [hlist];exact ho2,n1.sub hsub hshut,?_,n3,hdl,hld,fun e=>?_,fun c hc=>?_⟩
  ·refine Evo.subO (B:=⟨w,U,ι,ai (aD o1)⟩) (m2.trans n2) hsub fun k hk=>?_
   cases ho:ai (aD o1) k with
   | none=>exact absurd ho hk
   | some o =>
    obtain ⟨oa,e1,e2,_⟩:=mate k (hdom1 k o ho)
    rw [hobf] at e1
    rw [e1,e2]
  ·subst e
   simp only [bV,e9,Q.run,Jr,Ku] at h1
   exact h1.2.symm
  ·obtain ⟨oa,e1,e2,_⟩:=mate c hc
   rw [hobf] at e1
   rw [e1,e2]
 unfold Fq DD at hk
 split at hk
 ·rename_i href
  split at hk
  ·cases hk
  rename_i cs hcs
  obtain ⟨hlen,hres⟩:=Cl hcs
  obtain ⟨cells,hcl,hres⟩:=hres m3
  obtain ⟨o2,U2,ds,us,g1,g2,g3,g4,g5,g6,_⟩:=core cs cells hcl hlen hk
  refine ⟨vv,o2,[],U2,ι',he,g1,g2,g3,?_⟩
  unfold rY
  rw [href]
  exact hres g6 g5 g4
 ·rename_i c href
  split at hk
  ·rename_i key n mm
   split at hk
   ·rename_i hcond
    obtain ⟨rfl,hnone,hmem⟩:=hcond
    split at hk
    ·rename_i rows size elem own hob
     obtain ⟨hn,hk⟩:=b6 hk
     obtain ⟨hmm,hk⟩:=b6 hk
     obtain ⟨o2,U2,ds,us,g1,g2,g3,_,_,_,g7,g8⟩:=core [] [] (by simp [bV,LF]) (by rw [hnone];rfl) hk
     refine ⟨vv,o2,[],U2,ι',he,g1,g2,g3,?_⟩
     have hk2:=g8 key (by simpa using hmem)
     rw [g7 rfl] at hk2
     simp only [b9] at hk2
     rw [aq,aq,hob] at hk2
     obtain ⟨o3,e4,e5⟩:=Kr.1 hk2
     have ho3:o3=.arr rows size elem own:=nW (fun _ _ _ _=>mh g1 e4) e5
     have hn':n=rows.length:=hn
     have hmm':mm=rows.length:=hmm
     unfold rY
     rw [href]
     simp only [id,e4,ho3,eV,eL,VR,LR] at m3 ⊢
     obtain ⟨rows2,size2,elem2,own2,q1,q2,q3,q4⟩:=m3
     rw [aq,hob] at q1
     cases q1
     rw [hn',hmm'] at q3
     rw [hn'] at q4
     exact ⟨rows,size,elem,own,by rw [aq,e4,ho3];rfl,Ko _,q3,q4⟩
    ·cases hk
   ·cases hk
  ·cases hk
def Jh (T:Tb3) (P:Program) (m0 fuel:Nat):Nat→Nat→List D→az
 | 0=>fun _ _=>none
 | n+1=>fun f xs=>xZ (dJ P (fm T P) (Jh T P m0 fuel n) m0) T P fuel f xs
theorem re {T:Tb3} (hmix:P.follows .mixedOrders=true) (hS:rD P (fm T P)) {m0 fuel:Nat}:∀ n,mo P (fm T P) (Jh T P m0 fuel n)∧nj P (fm T P) (Jh T P m0 fuel n)
 | 0=>⟨fun f sh xs vs j ys rs _ _ h _=>(by cases h),fun f ms xs zs _ h=>(by cases h)⟩
 | n+1=>by
  obtain ⟨h1,h2⟩:=re hmix hS n
  refine ⟨fun f sh xs vs j ys rs hsh hvd h hrs=>?_,fun f ms xs zs hms h=>Fm hmix h1 h2 hS (fuel:=fuel) (m0:=m0) ?_⟩
  ·have hsh':(if f < 1000000 then T.ash f else none)=some sh:=hsh
   split at hsh'
   ·rename_i hlt
    exact tQ hmix h1 h2 hS h hlt hsh' hvd hrs
   ·cases hsh'
  ·have h':xZ (dJ P (fm T P) (Jh T P m0 fuel n) m0) T P fuel (f+1000000) xs=some (0,zs):=h
   unfold xZ at h'
   rw [K9 (by omega),Nat.add_sub_cancel,show T.ms f=some ms from hms] at h'
   exact h'
theorem yy {T:Tb3} (hmix:P.follows .mixedOrders=true) (hS:rD P (fm T P)) {m0 fuel:Nat} (n:Nat):mo P (fm T P) (Jh T P m0 fuel n):=(re hmix hS n).1
theorem Am {T:Tb3} (hmix:P.follows .mixedOrders=true) (hS:rD P (fm T P)) {m0 fuel:Nat} (n:Nat):nj P (fm T P) (Jh T P m0 fuel n):=(re hmix hS n).2
end
section
def il (n:Int):D:=.lit (.int .i64 n)
def bl (b:Bool):D:=.lit (.bool b)
section
variable {Fn:Nat→List D→az} {FnD:D→List Sh→List D→az} {m:Nat}
theorem HC:(aa Fn FnD m).fail=none:=rfl
theorem au (j:Nat) (ys:List Yr):(aa Fn FnD m).out j ys=some (j,ys):=rfl
theorem r_bnd (j:Nat) (ys:List Yr) (ks:List (List Yr→az)):(aa Fn FnD m).bnd (some (j,ys)) ks=match ks[j]? with | some k=>k ys | none=>none:=rfl
theorem ab (ys:List Yr) (k:List Yr→az) (ks:List (List Yr→az)):(aa Fn FnD m).bnd (some (0,ys)) (k::ks)=k ys:=rfl
theorem bH (ys:List Yr) (k0 k:List Yr→az) (ks:List (List Yr→az)):(aa Fn FnD m).bnd (some (1,ys)) (k0::k::ks)=k ys:=rfl
theorem CE (ys:List Yr) (k0 k1 k:List Yr→az) (ks:List (List Yr→az)):(aa Fn FnD m).bnd (some (2,ys)) (k0::k1::k::ks)=k ys:=rfl
theorem HG (ys:List Yr) (k0 k1 k2 k:List Yr→az) (ks:List (List Yr→az)):(aa Fn FnD m).bnd (some (3,ys)) (k0::k1::k2::k::ks)=k ys:=rfl
theorem HF (ks:List (List Yr→az)):(aa Fn FnD m).bnd none ks=none:=rfl
theorem l6 (c:Prop) [Decidable c] (a b:az) (ks:List (List Yr→az)):(aa Fn FnD m).bnd (if c then a else b) ks=if c then (aa Fn FnD m).bnd a ks else (aa Fn FnD m).bnd b ks:=by split<;>rfl
theorem bf (bs:List ((Nat→List Yr→az)→List Yr→az)) (j:Nat) (ys:List Yr):(aa Fn FnD m).loop bs j ys=bh bs m j ys:=rfl
theorem an (f:Nat) (xs:List D):(aa Fn FnD m).call f xs=Fn f xs:=rfl
theorem yV (x:D) (sh:List Sh) (xs:List D):(aa Fn FnD m).callD x sh xs=FnD x sh xs:=rfl
theorem ac (b:Bool) (x y:az):(aa Fn FnD m).cond (bl b) x y=if b=true then x else y:=by cases b<;>rfl
theorem ae (x:D) (e:List Yr):(aa Fn FnD m).ld (.d x::e) 0=x:=rfl
theorem aj (y:Yr) (e:List Yr) (j:Nat):(aa Fn FnD m).ld (y::e) (j+1)=(aa Fn FnD m).ld e j:=by simp [aa]
theorem aw (x:Nat) (e:List Yr):(aa Fn FnD m).ln (.n x::e) 0=x:=rfl
theorem ax (y:Yr) (e:List Yr) (j:Nat):(aa Fn FnD m).ln (y::e) (j+1)=(aa Fn FnD m).ln e j:=by simp [aa]
theorem av (x:Rr) (e:List Yr):(aa Fn FnD m).lr (.r x::e) 0=x:=rfl
theorem aA (y:Yr) (e:List Yr) (j:Nat):(aa Fn FnD m).lr (y::e) (j+1)=(aa Fn FnD m).lr e j:=by simp [aa]
theorem aP (x:Mr) (e:List Yr):(aa Fn FnD m).lm (.m x::e) 0=x:=rfl
theorem aU (y:Yr) (e:List Yr) (j:Nat):(aa Fn FnD m).lm (y::e) (j+1)=(aa Fn FnD m).lm e j:=by simp [aa]
theorem ah (n:Int):(aa Fn FnD m).lit (.int .i64 n)=il n:=rfl
theorem b8 (b:Bool):(aa Fn FnD m).lit (.bool b)=bl b:=rfl
theorem dj (n:Nat):(aa Fn FnD m).natD n=il n:=rfl
theorem aC (n:Nat):(aa Fn FnD m).natN n=n:=rfl
theorem aH (a b:Nat):(aa Fn FnD m).addN a b=a+b:=rfl
theorem Hw (s:Nat):(aa Fn FnD m).slN s ([]:Rr)=.lit (.slice none 0 0):=rfl
theorem Hv (s:Nat) (a:List D) (r:Rr):(aa Fn FnD m).slN s (a::r:Rr)=.sl s (a::r):=rfl
theorem dt (s:Nat) (r:Rr):(aa Fn FnD m).slD s r=.sl s r:=rfl
theorem r_dpD (l:List D) (o:Nat):(aa Fn FnD m).dpD l o=.dp l o:=rfl
def Ed (s:Nat):Option Rr→D
 | none=>.lit (.slice none 0 0)
 | some rows=>.sl s rows
theorem yU (s:Nat) (o:Option Rr) (k:D→az):(aa Fn FnD m).lenD (Ed s o) k=k (il (o.getD []).length):=by cases o<;>rfl
theorem uN (s:Nat) (o:Option Rr) (k:Rr→az):(aa Fn FnD m).rowsD s (Ed s o) k=k (o.getD []):=by cases o<;>simp [aa,Ed,jL]
theorem yT (s:Nat) (o:Option Rr) (a b:az):(aa Fn FnD m).nilE (Ed s o) a b=if o.isNone=true then a else b:=by cases o<;>rfl
theorem EW (a b:az):(aa Fn FnD m).nilE (.lit (.slice none 0 0)) a b=a:=rfl
theorem EV (s:Nat) (rows:Rr) (a b:az):(aa Fn FnD m).nilE (.sl s rows) a b=b:=rfl
theorem r_fnD (f:Nat) (l:List D):(aa Fn FnD m).fnD f l=.fn f l:=rfl
theorem aQ (r:Rr):(aa Fn FnD m).len r=r.length:=rfl
theorem aO (r:Rr):(aa Fn FnD m).rows r=r:=rfl
theorem lS (n:Nat) (l:List D):(aa Fn FnD m).repl n l=List.replicate n l:=rfl
theorem bp (a b:Rr):(aa Fn FnD m).app a b=a++b:=rfl
theorem aN (r:Rr) (n:Nat):(aa Fn FnD m).seg r none n=r.take n:=rfl
theorem lR (r:Rr) (o n:Nat):(aa Fn FnD m).seg r (some o) n=(r.drop o).take n:=rfl
theorem Hx (r:Rr) (i:Nat) (l:List D):(aa Fn FnD m).setR r i l=r.set i l:=rfl
theorem oy:(aa Fn FnD m).emp=([],[]):=rfl
theorem F0 (x:D) (l:List D):(aa Fn FnD m).cell (x::l) 0=x:=rfl
theorem EZ (x:D) (l:List D) (j:Nat):(aa Fn FnD m).cell (x::l) (j+1)=(aa Fn FnD m).cell l j:=by simp [aa]
theorem aS (a b:Nat) (k:az):(aa Fn FnD m).eqN a b k=if a=b then k else none:=rfl
theorem cr (a b:Nat) (k:az):(aa Fn FnD m).leN a b k=if a≤b then k else none:=rfl
theorem EY (row:List D) (o:Nat) (k:az):(aa Fn FnD m).isPtr (.dp row o) k=k:=rfl
theorem Hy (k:az):(aa Fn FnD m).nilD (.lit (.slice none 0 0)) k=k:=rfl
theorem aB (b:Bool) (x y:Int) (k:D→az):(aa Fn FnD m).bin .lss b (il x) (il y) k=k (bl (decide (x < y))):=rfl
theorem ic (b:Bool) (x y:Int) (k:D→az):(aa Fn FnD m).bin .leq b (il x) (il y) k=k (bl (decide (x≤y))):=rfl
theorem bz (b:Bool) (x y:Int) (k:D→az):(aa Fn FnD m).bin .gtr b (il x) (il y) k=k (bl (decide (y < x))):=rfl
theorem ox (b:Bool) (x y:Int) (k:D→az):(aa Fn FnD m).bin .geq b (il x) (il y) k=k (bl (decide (y≤x))):=rfl
theorem ba (b:Bool) (x y:Int) (k:D→az):(aa Fn FnD m).bin .eql b (il x) (il y) k=k (bl (decide (x=y))):=rfl
theorem br (b:Bool) (x y:Int) (k:D→az):(aa Fn FnD m).bin .neq b (il x) (il y) k=k (bl (decide (x≠y))):=by simp [aa,iz,il,DP,oT,bl,bne,BEq.beq]
theorem e7 (x y:Bool) (k:D→az):(aa Fn FnD m).bin .eql true (bl x) (bl y) k=k (bl (x==y)):=rfl
theorem tn (x y:Bool) (k:D→az):(aa Fn FnD m).bin .neq true (bl x) (bl y) k=k (bl (x != y)):=rfl
theorem aF (b:Bool) (x y:Int) (k:D→az):(aa Fn FnD m).bin .add b (il x) (il y) k=k (il (IntKind.i64.wrap (x+y))):=rfl
theorem q9 (b:Bool) (x y:Int) (k:D→az):(aa Fn FnD m).bin .sub b (il x) (il y) k=k (il (IntKind.i64.wrap (x - y))):=rfl
theorem r_mul (b:Bool) (x y:Int) (k:D→az):(aa Fn FnD m).bin .mul b (il x) (il y) k=k (il (IntKind.i64.wrap (x*y))):=rfl
theorem eF (b:Bool) (x y:Int) (k:D→az) (h:y≠0):(aa Fn FnD m).bin .rem b (il x) (il y) k=k (il (x.tmod y)):=by simp [aa,iz,il,DP,oT,h]
theorem aJ (b:Bool) (k:D→az):(aa Fn FnD m).un .not (bl b) k=k (bl !b):=rfl
theorem r_neg (n:Int) (k:D→az):(aa Fn FnD m).un .neg (il n) k=k (il (IntKind.i64.wrap (0 - n))):=rfl
theorem r_mm (mx:Bool) (x y:Int) (k:D→az):(aa Fn FnD m).mm mx (il x) (il y) k=k (il (if mx then max x y else min x y)):=by simp [aa,mmD,il,oT]
theorem HB (s:Nat) (r:Rr) (k:D→az):(aa Fn FnD m).lenD (.sl s r) k=k (il r.length):=rfl
theorem HA (k:D→az):(aa Fn FnD m).lenD (.lit (.slice none 0 0)) k=k (il 0):=rfl
theorem fv (s:Nat) (r:Rr) (k:Rr→az):(aa Fn FnD m).rowsD s (.sl s r) k=k r:=by simp [aa,jL]
theorem ET (s:Nat) (k:Rr→az):(aa Fn FnD m).rowsD s (.lit (.slice none 0 0)) k=k []:=rfl
theorem Cx (a b:az):(aa Fn FnD m).isNil [] a b=a:=rfl
theorem cl (x:List D) (r:Rr) (a b:az):(aa Fn FnD m).isNil (x::r) a b=b:=rfl
theorem HE (s:Nat) (r:Rr) (l h:Option D) (zl zh:Option Int) (k:D→az) (h1:fK l=some zl) (h2:fK h=some zh) (hb:0≤zl.getD 0∧zl.getD 0≤zh.getD r.length∧zh.getD r.length≤r.length) :
  (aa Fn FnD m).cutD s (.sl s r) l h k=k (.sl s ((r.drop (zl.getD 0).toNat).take (zh.getD r.length - zl.getD 0).toNat)):=by
 simp only [aa,h1,h2,A6,Jv,K9 hb];rfl
theorem AJ (s:Nat) (r:Rr) (n:Int) (k:D→az) (h:0≤n∧n≤r.length):(aa Fn FnD m).cutD s (.sl s r) none (some (il n)) k=k (.sl s (r.take n.toNat)):=by
 rw [HE s r none (some (il n)) none (some n) k rfl rfl (by simpa using h)];simp
theorem qk (bs:List ((Nat→List Yr→az)→List Yr→az)) (n j:Nat) (ys:List Yr) (b:(Nat→List Yr→az)→List Yr→az) (h:bs[j]?=some b):bh bs (n+1) j ys=b (bh bs n) ys:=by simp [bh,h]
end
attribute [simp] EW EV yU uN yT EY cr Hy HC au r_bnd ab bH CE HG HF l6 bf an yV ac ae aj aw ax av aA aP aU ah b8 dj aC aH dt Hw Hv r_dpD r_fnD aQ aO lS bp aN lR Hx oy F0 EZ aS aB ic bz ox ba br e7 tn aF q9 r_mul aJ r_neg r_mm HB HA fv ET Cx cl
theorem cP {x:Int} (h1:-9223372036854775808≤x) (h2:x≤9223372036854775807):IntKind.i64.wrap x=x:=IntWalk.i64_in x ⟨h1,h2⟩
end
section
section
variable {Fn:Nat→List D→az} {FnD:D→List Sh→List D→az} {m:Nat}
theorem iN {σ:Type} (bs:List ((Nat→List Yr→az)→List Yr→az)) (en:σ→Nat×List Yr) (μ:σ→Nat) (I:σ→Prop) (res:σ→az)
  (step:∀ s (k:Nat→List Yr→az),I s→(∀ s',I s'→μ s' < μ s→k (en s').1 (en s').2=res s')→∃ b,bs[(en s).1]?=some b∧b k (en s).2=res s) :
  ∀ (n:Nat) (s:σ),I s→μ s < n→bh bs n (en s).1 (en s).2=res s
 | 0,s,_,h=>absurd h (by omega)
 | n+1,s,hI,h=>by
  obtain ⟨b,hb,hr⟩:=step s (bh bs n) hI fun s' hI' hm=>iN bs en μ I res step n s' hI' (by omega)
  rw [qk _ _ _ _ _ hb];exact hr
theorem dX {i n:Nat} (h:i < n) (hn:n≤4611686018427387904):IntKind.i64.wrap ((i:Int)+1)=(i:Int)+1:=cP (by omega) (by omega)
theorem aZ {α β:Type} (l:List α) (hl:l.length≤4611686018427387904) (body:(Nat→List Yr→az)→List Yr→az) (en:Nat→β→List Yr) (I:Nat→β→Prop) (spec:Nat→List α→β→az)
  (h0:∀ b k,I l.length b→body k (en l.length b)=spec l.length [] b)
  (h1:∀ i c r b k,l[i]?=some c→l.drop i=c::r→i < l.length→IntKind.i64.wrap ((i:Int)+1)=(i:Int)+1→I i b→(∀ b',I (i+1) b'→k 0 (en (i+1) b')=spec (i+1) r b')→body k (en i b)=spec i (c::r) b)
  (n:Nat) (b:β) (hI:I 0 b) (hn:l.length < n):bh [body] n 0 (en 0 b)=spec 0 l b:=by
 have:=iN (σ:=Nat×β) [body] (fun s=>(0,en s.1 s.2)) (fun s=>l.length - s.1) (fun s=>s.1≤l.length∧I s.1 s.2) (fun s=>spec s.1 (l.drop s.1) s.2) ?_ n (0,b) ⟨by simp,hI⟩ (by simpa using hn)
 ·simpa using this
 ·rintro ⟨i,b⟩ k ⟨hi,hI⟩ ih
  refine ⟨body,rfl,?_⟩
  by_cases h:i < l.length
  ·have hd:=Ti h
   simp only
   rw [hd]
   refine h1 i l[i] _ b k (by simp [h]) hd h (dX h hl) hI fun b' hI'=>?_
   exact ih (i+1,b') ⟨h,hI'⟩ (by simp only;omega)
  ·have:i=l.length:=by simp only at hi;omega
   subst this
   simp only [List.drop_length]
   exact h0 b k hI
theorem cc {n:Nat} (h:n≤4611686018427387904):n < 18446744073709551616:=by omega
theorem EU (s s':Nat) (r:Rr) (z:Int) (k:List D→az):(aa Fn FnD m).rowD s (.sl s' r) (il z) k=if s'=s∧0≤z then (match r[z.toNat]? with
   | some w=>if w.length=s then k w else none
   | none=>none) else none:=rfl
theorem CA (ng:Bool) (a b a' b':Int) (k:D→az):(aa Fn FnD m).eqs [true,true] ng [il a,il b] [il a',il b'] k=k (bl (if ng then !decide (a=a'∧b=b') else decide (a=a'∧b=b'))):=by
 have:cA [true,true] ([il a,il b].map .d) ([il a',il b'].map .d)=some (decide (a=a'∧b=b')):=by
  simp [cA,il,lF]
  by_cases h1:a=a'<;>by_cases h2:b=b'<;>simp [h1,h2]
 simp only [aa,this];rfl
theorem Cz (ng:Bool) (a b c a' b' c':Int) (k:D→az):(aa Fn FnD m).eqs [true,true,true] ng [il a,il b,il c] [il a',il b',il c'] k=k (bl (if ng then !decide (a=a'∧b=b'∧c=c') else decide (a=a'∧b=b'∧c=c'))):=by
 have:cA [true,true,true] ([il a,il b,il c].map .d) ([il a',il b',il c'].map .d)=some (decide (a=a'∧b=b'∧c=c')):=by
  simp [cA,il,lF]
  by_cases h1:a=a'<;>by_cases h2:b=b'<;>by_cases h3:c=c'<;>simp [h1,h2,h3]
 simp only [aa,this];rfl
theorem Cy (ng:Bool) (a b c d a' b' c' d':Int) (k:D→az):(aa Fn FnD m).eqs [true,true,true,true] ng [il a,il b,il c,il d] [il a',il b',il c',il d'] k=k (bl (if ng then !decide (a=a'∧b=b'∧c=c'∧d=d') else decide (a=a'∧b=b'∧c=c'∧d=d'))):=by
 have:cA [true,true,true,true] ([il a,il b,il c,il d].map .d) ([il a',il b',il c',il d'].map .d)=some (decide (a=a'∧b=b'∧c=c'∧d=d')):=by
  simp [cA,il,lF]
  by_cases h1:a=a'<;>by_cases h2:b=b'<;>by_cases h3:c=c'<;>by_cases h4:d=d'<;>simp [h1,h2,h3,h4]
 simp only [aa,this];rfl
end
attribute [simp] EU CA Cz Cy
end
section
section
variable {Fn:Nat→List D→az} {FnD:D→List Sh→List D→az} {m:Nat}
theorem dk (z:Int) (n:Nat) (k:Nat→az):(aa Fn FnD m).inx (il z) n k=if 0≤z∧z < n then k z.toNat else none:=rfl
theorem kC (s:Nat) (r:Rr) (i:Nat) (k:List D→az):(aa Fn FnD m).rowAt s r i k=match r[i]? with
  | some w=>if w.length=s then k w else none
  | none=>none:=rfl
theorem lT (bs:Nat) (n:Int) (k:Nat→az):(aa Fn FnD m).mkN bs (il n) (il n) k=if 0≤n∧bs*n≤140737488355328∧n≤9223372036854775807 then k n.toNat else none:=by simp [aa,il]
theorem aL (bs n:Nat) (k:az):(aa Fn FnD m).fits bs n k=if n*bs≤140737488355328∧n≤9223372036854775807 then k else none:=rfl
theorem fw:(aa Fn FnD m).lit (.slice none 0 0)=.lit (.slice none 0 0):=rfl
theorem pc (ys:List Yr) (k:az):(aa Fn FnD m).lits ys k=if ys.all oh=true then k else none:=rfl
theorem Hc (n:Int):oh (.d (il n))=true:=rfl
theorem EB (b:Bool):oh (.d (bl b))=true:=rfl
end
attribute [simp] dk kC lT aL fw pc Hc EB
@[simp] theorem il_inj (a b:Int):il a=il b↔a=b:=by simp [il]
@[simp] theorem bl_inj (a b:Bool):bl a=bl b↔a=b:=by simp [bl]
section
variable {Fn:Nat→List D→az} {FnD:D→List Sh→List D→az} {m:Nat}
theorem EX (kd:Nat) (zs:List Value) (mm:Mr) (key:D) (k:List D→D→az):(aa Fn FnD m).look kd zs mm key k=match va kd zs mm key with
  | some p=>k p.1 p.2
  | none=>none:=rfl
theorem uO (s:Nat) (o:Option Rr) (z:Int) (k:List D→az):(aa Fn FnD m).rowD s (Ed s o) (il z) k=if 0≤z then (match (o.getD [])[z.toNat]? with
   | some w=>if w.length=s then k w else none
   | none=>none) else none:=by
 cases o with
 | none=>simp [aa,Ed]
 | some r=>simp only [aa,Ed,il,Tp,M1];rfl
end
attribute [simp] EX uO
theorem getD_some {α:Type} {l:List α} {k:Nat} (d:α) (h:k < l.length):l[k]?=some (l.getD k d):=by simp [h]
theorem zj {σ:Type} (bs:List ((Nat→List Yr→az)→List Yr→az)) (en:σ→Nat×List Yr) (μ:σ→Nat) (I:σ→Prop) (Q:az→Prop)
  (step:∀ s (k:Nat→List Yr→az),I s→(∀ s',I s'→μ s' < μ s→Q (k (en s').1 (en s').2))→∃ b,bs[(en s).1]?=some b∧Q (b k (en s).2)) :
  ∀ (n:Nat) (s:σ),I s→μ s < n→Q (bh bs n (en s).1 (en s).2)
 | 0,s,_,h=>absurd h (by omega)
 | n+1,s,hI,h=>by
  obtain ⟨b,hb,hr⟩:=step s (bh bs n) hI fun s' hI' hm=>zj bs en μ I Q step n s' hI' (by omega)
  rw [qk _ _ _ _ _ hb];exact hr
end
section
open Go.WideShapes Go.ChangeShapes
def iH (H:TypeId→List D→Prop):List TypeId→List D→Prop
 | [],ds=>ds=[]
 | t::ts,ds=>∃ a b,ds=a++b∧H t a∧iH H ts b
def HasT (P:Program):Nat→TypeId→List D→Prop
 | 0,_,_=>False
 | n+1,t,ds=>match P.underlying t with
  | some .bool=>∃ b,ds=[.lit (.bool b)]
  | some (.int k)=>∃ z,ds=[.lit (.int k z)]∧k.min≤z∧z≤k.max
  | some .string=>∃ s,ds=[.lit (.string s)]∧s.size≤maxLen
  | some (.slice e)=>∃ o:Option Rr,ds=[Ed (P.cellsOf e) o]∧(o.getD []).length*P.bytesOf e≤reachBytes∧∀ r∈o.getD [],HasT P n e r
  | some (.struct fs)=>iH (HasT P n) (fs.toList.map (·.type)) ds
  | some (.array k e)=>iH (HasT P n) (List.replicate k e) ds
  | _=>False
def um (P:Program) (ok:TypeId→Bool):List Field→Nat→Nat→Bool
 | [],o,e=>o==e
 | f::fs,o,e=>f.offset==o&&ok f.type&&um P ok fs (o+P.cellsOf f.type) e
def Ea (P:Program):Nat→TypeId→Bool
 | 0,_=>false
 | n+1,t=>match P.underlying t with
  | some .bool=>true
  | some (.int _)=>true
  | some .string=>true
  | some (.slice e)=>decide (0 < P.cellsOf e)&&Ea P n e
  | some (.struct fs)=>um P (Ea P n) fs.toList 0 (P.cellsOf t)
  | some (.array k e)=>decide (k*P.cellsOf e=P.cellsOf t)&&Ea P n e
  | _=>false
theorem mN {α β:Type} {f:α→Option β}:∀ {xs:List α} {ys:List β},xs.mapM f=some ys→ys.length=xs.length∧∀ (i:Nat) (x:α),xs[i]?=some x→∃ y,ys[i]?=some y∧f x=some y
 | [],ys,h=>by
  simp only [List.mapM_nil,Option.pure_def,Jr] at h;subst h;simp
 | x::xs,ys,h=>by
  simp only [V8,Option.bind_eq_bind,Option.pure_def,Kr,Jr] at h
  obtain ⟨y,hy,ys',hys,rfl⟩:=h
  obtain ⟨h1,h2⟩:=mN hys
  refine ⟨by simp [h1],?_⟩
  intro i z hi
  cases i with
  | zero=>simp at hi;subst hi;exact ⟨y,rfl,hy⟩
  | succ i=>simpa using h2 i z (by simpa using hi)
theorem yz {w:World} {U:Nat→Prop}:∀ {ds:List D} {vs:List Value},FR w U ds vs→ds.length=vs.length
 | [],vs,h=>by simp only [FR] at h;subst h;rfl
 | d::ds,vs,h=>by
  simp only [FR] at h
  obtain ⟨v,vs',rfl,_,h⟩:=h
  simp [yz h]
theorem yA {w:World} {U:Nat→Prop} {ds':List D} {vs':List Value} (h':FR w U ds' vs'):∀ {ds:List D} {vs:List Value},FR w U ds vs→FR w U (ds++ds') (vs++vs')
 | [],vs,h=>by simp only [FR] at h;subst h;simpa using h'
 | d::ds,vs,h=>by
  simp only [FR] at h
  obtain ⟨v,vs1,rfl,h1,h⟩:=h
  simp only [K2,FR]
  exact ⟨v,vs1++vs',rfl,h1,yA h' h⟩
theorem GT {w:World} {U:Nat→Prop}:∀ {ds:List D} {vs:List Value},FR w U ds vs→∀ (j:Nat) (x:D),ds[j]?=some x→∃ v,vs[j]?=some v∧DR w U x v
 | [],vs,h,j,x,hj=>by simp at hj
 | d::ds,vs,h,j,x,hj=>by
  simp only [FR] at h
  obtain ⟨v,vs1,rfl,h1,h⟩:=h
  cases j with
  | zero=>simp at hj;subst hj;exact ⟨v,rfl,h1⟩
  | succ j=>simpa using GT h j x (by simpa using hj)
theorem rl {w:World} {U:Nat→Prop} {x:D} {v:Value} (h:DR w U x v):FR w U [x] [v]:=by
 simp only [FR];exact ⟨v,[],rfl,h,rfl⟩
theorem FT (a:Addr) (i j:Nat):a.spot=none→(a.add i).add j=⟨a.block,a.off+(i+j),none⟩:=by
 intro h
 obtain ⟨b,o,s⟩:=a
 simp only at h;subst h
 unfold Addr.add
 by_cases hi:i=0<;>by_cases hj:j=0<;>simp [hi,hj]<;>omega
theorem sJ (a:Addr):a.add 0=a:=rfl
theorem FO {w:World} {a:Addr} {v:Value} (h:w.cell? a=some v):a.block < w.heap.size∧a.spot=none:=by
 unfold World.cell? at h
 cases hb:w.heap[a.block]? with
 | none=>rw [hb] at h;cases h
 | some o =>
  rw [hb] at h
  refine ⟨(Mi.1 hb).1,?_⟩
  cases o with
  | cells c t f =>
   simp only at h
   split at h
   ·cases h
   ·rename_i hs;simpa using hs
  | _=>cases h
variable {H:Type} {enc:TypeId×Value→H} {P:Program} {w:World}
theorem kw {e:TypeId}:∀ {es:List (DataW H)} {d:DataW H},d∈es→∀ x∈d.weights P e,x∈DataW.weightsAll P e es
 | [],d,h,x,hx=>by cases h
 | y::es,d,h,x,hx=>by
  simp only [DataW.weightsAll,Kp]
  rcases Ki.1 h with rfl | h
  ·exact .inl hx
  ·exact .inr (kw h x hx)
def FY (H:Type) (enc:TypeId×Value→H) (P:Program) (w:World) (n:Nat) (t:TypeId):Prop :=
 ∀ (m:Nat) (cs:List Value) (d:DataW H) (ps:List MemPlace),DataW.trod enc P w 0 (fun _=>true) true m t cs=some (d,ps)→(∀ x∈d.weights P t,x≤reachBytes) →
  ∃ ds,FR w (· < w.heap.size) ds cs∧HasT P n t ds
theorem s7 {n m:Nat} (hcell:∀ t,Ea P n t=true→FY H enc P w n t) {cs:List Value}:∀ {fs:List Field} {o e:Nat} {xs:List (DataW H×List MemPlace)},um P (Ea P n) fs o e=true →
  fs.mapM (fun f=>DataW.trod enc P w 0 (fun _=>true) true m f.type ((cs.drop f.offset).take (P.cellsOf f.type)))=some xs→(∀ x∈DataW.weightsEach P (fs.map (·.type)) (xs.map (·.1)),x≤reachBytes)→cs.length=e →
  ∃ ds,FR w (· < w.heap.size) ds (cs.drop o)∧iH (HasT P n) (fs.map (·.type)) ds
 | [],o,e,xs,ht,h,hw,hl=>by
  simp only [um,Tg] at ht
  refine ⟨[],?_,by simp [iH]⟩
  simp only [FR,List.drop_eq_nil_iff];omega
 | f::fs,o,e,xs,ht,h,hw,hl=>by
  simp only [um,Js,Tg] at ht
  simp only [V8,Option.bind_eq_bind,Option.pure_def,Kr,Jr] at h
  obtain ⟨⟨d,p⟩,hd,xs',hxs,rfl⟩:=h
  simp only [K0,DataW.weightsEach,Kp] at hw
  obtain ⟨ds,h2,h3⟩:=hcell f.type ht.1.2 m _ d p hd (fun x hx=>hw x (.inl hx))
  obtain ⟨ds',h4,h5⟩:=s7 hcell ht.2 hxs (fun x hx=>hw x (.inr hx)) hl
  refine ⟨ds++ds',?_,?_⟩
  ·have:=yA h4 h2
   rw [ht.1.1] at this
   have e2:List.take (P.cellsOf f.type) (List.drop o cs)++List.drop (o+P.cellsOf f.type) cs=List.drop o cs:=by
    rw [←List.drop_drop];exact Mt _ _
   rwa [e2] at this
  ·simp only [K0,iH]
   exact ⟨ds,ds',rfl,h3,h5⟩
theorem uJ {n m:Nat} {t:TypeId} (hcell:FY H enc P w n t):∀ {k i:Nat} {cs:List Value} {xs:List (DataW H×List MemPlace)},
  (List.range' i k).mapM (fun i=>DataW.trod enc P w 0 (fun _=>true) true m t ((cs.drop (i*P.cellsOf t)).take (P.cellsOf t)))=some xs→(∀ x∈DataW.weightsAll P t (xs.map (·.1)),x≤reachBytes)→cs.length=(i+k)*P.cellsOf t →
  ∃ ds,FR w (· < w.heap.size) ds (cs.drop (i*P.cellsOf t))∧iH (HasT P n) (List.replicate k t) ds
 | 0,i,cs,xs,h,hw,hl=>by
  refine ⟨[],?_,by simp [iH]⟩
  simp only [FR,List.drop_eq_nil_iff];rw [hl];simp
 | k+1,i,cs,xs,h,hw,hl=>by
  simp only [List.range'_succ,V8,Option.bind_eq_bind,Option.pure_def,Kr,Jr] at h
  obtain ⟨⟨d,p⟩,hd,xs',hxs,rfl⟩:=h
  simp only [K0,DataW.weightsAll,Kp] at hw
  obtain ⟨ds,h2,h3⟩:=hcell m _ d p hd (fun x hx=>hw x (.inl hx))
  obtain ⟨ds',h4,h5⟩:=uJ (k:=k) (i:=i+1) (cs:=cs) hcell hxs (fun x hx=>hw x (.inr hx)) (by rw [hl];congr 1;omega)
  refine ⟨ds++ds',?_,?_⟩
  ·have:=yA h4 h2
   have e2:List.take (P.cellsOf t) (List.drop (i*P.cellsOf t) cs)++List.drop ((i+1)*P.cellsOf t) cs=List.drop (i*P.cellsOf t) cs:=by
    rw [T4,Nat.one_mul,← List.drop_drop];exact Mt _ _
   rwa [e2] at this
  ·simp only [List.replicate_succ,iH]
   exact ⟨ds,ds',rfl,h3,h5⟩
theorem uI {b:Nat} {a:Addr} {n:Nat} {cs:List Value} (h:w.cells? b a n=some cs):cs.length=n∧∀ (j:Nat) (v:Value),cs[j]?=some v→w.cell? (a.add j)=some v:=by
 unfold World.cells? at h
 split at h
 case isFalse=>cases h
 obtain ⟨h1,h2⟩:=mN h
 simp only [Tm] at h1
 refine ⟨h1,fun j v hj=>?_⟩
 have hlt:j < n:=by
  have:=(Kv.1 hj).1;omega
 obtain ⟨y,hy,hc⟩:=h2 j j (by simp [hlt])
 rw [hj] at hy;cases hy;exact hc
theorem Cu {n m:Nat} {e:TypeId} (hcell:FY H enc P w n e) (hpos:0 < P.cellsOf e) {a:Addr} {len cap:Nat} {elems:List (DataW H×List MemPlace)}
  (h:(List.range len).mapM (fun i=>(w.cells? 0 (a.add (i*P.cellsOf e)) (P.cellsOf e)).bind (DataW.trod enc P w 0 (fun _=>true) true m e))=some elems) (hw:∀ x∈DataW.weightsAll P e (elems.map (·.1)),x≤reachBytes) (hlc:len≤cap) (hcm:cap≤maxLen) :
  ∃ rows:List (List D),rows.length=len∧DR w (· < w.heap.size) (.sl (P.cellsOf e) rows) (.slice (some a) len cap)∧∀ r∈rows,HasT P n e r:=by
 obtain ⟨h1,h2⟩:=mN h
 simp only [Tm] at h1
 have key:∀ i,i < len→∃ (ds:List D) (cs:List Value),w.cells? 0 (a.add (i*P.cellsOf e)) (P.cellsOf e)=some cs∧FR w (· < w.heap.size) ds cs∧HasT P n e ds:=by
  intro i hi
  obtain ⟨⟨d,p⟩,hy,hb⟩:=h2 i i (by simp [hi])
  obtain ⟨cs,hcs,hd⟩:=Kr.1 hb
  have hmem:d∈elems.map (·.1):=M5.2 ⟨(d,p),Ka hy,rfl⟩
  obtain ⟨ds,h3,h4⟩:=hcell m cs d p hd (fun x hx=>hw x (kw hmem x hx))
  exact ⟨ds,cs,hcs,h3,h4⟩
 let f:Nat→List D:=fun i=>if hi:i < len then Classical.choose (key i hi) else []
 have hf:∀ i (hi:i < len),∃ cs,w.cells? 0 (a.add (i*P.cellsOf e)) (P.cellsOf e)=some cs∧FR w (· < w.heap.size) (f i) cs∧HasT P n e (f i):=by
  intro i hi
  have:=Classical.choose_spec (key i hi)
  simp only [f,dif_pos hi]
  exact this
 refine ⟨(List.range len).map f,by simp,?_,?_⟩
 ·simp only [DR,K5,Tm]
  refine ⟨a,cap,rfl,hlc,hcm,fun hpos2=>?_⟩
  have hspot:a.block < w.heap.size∧a.spot=none:=by
   obtain ⟨cs,hcs,_,_⟩:=hf 0 hpos2
   obtain ⟨hl,hc⟩:=uI hcs
   have:∃ v,cs[0]?=some v:=⟨cs[0],by simp [show 0 < cs.length by omega]⟩
   obtain ⟨v,hv⟩:=this
   have:=FO (hc 0 v hv)
   rw [Nat.zero_mul,sJ,sJ] at this
   exact this
  obtain ⟨b,o,s⟩:=a
  simp only at hspot
  obtain ⟨hb,rfl⟩:=hspot
  refine ⟨b,o,rfl,hb,RR.mk fun i r hi=>?_⟩
  rw [Kn] at hi
  simp only [K6] at hi
  obtain ⟨i',hi',rfl⟩:=hi
  have hii:=Kv.1 hi'
  obtain ⟨hlt,hie⟩:=hii
  simp only [Tm] at hlt
  simp only [List.getElem_range] at hie
  subst hie
  obtain ⟨cs,hcs,h3,h4⟩:=hf i hlt
  obtain ⟨hl,hc⟩:=uI hcs
  refine ⟨by rw [yz h3,hl],CR.mk fun j x hj=>?_⟩
  obtain ⟨v,hv,hd⟩:=GT h3 j x hj
  have:=hc j v hv
  rw [FT _ _ _ rfl] at this
  exact ⟨v,by rw [←this];congr 2;simp only;omega,hd⟩
 ·intro r hr
  simp only [M5,Ts] at hr
  obtain ⟨i,hi,rfl⟩:=hr
  obtain ⟨_,_,_,h4⟩:=hf i hi
  exact h4
theorem rd:∀ (n:Nat) (t:TypeId),Ea P n t=true→FY H enc P w n t
 | 0,t,h=>by cases h
 | n+1,t,ht=>by
  intro m cs d ps h hw
  cases m with
  | zero=>simp [DataW.trod] at h
  | succ m =>
  unfold Ea at ht
  unfold DataW.trod at h
  unfold HasT
  split at h
  case h_1 hu =>
   simp only [Jr,Ku] at h
   obtain ⟨rfl,rfl⟩:=h
   rw [hu]
   exact ⟨_,rl (by simp only [DR,plain];exact ⟨rfl,trivial⟩),_,rfl⟩
  case h_2 k k' z hu =>
   split at h
   case isFalse=>cases h
   rename_i hk
   obtain ⟨rfl,hz⟩:=hk
   rw [hu]
   simp only [Lit.wf,Js,Ju] at hz
   exact ⟨_,rl (x:=.lit (.int _ z)) (by simp [DR,plain]),z,rfl,hz⟩
  case h_3 hu=>rw [hu] at ht;cases ht
  case h_4 s hu =>
   split at h
   case isFalse=>cases h
   rename_i hs
   rw [hu]
   exact ⟨_,rl (x:=.lit (.string s)) (by simp [DR,plain]),s,rfl,hs⟩
  case h_5 hu=>rw [hu] at ht;cases ht
  case h_6 hu=>rw [hu] at ht;cases ht
  case h_7 e hu =>
   rw [hu]
   exact ⟨[.lit (.slice none 0 0)],rl (x:=.lit (.slice none 0 0)) (by simp [DR,plain]),none,rfl,by simp,by simp⟩
  case h_8 e a len cap hu =>
   rw [hu] at ht
   simp only [Js,Ju] at ht
   simp only at h
   split at h
   case isFalse=>cases h
   rename_i hb
   simp only [Kr,K6,Ku] at h
   obtain ⟨elems,h1,rest,_,rfl,rfl⟩:=h
   simp only [DataW.weights,hu,Ki,Kp] at hw
   have hlen:=(mN h1).1
   simp only [Tm] at hlen
   obtain ⟨rows,h3,h4,h5⟩:=Cu (rd n e ht.2) ht.1 h1 (fun x hx=>hw x (.inr (.inl hx))) hb.2.1 hb.2.2
   rw [hu]
   refine ⟨[.sl (P.cellsOf e) rows],rl h4,some rows,rfl,?_,h5⟩
   simp only [M1]
   have:=hw _ (.inl rfl)
   simp only [K5] at this
   refine Tb (M9 _ ?_) this
   omega
  case h_9 fs hu =>
   rw [hu] at ht
   split at h
   case isFalse=>cases h
   rename_i hl
   simp only [K6,Ku] at h
   obtain ⟨xs,h1,rfl,rfl⟩:=h
   simp only [DataW.weights,hu] at hw
   rw [hu]
   have:=s7 (fun t ht=>rd n t ht) ht h1 hw hl
   simpa using this
  case h_10 k e hu =>
   rw [hu] at ht
   simp only [Js,Ju] at ht
   split at h
   case isFalse=>cases h
   rename_i hl
   simp only [K6,Ku] at h
   obtain ⟨xs,h1,rfl,rfl⟩:=h
   simp only [DataW.weights,hu] at hw
   rw [hu]
   rw [List.range_eq_range'] at h1
   have:=uJ (k:=k) (i:=0) (rd n e ht.2) h1 hw (by rw [hl,← ht.1];simp)
   simpa using this
  all_goals (rename_i hu;first | (rw [hu] at ht;cases ht;done) | (cases h;done))
end
section
open Go.WideShapes Go.ChangeShapes
def VT (P:Program) (n:Nat) (t:TypeId):VD→Prop
 | .one x=>HasT P n t [x]∧(match P.underlying t with | some (.struct _) | some (.array _ _)=>False | _=>True)
 | .agg xs=>HasT P n t xs∧(match P.underlying t with | some (.struct _) | some (.array _ _)=>True | _=>False)
def Eg (P:Program) (n:Nat):List TypeId→List VD→Prop
 | [],[]=>True
 | t::ts,v::vs=>VT P n t v∧Eg P n ts vs
 | _,_=>False
variable {H:Type} {enc:TypeId×Value→H} {P:Program} {w:World}
theorem tu {base:Nat} {t:TypeId} {v:Value} (hn:∀ d,P.underlying t=some d→(match d with | .struct _ | .array _ _=>False | _=>True)) (h:Value.okWide P w .any base t v):v.cells=#[v]:=by
 unfold Value.okWide at h
 cases hu:P.underlying t with
 | none =>
  rw [hu] at h
  simp only [Cell.okWide,hu,Cell.ok] at h
 | some d =>
  have hnd:=hn d hu
  rw [hu] at h
  cases v with
  | agg cs=>cases d<;>simp [Cell.okWide,hu,Cell.ok] at h hnd
  | _=>rfl
theorem rdV {n:Nat} {t:TypeId} (ht:Ea P n t=true) {base:Nat} {v:Value} {d:DataW H} {ps:List MemPlace} (hok:Value.okWide P w .any base t v) (h:DataW.Trod enc P w 0 (fun _=>true) true t v d ps) (hw:∀ x∈d.weights P t,x≤reachBytes) :
  ∃ vd,It w (· < w.heap.size) vd v∧VT P n t vd:=by
 obtain ⟨m,hm⟩:=h
 obtain ⟨ds,h1,h2⟩:=rd n t ht m _ d ps hm hw
 by_cases hagg:(match P.underlying t with | some (.struct _) | some (.array _ _)=>True | _=>False)
 ·have:∃ cs,v=.agg cs:=by
   unfold Value.okWide at hok
   split at hok
   ·obtain ⟨cs,h,_⟩:=hok;exact ⟨cs,h⟩
   ·obtain ⟨cs,h,_⟩:=hok;exact ⟨cs,h⟩
   ·rename_i h1 h2
    exfalso
    split at hagg
    ·rename_i fs hu;exact h1 fs hu
    ·rename_i a b hu;exact h2 a b hu
    ·exact hagg
  obtain ⟨cs,rfl⟩:=this
  exact ⟨.agg ds,⟨cs,rfl,h1⟩,h2,hagg⟩
 ·have hc:v.cells=#[v]:=tu (fun d hd=>by rw [hd] at hagg;cases d<;>simp at hagg ⊢) hok
  rw [hc] at h1
  simp only [] at h1
  have hl:=yz h1
  match ds,hl,h1,h2 with
  | [x],_,h1,h2 =>
   simp only [FR] at h1
   obtain ⟨v',vs',e,hd,_⟩:=h1
   simp only [Vg] at e
   obtain ⟨rfl,_⟩:=e
   refine ⟨.one x,hd,h2,?_⟩
   cases hu:P.underlying t with
   | none=>trivial
   | some d=>rw [hu] at hagg;cases d<;>simp at hagg ⊢
theorem rdVs {n:Nat} {base:Nat}:∀ {ts:List TypeId} {vs:List Value} {ds:List (DataW H)} {ps:List MemPlace},(∀ t∈ts,Ea P n t=true)→(∀ (j:Nat) t v,ts[j]?=some t→vs[j]?=some v→Value.okWide P w .any base t v) →
  DataW.TrodAll enc P w 0 (fun _=>true) true ts vs ds ps→(∀ x∈DataW.weightsEach P ts ds,x≤reachBytes)→ds.length=ts.length∧∃ vds,VDF w (· < w.heap.size) vds vs∧Eg P n ts vds
 | [],vs,ds,ps,ht,hok,h,hw=>by
  obtain ⟨rfl,rfl,rfl⟩:=trodAll_nil h
  exact ⟨rfl,[],by simp [VDF],trivial⟩
 | t::ts,vs,ds,ps,ht,hok,h,hw=>by
  obtain ⟨v,vs',d,ds',p,q,rfl,rfl,rfl,h1,h2⟩:=trodAll_cons h
  simp only [DataW.weightsEach,Kp] at hw
  obtain ⟨vd,h3,h4⟩:=rdV (ht t (by simp)) (hok 0 t v rfl rfl) h1 (fun x hx=>hw x (.inl hx))
  obtain ⟨h5,vds,h6,h7⟩:=rdVs (n:=n) (base:=base) (fun t ht'=>ht t (by simp [ht'])) (fun j t v hj hv=>hok (j+1) t v (by simpa using hj) (by simpa using hv)) h2 (fun x hx=>hw x (.inr hx))
  exact ⟨by simp [h5],vd::vds,by simp only [VDF];exact ⟨v,vs',rfl,h3,h6⟩,h4,h7⟩
theorem vX (hl:laidOutB P=true) {W W':World} (hb:Below W.heap.size W W'):∀ {ts:List TypeId} {vs:List Value} {ds:List (DataW H)} {ps:List MemPlace},(∀ t∈ts,P.readableRec t=true∧t < P.types.size) →
  DataW.TrodAll enc P W 0 (fun _=>true) true ts vs ds ps→(∀ p∈ps,p.block < W.heap.size)→DataW.TrodAll enc P W' 0 (fun b=>decide (b < W.heap.size)) true ts vs ds ps
 | [],vs,ds,ps,ht,h,hp=>by
  obtain ⟨rfl,rfl,rfl⟩:=trodAll_nil h
  exact trodAll_mk0
 | t::ts,vs,ds,ps,ht,h,hp=>by
  obtain ⟨v,vs',d,ds',p,q,rfl,rfl,rfl,h1,h2⟩:=trodAll_cons h
  exact ⟨p,q,Below.trod hl (ht t (by simp)).1 (ht t (by simp)).2 h1 hb (fun x hx=>hp x (by simp [hx])),vX hl hb (fun t ht'=>ht t (by simp [ht'])) h2 (fun x hx=>hp x (by simp [hx])),rfl⟩
theorem HasT.int {n:Nat} {t:TypeId} {k:IntKind} {ds:List D} (hu:P.underlying t=some (.int k)) (h:HasT P (n+1) t ds):∃ z,ds=[.lit (.int k z)]∧k.min≤z∧z≤k.max:=by
 unfold HasT at h;rw [hu] at h;exact h
theorem HasT.bool {n:Nat} {t:TypeId} {ds:List D} (hu:P.underlying t=some .bool) (h:HasT P (n+1) t ds):∃ b,ds=[bl b]:=by
 unfold HasT at h;rw [hu] at h;exact h
theorem HasT.sl {n:Nat} {t e:TypeId} {ds:List D} {c b:Nat} (hu:P.underlying t=some (.slice e)) (hc:P.cellsOf e=c) (hb:P.bytesOf e=b) (h:HasT P (n+1) t ds):∃ o:Option Rr,ds=[Ed c o]∧(o.getD []).length*b≤140737488351232∧∀ r∈o.getD [],HasT P n e r:=by
 unfold HasT at h;rw [hu] at h;subst hc hb;exact h
theorem HasT.struct {n:Nat} {t:TypeId} {fs:Array Field} {ds:List D} (hu:P.underlying t=some (.struct fs)) {ts:List TypeId} (hts:fs.toList.map (·.type)=ts) (h:HasT P (n+1) t ds):iH (HasT P n) ts ds:=by
 unfold HasT at h;rw [hu] at h;subst hts;exact h
theorem HasT.arr {n:Nat} {t e:TypeId} {k:Nat} {ds:List D} (hu:P.underlying t=some (.array k e)) (h:HasT P (n+1) t ds):iH (HasT P n) (List.replicate k e) ds:=by
 unfold HasT at h;rw [hu] at h;exact h
theorem VT.arr_ {n:Nat} {t e:TypeId} {k:Nat} {v:VD} (hu:P.underlying t=some (.array k e)) (h:VT P n t v):∃ ds,v=.agg ds∧HasT P n t ds:=by
 cases v with
 | one x=>unfold VT at h;rw [hu] at h;exact h.2.elim
 | agg xs=>exact ⟨xs,rfl,h.1⟩
theorem VT.sl_ {n:Nat} {t e:TypeId} {v:VD} (hu:P.underlying t=some (.slice e)) (h:VT P n t v):∃ x,v=.one x∧HasT P n t [x]:=by
 cases v with
 | one x=>exact ⟨x,rfl,h.1⟩
 | agg xs=>unfold VT at h;rw [hu] at h;exact h.2.elim
theorem FV {n:Nat} {vds:List VD} (h:Eg P n [] vds):vds=[]:=by cases vds with | nil=>rfl | cons _ _=>exact h.elim
theorem wb {n:Nat} {t:TypeId} {ts:List TypeId} {vds:List VD} (h:Eg P n (t::ts) vds):∃ v vs,vds=v::vs∧VT P n t v∧Eg P n ts vs:=by
 cases vds with
 | nil=>exact h.elim
 | cons v vs=>exact ⟨v,vs,rfl,h.1,h.2⟩
theorem ur {α:Type} {f:α→List D}:∀ {rows:List (List D)},(∀ r∈rows,∃ c,r=f c)→∃ l:List α,rows=l.map f
 | [],_=>⟨[],rfl⟩
 | r::rows,h=>by
  obtain ⟨c,rfl⟩:=h r (by simp)
  obtain ⟨l,rfl⟩:=ur (f:=f) (rows:=rows) (fun r hr=>h r (by simp [hr]))
  exact ⟨c::l,rfl⟩
theorem lawSC {T:Tb3} {Fn:Nat→List D→az} {m0 fuel f:Nat} {sh:List Sh} {xs:List D} {vds:List VD} (hmix:P.follows .mixedOrders=true) (hF:mo P (fm T P) Fn) (hM:nj P (fm T P) Fn) (hS:rD P (fm T P)) (hlt:f < 1000000) (hsh:T.ash f=some sh) (hvd:fp sh xs=some vds)
  (hrs:T.rsk f=[[(false,[.d])]]) (h:xZ (aa Fn (dW P (fm T P) Fn) m0) T P fuel f xs=some (0,[.d (bl true)])):SC P f vds (.one (.d (bl true))):=by
 have:=tQ (T:=T) (P:=P) hmix hF hM hS h hlt hsh hvd (rs:=[(false,[.d])]) (by rw [hrs];rfl)
 exact this
end
section
open Go.WideShapes Go.ChangeShapes
variable {H:Type} {enc:TypeId×Value→H} {P:Program} {w:World}
theorem HU {X:World→Array Value→Prop} (hX:∀ (w w':World) (args:Array Value),w.heap=w'.heap→X w args→X w' args) {C:Checked} {os:Os} {f:FuncId} {fn:Func} {s:ChangeSpec} {tb:TypeId} {n:Nat}
  (own:ownKnob C.prog.godebug=none) (started:os.Started) (noInit:C.prog.inits.idxOf? f=none) (hfn:C.prog.funcs[f]?=some fn)
  (witness:∃ (w:World) (tape:Tape) (i:Input),w.os=os∧(w.forCall tape i).Shaped C.prog∧i.vars=[]∧Input.okWide C.prog (w.forCall tape i) .any w.heap.size f i ∧
   ((s.pre enc C.prog fn [] false (w.forCall tape i).memory i.args∧X (w.forCall tape i).memory i.args)∧sizedMet enc C.prog fn (OpenSpec.ofChange s) false (w.forCall tape i).memory i.args)∧({}:Assume).holds C.prog (lone (Frame.enter C.prog f i.args .normal) [] (w.forCall tape i)))
  (hl:laidOutB C.prog=true) (hts:(fn.params.toList.all fun t=>Ea C.prog n t&&C.prog.readableRec t&&decide (t < C.prog.types.size))=true)
  (hres:fn.resultTypes=#[tb]) (htb:C.prog.underlying tb=some .bool) (hv:s.vars=[])
  (hs:∀ ds:List (DataW H),ds.length=fn.params.toList.length→s.fn H ds={ results:=[.lit (.bool true)],args:=ds })
  (hsc:∀ vds,Eg C.prog n fn.params.toList vds→SC C.prog f vds (.one (.d (bl true)))) :
  ReturnsInHanded {} C os f .any (fun w args=>(s.pre enc C.prog fn [] false w args∧X w args)∧sizedMet enc C.prog fn (OpenSpec.ofChange s) false w args) (s.post enc C.prog fn false true false false):=by
 exact returnsInHanded_of_change_and (enc:=enc) (C:=C) (os:=os) (s:=s) (conds:=[]) (apart:=false) (fresh:=true) (handsOn:=false) (again:=false) (a:={}) hX own started noInit hfn
  witness
  (by
   intro W base args ds gs before hval hW _ hwt _ _
   have hW':=hW
   obtain ⟨p,q,hA,hV,hbf,hfz,hnd⟩:=hW
   rw [hv] at hV
   obtain ⟨rfl,rfl⟩:=trodVars_none hV
   have hvt:s.plain.varTypes C.prog=[]:=by simp [ChangeSpec.plain,hv,DataSpec.varTypes]
   rw [hvt,Kj,Kj] at hwt
   simp only [Kt,Ju,Js] at hwt hts
   obtain ⟨hlen,vds,h1,h2⟩:=rdVs (n:=n) (base:=base) (fun t ht=>(hts t ht).1.1) (fun j t v hj hv=>hval j t v (by simpa using hj) (by simpa using hv)) hA hwt
   refine ((hsc vds h2).2 W (· < W.heap.size) args (fun b hb=>hb) h1).mono ?_
   rintro e W' ⟨v,U',bs,rfl,hbelow,_,_,_,_,hr⟩
   refine ⟨v,rfl,?_⟩
   simp only [RvR,RcR] at hr
   obtain ⟨_,hd⟩:=hr
   simp only [DR,bl] at hd
   obtain ⟨rfl,_⟩:=hd
   have hsf:=hs ds hlen
   refine ⟨ds,[],before,[],p,[],hW',?_,?_,?_,hbelow.frame _,fun h=>by cases h⟩
   ·rw [Kj,hsf,hres]
    exact trodAll_cons_mk (shut_bool htb true) trodAll_mk0
   ·rw [Kj,hsf]
    exact vX hl hbelow (fun t ht=>⟨(hts t ht).1.2,(hts t ht).2⟩) hA (fun x hx=>hW'.lt x (by rw [hbf];simp [hx]))
   ·rw [Kj,hsf,hv];rfl)
end
end Go.VE
