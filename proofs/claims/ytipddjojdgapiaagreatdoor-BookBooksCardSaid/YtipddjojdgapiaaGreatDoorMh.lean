/- All statements; a function's contract; contracts by depth of calls. -/
import Derived.Test.YtipddjojdgapiaaGreatDoorMe
import Derived.IntWalk
import Derived.WideShapes
import Derived.Carry
import Derived.JoinedOf
import Derived.OpenShut
import Derived.LaidMore
namespace Go.VE
open Go.RowKit
variable {P:Program} {Fn:Nat→List D→Out} {m0:Nat} {cfg:Cf3}
theorem fitAny_ok {pk:List Nat} {st:S3r} {j:Nat} {ys:List Yr}:∀ {sks:List Sk} {n:Nat},fitAny (prR P cfg Fn m0) pk st sks n=some (j,ys)→∃ i sk,j=n+i∧sks[i]?=some sk∧fitS (prR P cfg Fn m0) pk sk st=some ys
 | [],n,h=>by cases h
 | sk::sks,n,h=>by
  simp only [fitAny] at h
  split at h
  ·rename_i ys' hf
   cases h
   exact ⟨0,sk,rfl,rfl,hf⟩
  ·obtain ⟨i,s,h1,h2,h3⟩:=fitAny_ok h
   exact ⟨i+1,s,by omega,by simpa using h2,h3⟩
theorem fitAny_sim {pk:List Nat} {st:S3r} {j:Nat} {ys:List Yr} {sks:List Sk} {B:Base} {zsOf:Option Ex→List (Nat×Obj)} {fr:Fr} {yv:Value} {a:Act} {w:World} (hpr:∀ k,B.ob k≠none→k∈pk) (h:fitAny (prR P cfg Fn m0) pk st sks 0=some (j,ys)) (hs:SimT3 B zsOf fr yv st a w) :
  ∃ sk,sks[j]?=some sk∧SimT3 B zsOf fr yv (fillS (prR P cfg Fn m0) ys sk) a w:=by
 obtain ⟨i,sk,h1,h2,h3⟩:=fitAny_ok h
 obtain ⟨g1,g2⟩:=sim2_fit hpr h3 hs
 refine ⟨sk,by rw [h1];simpa using h2,?_⟩
 show Sim2 B (zsOf (fillS (prR P cfg Fn m0) ys sk).pend) _ _ _ _ _ _ _ _
 rw [g2]
 exact g1
theorem exIn_ok {id i:Nat} {B:Base} {zsOf:Option Ex→List (Nat×Obj)} {fr:Fr} {yv:Value} {k:Ex→S3r→Out} {r:Nat×List Yr} {a:Act} {w:World} {st:S3r} (h:k (exIn id (.exit i)) st=some r) (hs:SimT3 B zsOf fr yv st a w):Exit.inBlock id (After3 B zsOf fr yv k r) (exOf (.exit i)) a w:=by
 simp only [exIn] at h
 simp only [exOf,Exit.inBlock]
 split at h
 ·rename_i hi;rw [if_pos hi];exact ⟨.normal,st,rfl,h,hs⟩
 ·rename_i hi;rw [if_neg hi];exact ⟨.exit i,st,rfl,h,hs⟩
theorem nulSt_ok {B:Base} {zsOf:Option Ex→List (Nat×Obj)} {fr:Fr} {yv:Value} {a:Act} {w:World}:∀ {l:List ((Option Nat×Nat)×(Nat×Nat×Nat))} {st:S3r},SimT3 B zsOf fr yv st a w→SimT3 B zsOf fr yv (nulSt (prR P cfg Fn m0) l st) a w
 | [],st,hs=>hs
 | ((none,t),key,size,elem)::l,st,hs=>by
  simp only [nulSt]
  split
  ·rename_i hx
   split
   ·rename_i hk
    refine nulSt_ok ?_
    obtain ⟨U,ι,ds,hm,he0,hz,hdf,hnd,hds,hrg',hsz,hv,hy⟩:=hs
    have hob:getO (eOb ((key,O3.arn ((prR P cfg Fn m0).rows []) size elem true)::st.ob))=getO (eOb st.ob):=nul_ob hk
    have hvt:=hv t
    rw [show getE (eS st).env t=eV (getE3 st.env t) from getE_e t st.env,hx] at hvt
    refine ⟨U,ι,ds,by simp only [eS,hob];exact hm,by simp only [eS,hob];exact he0,by simp only [eS,hob];exact hz,hdf,hnd,hds,hrg',hsz,fun t'=>?_,hy⟩
    simp only [eS,hob,eEnv,List.map_cons,getE]
    split
    ·rename_i htt
     have:t'=t:=by simpa using htt
     rw [this]
     simp only [eV,eL,VR] at hvt ⊢
     exact nul_LR hvt
    ·exact hv t'
   ·exact nulSt_ok hs
  ·exact nulSt_ok hs
 | ((some b,i),key,size,elem)::l,st,hs=>by
  simp only [nulSt]
  split
  ·rename_i hk
   split
   ·rename_i cells e hb
    split
    ·rename_i hx
     refine nulSt_ok ?_
     obtain ⟨U,ι,ds,hm,he0,hz,hdf,hnd,hds,hrg',hsz,hv,hy⟩:=hs
     have hb':getO (eOb st.ob) b=some (.box (eLs cells) e):=by rw [getO_e,hb];rfl
     have hi:(eLs cells)[i]?=some (.d (.lit (.slice none 0 0))):=by rw [eLs_map,List.getElem?_map,hx];simp [eL]
     obtain ⟨b1,ev⟩:=box_leaf hm hb' hi (y:=.sln key 0) fun v hv=>nul_LR hv
     have hob:getO (eOb ((b,O3.box (cells.set i (.sln key ((prR P cfg Fn m0).natN 0))) e)::(key,O3.arn ((prR P cfg Fn m0).rows []) size elem true)::st.ob))=put1 (getO (eOb st.ob)) b (.box ((eLs cells).set i (.sln key 0)) e):=by
      funext j
      rw [eOb_cons,← nul_ob (size:=size) (elem:=elem) (own:=true) hk]
      simp only [getO,put1,eO,eLs_map,List.map_set,eL]
      rfl
     refine ⟨U,ι,ds,by simp only [eS,hob];exact b1,?_,?_,hdf,hnd,hds,hrg',hsz,fun t'=>?_,hy⟩
     all_goals simp only [eS,hob]
     ·exact he0.trans ev
     ·exact hz.evo ev
     ·exact VR.evo ev _ _ (hv t')
    ·exact nulSt_ok hs
   ·exact nulSt_ok hs
  ·exact nulSt_ok hs
theorem frzE_ok {B:Base} {zsOf:Option Ex→List (Nat×Obj)} {fr:Fr} {yv:Value} {a:Act} {w:World} {k:Ex→S3r→Out} {r:Nat×List Yr} {l:List (Option Nat×Nat)} {l2:List ((Option Nat×Nat)×(Nat×Nat×Nat))} {e:Ex} {st:S3r} (h:frzE (prR P cfg Fn m0) l l2 k e st=some r) (hs:SimT3 B zsOf fr yv st a w):∃ st',k e st'=some r∧SimT3 B zsOf fr yv st' a w:=by
 cases e with
 | normal =>
  obtain ⟨st',h1,h2⟩:=frzSt_ok h hs
  exact ⟨_,h1,nulSt_ok h2⟩
 | exit i=>exact ⟨st,h,hs⟩
 | ret=>exact ⟨st,h,hs⟩
theorem exec3_sound (hF:FnOK P cfg Fn) (hM:FmOK P cfg Fn) (hS:SpOK P cfg) (hI:∀ f bd,cfg.inl f=some bd→∃ fn,InlOK P (tcf cfg) f bd fn) (hmix:P.follows .mixedOrders=true):∀ n,Snd3 P cfg Fn m0 n:=by
 intro n
 induction n with
 | zero=>intro r fr hd cur p c st k a w B zsOf yv ro m _ _ _ _ _ h;simp [exec3,real] at h
 | succ n ih =>
  intro r fr hd cur p c st k a w B zsOf yv ro m hdr hpr hrg hhd hro h hs
  cases c with
  | skip=>simp only [exec3] at h;exact wpIn_skip ⟨.normal,st,rfl,h,hs⟩
  | label l=>simp only [exec3] at h;exact wpIn_label ⟨.normal,st,rfl,h,hs⟩
  | ret=>simp only [exec3] at h;exact wpIn_ret ⟨.ret,st,rfl,h,hs⟩
  | exit id=>simp only [exec3] at h;exact wpIn_exit ⟨.exit id,st,rfl,h,hs⟩
  | region id ops draw =>
   cases draw with
   | false =>
    simp only [exec3] at h
    have:=ops3_sound (l2:=[]) hF hpr (rn_ok3 hM hS hI ih) hhd hro (ro:=ro) (m:=m) (Q:=After3 B zsOf fr yv k r) ops.size 0 ops.toList st _ r a w h hs (fun st' a' w' hk hs'=>⟨.normal,st',rfl,hk,hs'⟩)
    rw [List.append_nil] at this
    exact wpIn_region_list this
   | true =>
    simp only [drawsOK2] at hdr
    simp only [exec3] at h
    split at h
    ·rename_i hys
     exact wpIn_region_any hmix (dr3_sound hF hM (rn_ok3 hM hS hI ih) hdr hys h hs fun st' a' w' hk hs'=>⟨.normal,st',rfl,hk,hs'⟩)
    ·cases h
  | seq x y =>
   simp only [exec3] at h
   simp only [drawsOK2,Bool.and_eq_true] at hdr
   have after:∀ (e:Ex) (st':S3r) (a':Act) (w':World),(match e with
     | .normal=>exec3 (prR P cfg Fn m0) cfg P n fr hd cur (2*p+1) y st' k
     | .exit i=>k (.exit i) st'
     | .ret=>k .ret st')=some r→SimT3 B zsOf fr yv st' a' w'→Exit.then (y.wpIn (FW ro) m P (After3 B zsOf fr yv k r)) (After3 B zsOf fr yv k r) (exOf e) a' w':=by
    intro e st' a' w' hk hs'
    cases e with
    | normal=>exact ih r fr hd cur (2*p+1) y st' k a' w' B zsOf yv ro m hdr.2 hpr hrg hhd hro hk hs'
    | exit i=>exact ⟨.exit i,st',rfl,hk,hs'⟩
    | ret=>exact ⟨.ret,st',rfl,hk,hs'⟩
   split at h
   ·refine wpIn_seq (wpIn_mono (ih r fr hd cur (2*p) x st _ a w B zsOf yv ro m hdr.1 hpr hrg hhd hro h hs) ?_)
    rintro e a' w' ⟨z,st',rfl,hk,hs'⟩
    obtain ⟨st1,hk,hs'⟩:=frzE_ok hk hs'
    exact after z st1 a' w' hk hs'
   ·split at h
    ·cases h
    ·rename_i c js _
     obtain ⟨j,ys,kont,h1,h2,h3⟩:=real_bnd h
     refine wpIn_seq (wpIn_mono (ih (j,ys) fr hd cur (2*p) x st _ a w B zsOf yv ro m hdr.1 hpr hrg hhd hro h1 hs) ?_)
     rintro e a' w' ⟨z,st',rfl,hk,hs'⟩
     obtain ⟨st1,hk,hs'⟩:=frzE_ok hk hs'
     obtain ⟨st2,g1,g2⟩:=join_ok hpr hk h2 h3 hs'
     exact after z st2 a' w' g1 g2
  | cond c x y =>
   simp only [exec3] at h
   simp only [drawsOK2,Bool.and_eq_true] at hdr
   split at h
   ·rename_i t
    obtain ⟨U,ι,ds,hm,he0,hz,hdf,hnd,hds,hrg',hsz,hv,hy⟩:=id hs
    have ev_:∀ b,eV (getE3 st.env t)=.one (.d (.lit (.bool b)))→a.eval (.tmp t)=.bool b:=by
     intro b hb
     have:=hv t
     rw [show getE (eS st).env t=eV (getE3 st.env t) from getE_e t st.env,hb] at this
     simp only [VR,LR,DR] at this
     exact this.1
    have push:∀ b,eV (getE3 st.env t)=.one (.d (.lit (.bool b)))→SimT3 B zsOf fr yv { st with env:=(t,.one (.b b))::st.env } a w:=by
     intro b hb
     show Sim2 B (zsOf st.pend) fr.nt fr.rng yv (getE ((t,vlit (.bool b))::eEnv st.env)) (getO (eOb st.ob)) st.ys a w
     rw [getE_same (b:=b) (by rw [getE_e];exact hb) rfl]
     exact hs
    split at h
    ·rename_i hb
     exact wpIn_cond_true (ev_ true (by rw [hb];simp [eV,eL])) (ih r fr hd cur (2*p) x st k a w B zsOf yv ro m hdr.1 hpr hrg hhd hro h hs)
    ·rename_i hb
     exact wpIn_cond_false (ev_ false (by rw [hb];simp [eV,eL])) (ih r fr hd cur (2*p+1) y st k a w B zsOf yv ro m hdr.2 hpr hrg hhd hro h hs)
    ·rename_i z hb
     rcases real_cond h with ⟨rfl,h⟩ | ⟨rfl,h⟩
     ·have hb':eV (getE3 st.env t)=.one (.d (.lit (.bool true))):=by rw [hb];simp [eV,eL]
      exact wpIn_cond_true (ev_ true hb') (ih r fr hd cur (2*p) x _ k a w B zsOf yv ro m hdr.1 hpr hrg hhd hro h (push true hb'))
     ·have hb':eV (getE3 st.env t)=.one (.d (.lit (.bool false))):=by rw [hb];simp [eV,eL]
      exact wpIn_cond_false (ev_ false hb') (ih r fr hd cur (2*p+1) y _ k a w B zsOf yv ro m hdr.2 hpr hrg hhd hro h (push false hb'))
    ·cases h
   ·exact wpIn_cond_true rfl (ih r fr hd cur (2*p) x st k a w B zsOf yv ro m hdr.1 hpr hrg hhd hro h hs)
   ·exact wpIn_cond_false rfl (ih r fr hd cur (2*p+1) y st k a w B zsOf yv ro m hdr.2 hpr hrg hhd hro h hs)
   ·cases h
  | block id c =>
   simp only [drawsOK2] at hdr
   simp only [exec3] at h
   split at h
   ·rename_i body
    simp only [drawsOK2] at hdr
    split at h
    ·cases h
    ·rename_i c sks outs _
     split at h
     ·cases h
     ·rename_i i0 ys0 hfit
      obtain ⟨j,ys,kont,h1,h2,h3⟩:=real_bnd h
      obtain ⟨sk0,hsk0,hs0⟩:=fitAny_sim hpr hfit hs
      refine wpIn_block (wpIn_loop_rounds m0 ?_)
      have key:∀ (bs:List ((Nat→List Yr→Out)→List Yr→Out)),(∀ (i:Nat) (sk:Sk),sks[i]?=some sk→∃ b,bs[i]?=some b∧∀ (J:Nat→List Yr→Out) (zs:List Yr),b J zs=some (j,ys)→∀ (a:Act) (w:World),SimT3 B zsOf fr yv (fillS (prR P cfg Fn m0) zs sk) a w →
         body.wpIn (FW ro) m P (fun e a' w'=>∃ z st',e=exOf z∧SimT3 B zsOf fr yv st' a' w'∧((z=.normal∧∃ j' ys',fitAny (prR P cfg Fn m0) fr.pr st' sks 0=some (j',ys')∧J j' ys'=some (j,ys)) ∨
          (∃ i,z=.exit i∧outK (prR P cfg Fn m0) (2+10*c) fr.f fr.b id fr.pr outs (exIn id (.exit i)) st'=some (j,ys))∨(z=.ret∧outK (prR P cfg Fn m0) (2+10*c) fr.f fr.b id fr.pr outs .ret st'=some (j,ys)))) a w) →
        ∀ (n' i:Nat) (zs:List Yr) (a:Act) (w:World) (sk:Sk),loopR bs n' i zs=some (j,ys)→sks[i]?=some sk→SimT3 B zsOf fr yv (fillS (prR P cfg Fn m0) zs sk) a w →
        Code.roundsIn (FW ro) m P body (Exit.inBlock id (After3 B zsOf fr yv k r)) n' a w:=by
       intro bs hbs n'
       induction n' with
       | zero=>intro i zs a w sk hl;cases hl
       | succ n' ihl =>
        intro i zs a w sk hl hski hs
        rw [roundsIn_succ]
        obtain ⟨b,hb,hB⟩:=hbs i sk hski
        simp only [loopR,hb] at hl
        refine wpIn_mono (hB _ zs hl a w hs) ?_
        rintro e a' w' ⟨z,st',rfl,hs',⟨rfl,j',ys',hf',hk⟩ | ⟨i',rfl,hk⟩ | ⟨rfl,hk⟩⟩
        ·obtain ⟨sk',hsk',hs2⟩:=fitAny_sim hpr hf' hs'
         exact ihl j' ys' a' w' sk' hk hsk' hs2
        ·obtain ⟨st2,g1,g2⟩:=join_ok hpr hk h2 h3 hs'
         exact exIn_ok g1 g2
        ·obtain ⟨st2,g1,g2⟩:=join_ok hpr hk h2 h3 hs'
         exact ⟨.ret,st2,rfl,g1,g2⟩
      refine key _ ?_ m0 i0 ys0 a w sk0 h1 hsk0 hs0
      intro i sk hski
      refine ⟨_,by rw [List.getElem?_map,hski];rfl,?_⟩
      intro J zs hl a w hs
      simp only at hl
      split at hl
      ·cases hl
      ·refine wpIn_mono (ih (j,ys) fr hd id (2*p) body _ _ a w B zsOf yv ro m hdr hpr hrg hhd hro hl hs) ?_
       rintro e a' w' ⟨z,st',rfl,hk,hs'⟩
       refine ⟨z,st',rfl,hs',?_⟩
       cases z with
       | normal =>
        simp only at hk
        split at hk
        ·rename_i j' ys' hf'
         exact .inl ⟨rfl,j',ys',hf',hk⟩
        ·cases hk
       | exit i=>exact .inr (.inl ⟨i,rfl,hk⟩)
       | ret=>exact .inr (.inr ⟨rfl,hk⟩)
   ·refine wpIn_block (wpIn_mono (ih r fr hd id (2*p) _ st _ a w B zsOf yv ro m hdr hpr hrg hhd hro h hs) ?_)
    rintro e a' w' ⟨z,st',rfl,hk,hs'⟩
    cases z with
    | normal=>exact ⟨.normal,st',rfl,hk,hs'⟩
    | ret=>exact ⟨.ret,st',rfl,hk,hs'⟩
    | exit i =>
     simp only at hk
     simp only [exOf,Exit.inBlock]
     split at hk
     ·rename_i hi;rw [if_pos hi];exact ⟨.normal,st',rfl,hk,hs'⟩
     ·rename_i hi;rw [if_neg hi];exact ⟨.exit i,st',rfl,hk,hs'⟩
  | rangeFunc g ps assign body=>exact range_ok3 hI ih hdr hpr hrg h hs
  | loop _=>simp [exec3,real] at h
  | scope _=>simp [exec3,real] at h
  | goto _=>simp [exec3,real] at h
  | refuse _=>simp [exec3,real] at h
end Go.VE
namespace Go.VE
open Go.RowKit
variable {P:Program} {Fn:Nat→List D→Out} {FnD:D→List Sh→List D→Out} {m0:Nat} {cfg:Cf3}
section
variable {w:World} {U:Nat→Prop} {ι:Pl} {ob:Ur} {r:Nat×List Yr}
def CellOK (w:World) (U:Nat→Prop) (ι:Pl) (ob:Ur) (rk:RK) (v:Value) (y:Yr) (ko kd:List Nat):Prop :=
 (∀ q∈ko,∃ o,getO (eOb ob) q=some o∧o.owned=true)∧(∀ q∈kd,∃ o,getO (eOb ob) q=some o) ∧
 ∀ (Us:Nat→Prop),(∀ b,U b→Us b)→(∀ q∈kd,Us (ι q).1)→∀ (e:List Yr) (j:Nat),e[j]?=some y→RcR w Us (rcAt e rk j) v (ko.map fun q=>(ι q).1)
theorem rcK_ok {rk:RK} {x:L3r} {v:Value} {k:Yr→List Nat→Out} (hm:Mem w U ι (getO (eOb ob))) (hx:LR w U ι (getO (eOb ob)) (eL x) v) (h:rcK (real Fn FnD m0) ob rk x k=some r) :
  ∃ y u ko kd,k y u=some r∧u=ko++kd∧CellOK w U ι ob rk v y ko kd:=by
 unfold rcK at h
 split at h
 ·rename_i key n c
  split at h
  ·rename_i rows size elem own hk
   obtain ⟨hc,h⟩:=real_eqN h
   have hc':c=rows.length:=hc
   obtain ⟨hn,h⟩:=real_leN h
   refine ⟨_,_,[],[key],h,rfl,by simp,by intro q hq;cases List.mem_singleton.1 hq;exact ⟨_,by rw [getO_e,hk];rfl⟩,fun Us hU hd e j he=>?_⟩
   have hk':getO (eOb ob) key=some (.arr rows size elem own):=by rw [getO_e,hk];rfl
   have:=slk_D hm (by simpa only [eL] using hx) hk' hc' hU (hd key (by simp))
   refine ⟨rfl,?_⟩
   simp only [real] at he
   simp only [real,he]
   simpa using this
  ·cases h
 ·rename_i s e0 key n c
  split at h
  ·rename_i rows size elem hk
   split at h
   ·rename_i hse
    obtain ⟨rfl,rfl⟩:=hse
    obtain ⟨hc,h⟩:=real_eqN h
    have hc':c=rows.length:=hc
    obtain ⟨hn,h⟩:=real_leN h
    have hn':n≤rows.length:=hn
    have hk':getO (eOb ob) key=some (.arr rows s e0 true):=by rw [getO_e,hk];rfl
    refine ⟨_,_,[key],[],h,rfl,by intro q hq;simp at hq;subst hq;exact ⟨_,hk',rfl⟩,by simp,fun Us hU hd e j he=>?_⟩
    simp only [eL,LR] at hx
    obtain ⟨rows',size',elem',own',h1,h2,h3,_⟩:=hx
    rw [hk'] at h1
    cases h1
    obtain ⟨_,rfl⟩:=h3 hc'
    obtain ⟨cur,h5,h6,h7,h8,h9,h10⟩:=hm.obj key _ hk'
    simp only [rcAt,real,he]
    refine ⟨(ι key).1,(ι key).2,cur,rfl,?_,h5,by simp;omega,h7,h8,RR.mono (fun _ _=>rfl) hU _ rfl _ _ _ (by simpa using h9.take n)⟩
    simp [Nat.min_eq_left hn']
   ·cases h
  ·cases h
 ·rename_i key
  split at h
  ·rename_i agg mm own hk
   have hk':getO (eOb ob) key=some (.mp agg mm.1 mm.2 own):=by rw [getO_e,hk];rfl
   refine ⟨_,_,[],[key],h,rfl,by simp,by intro q hq;cases List.mem_singleton.1 hq;exact ⟨_,by rw [getO_e,hk];rfl⟩,fun Us hU hd e j he=>?_⟩
   simp only [eL,LR] at hx
   obtain ⟨_,_,_,_,h1,rfl⟩:=hx
   obtain ⟨es,clock,h3,h4,h5⟩:=hm.obj _ _ hk'
   refine ⟨rfl,?_⟩
   simp only [real] at he
   simp only [real,he,DR]
   exact ⟨_,es,clock,rfl,hd key (by simp),h3,KR.mono (fun _ _=>rfl) hU _ _ _ _ h4⟩
  ·cases h
 ·rename_i g key
  split at h
  ·rename_i agg mm hk
   split at h
   ·rename_i hg
    subst hg
    have hk':getO (eOb ob) key=some (.mp g mm.1 mm.2 true):=by rw [getO_e,hk];rfl
    refine ⟨_,_,[key],[],h,rfl,by intro q hq;simp at hq;subst hq;exact ⟨_,hk',rfl⟩,by simp,fun Us hU hd e j he=>?_⟩
    simp only [eL,LR] at hx
    obtain ⟨_,_,_,_,h1,rfl⟩:=hx
    obtain ⟨es,clock,h3,h4,h5⟩:=hm.obj _ _ hk'
    simp only [rcAt,real,he]
    exact ⟨_,es,clock,rfl,rfl,h3,KR.mono (fun _ _=>rfl) hU _ _ _ _ h4⟩
   ·cases h
  ·cases h
 ·split at h
  ·rename_i y hy
   refine ⟨_,_,[],[],h,rfl,by simp,by simp,fun Us hU hd e j he=>⟨rfl,?_⟩⟩
   rw [scal_e hy] at hx
   simp only [LR] at hx
   simp only [real,he]
   exact DR.mono (fun _ _=>rfl) hU _ _ hx
  ·cases h
 ·cases h
theorem rcsK_ok (hm:Mem w U ι (getO (eOb ob))):∀ {rs:List RK} {xs:List L3r} {vs:List Value} {k:List Yr→List Nat→Out},LF w U ι (getO (eOb ob)) (eLs xs) vs→rcsK (real Fn FnD m0) ob rs xs k=some r →
  ∃ ys u ko kd,k ys u=some r∧u.Perm (ko++kd)∧ys.length=rs.length∧(∀ q∈ko,∃ o,getO (eOb ob) q=some o∧o.owned=true)∧(∀ q∈kd,∃ o,getO (eOb ob) q=some o) ∧
   ∀ (Us:Nat→Prop),(∀ b,U b→Us b)→(∀ q∈kd,Us (ι q).1)→∀ (e:List Yr) (j:Nat),At e j ys→RcF w Us (rcsAt e rs j) vs (ko.map fun q=>(ι q).1)
 | [],[],vs,k,hl,h=>by
  simp only [rcsK] at h
  refine ⟨[],[],[],[],h,List.Perm.refl _,rfl,by simp,by simp,fun Us hU hd e j he=>?_⟩
  simp only [eLs,LF] at hl
  exact ⟨hl,rfl⟩
 | [],x::xs,vs,k,hl,h=>by cases h
 | rk::rs,[],vs,k,hl,h=>by cases h
 | rk::rs,x::xs,vs,k,hl,h=>by
  simp only [rcsK] at h
  simp only [eLs,LF] at hl
  obtain ⟨v,vs',rfl,h3,h4⟩:=hl
  obtain ⟨y,u,ko,kd,h,rfl,c1,c2,c3⟩:=rcK_ok hm h3 h
  obtain ⟨ys,us,ko',kd',h,hp,hlen,d1,d2,d3⟩:=rcsK_ok hm h4 h
  refine ⟨_,_,ko++ko',kd++kd',h,?_,by simp [hlen],?_,?_,fun Us hU hd e j he=>?_⟩
  ·refine (List.Perm.append_left _ hp).trans ?_
   rw [List.append_assoc,List.append_assoc]
   refine List.Perm.append_left _ ?_
   rw [←List.append_assoc,← List.append_assoc]
   exact List.Perm.append_right _ List.perm_append_comm
  ·intro q hq;rcases List.mem_append.1 hq with h | h;exact c1 q h;exact d1 q h
  ·intro q hq;rcases List.mem_append.1 hq with h | h;exact c2 q h;exact d2 q h
  ·have e1:At e j ([y]++ys):=he
   obtain ⟨a1,a2⟩:=e1.append
   refine ⟨v,vs',_,_,rfl,by rw [List.map_append],c3 Us hU (fun q hq=>hd q (List.mem_append_left _ hq)) e j (by simpa using a1 0 y rfl),d3 Us hU (fun q hq=>hd q (List.mem_append_right _ hq)) e (j+1) a2⟩
theorem rvsK_ok (hm:Mem w U ι (getO (eOb ob))):∀ {rs:RS} {xs:List V3r} {vs:List Value} {k:List Yr→List Nat→Out},VF w U ι (getO (eOb ob)) (eVs xs) vs→rvsK (real Fn FnD m0) ob rs xs k=some r →
  ∃ ys u ko kd,k ys u=some r∧u.Perm (ko++kd)∧(∀ q∈ko,∃ o,getO (eOb ob) q=some o∧o.owned=true)∧(∀ q∈kd,∃ o,getO (eOb ob) q=some o) ∧
   ∀ (Us:Nat→Prop),(∀ b,U b→Us b)→(∀ q∈kd,Us (ι q).1)→∀ (e:List Yr) (j:Nat),At e j ys→RvF w Us (rvsAt e rs j) vs (ko.map fun q=>(ι q).1):=by
 intro rs
 induction rs with
 | nil =>
  intro xs vs k hl h
  cases xs with
  | nil =>
   simp only [rvsK] at h
   refine ⟨[],[],[],[],h,List.Perm.refl _,by simp,by simp,fun Us hU hd e j he=>?_⟩
   simp only [eVs,VF] at hl
   simp only [rvsAt,RvF]
   exact ⟨hl,rfl⟩
  | cons x xs=>cases h
 | cons p rs ih =>
  intro xs vs k hl h
  obtain ⟨g,cs⟩:=p
  have more:∀ {x:V3r} {xs:List V3r} {v:Value} {vs':List Value} {ys ys':List Yr} {u us ko ko' kd kd':List Nat},u.Perm (ko++kd)→us.Perm (ko'++kd')→ys.length=cs.length →
    (∀ q∈ko,∃ o,getO (eOb ob) q=some o∧o.owned=true)→(∀ q∈ko',∃ o,getO (eOb ob) q=some o∧o.owned=true)→(∀ q∈kd,∃ o,getO (eOb ob) q=some o)→(∀ q∈kd',∃ o,getO (eOb ob) q=some o) →
    (∀ (Us:Nat→Prop),(∀ b,U b→Us b)→(∀ q∈kd,Us (ι q).1)→∀ (e:List Yr) (j:Nat),At e j ys→RvR w Us (rvAt e g cs j) v (ko.map fun q=>(ι q).1)) →
    (∀ (Us:Nat→Prop),(∀ b,U b→Us b)→(∀ q∈kd',Us (ι q).1)→∀ (e:List Yr) (j:Nat),At e j ys'→RvF w Us (rvsAt e rs j) vs' (ko'.map fun q=>(ι q).1)) →
    (u++us).Perm ((ko++ko')++(kd++kd'))∧(∀ q∈ko++ko',∃ o,getO (eOb ob) q=some o∧o.owned=true)∧(∀ q∈kd++kd',∃ o,getO (eOb ob) q=some o) ∧
     ∀ (Us:Nat→Prop),(∀ b,U b→Us b)→(∀ q∈kd++kd',Us (ι q).1)→∀ (e:List Yr) (j:Nat),At e j (ys++ys')→RvF w Us (rvsAt e ((g,cs)::rs) j) (v::vs') ((ko++ko').map fun q=>(ι q).1):=by
   intro x xs v vs' ys ys' u us ko ko' kd kd' p1 p2 hlen c1 d1 c2 d2 c3 d3
   refine ⟨?_,?_,?_,fun Us hU hd e j he=>?_⟩
   ·refine (List.Perm.append p1 p2).trans ?_
    rw [List.append_assoc,List.append_assoc]
    refine List.Perm.append_left _ ?_
    rw [←List.append_assoc,← List.append_assoc]
    exact List.Perm.append_right _ List.perm_append_comm
   ·intro q hq;rcases List.mem_append.1 hq with h | h;exact c1 q h;exact d1 q h
   ·intro q hq;rcases List.mem_append.1 hq with h | h;exact c2 q h;exact d2 q h
   ·obtain ⟨a1,a2⟩:=he.append
    rw [hlen] at a2
    simp only [rvsAt,RvF]
    exact ⟨v,vs',_,_,rfl,by rw [List.map_append],c3 Us hU (fun q hq=>hd q (List.mem_append_left _ hq)) e j a1,d3 Us hU (fun q hq=>hd q (List.mem_append_right _ hq)) e _ a2⟩
  cases xs with
  | nil =>
   cases g with
   | true=>simp [rvsK,real] at h
   | false=>(match cs,h with | [],h=>simp [rvsK,real] at h | [rk],h=>simp [rvsK,real] at h | _::_::_,h=>simp [rvsK,real] at h)
  | cons x xs =>
   simp only [eVs,VF] at hl
   obtain ⟨v,vs',rfl,h3,h4⟩:=hl
   cases x with
   | tup ts =>
    cases g with
    | true=>simp [rvsK,real] at h
    | false=>(match cs,h with | [],h=>simp [rvsK,real] at h | [rk],h=>simp [rvsK,real] at h | _::_::_,h=>simp [rvsK,real] at h)
   | one x =>
    cases g with
    | true=>simp [rvsK,real] at h
    | false =>
     match cs,h with
     | [],h=>simp [rvsK,real] at h
     | [rk],h =>
      simp only [rvsK] at h
      simp only [eV,VR] at h3
      obtain ⟨y,u,ko,kd,h,rfl,c1,c2,c3⟩:=rcK_ok hm h3 h
      obtain ⟨ys,us,ko',kd',h,hp,d1,d2,d3⟩:=ih h4 h
      have:=more (x:=.one x) (xs:=xs) (ys:=[y]) (v:=v) (List.Perm.refl _) hp rfl c1 d1 c2 d2 (fun Us hU hd e j he=>by
       simp only [rvAt,rcsAt,RvR]
       exact c3 Us hU hd e j (by simpa using he 0 y rfl)) d3
      exact ⟨_,_,_,_,h,this⟩
     | _::_::_,h=>simp [rvsK,real] at h
   | agg ls =>
    cases g with
    | false=>(match cs,h with | [],h=>simp [rvsK,real] at h | [rk],h=>simp [rvsK,real] at h | _::_::_,h=>simp [rvsK,real] at h)
    | true =>
     simp only [rvsK] at h
     simp only [eV,VR] at h3
     obtain ⟨as,rfl,hl3⟩:=h3
     obtain ⟨ys0,u,ko,kd,h,hp0,hlen,c1,c2,c3⟩:=rcsK_ok hm hl3 h
     obtain ⟨ys,us,ko',kd',h,hp,d1,d2,d3⟩:=ih h4 h
     have:=more (x:=.agg ls) (xs:=xs) (ys:=ys0) (v:=.agg as) hp0 hp hlen c1 d1 c2 d2 (fun Us hU hd e j he=>by
      simp only [rvAt,RvR]
      exact ⟨as,rfl,c3 Us hU hd e j he⟩) d3
     exact ⟨_,_,_,_,h,this⟩
end
end Go.VE
namespace Go.VE
open Go.RowKit
variable {P:Program} {Fn:Nat→List D→Out} {FnD:D→List Sh→List D→Out} {m0:Nat} {cfg:Cf3} {ob:Ur} {r:Nat×List Yr}
theorem rsFind_ok {vs:List V3r} {j:Nat} {rs:RS}:∀ {l:List RS} {n:Nat},rsFind ob vs l n=some (j,rs)→∃ i,j=n+i∧l[i]?=some rs∧rvsFit ob rs vs=true
 | [],n,h=>by cases h
 | x::l,n,h=>by
  simp only [rsFind] at h
  split at h
  ·rename_i hf;cases h;exact ⟨0,rfl,rfl,hf⟩
  ·obtain ⟨i,h1,h2,h3⟩:=rsFind_ok h;exact ⟨i+1,by omega,by simpa using h2,h3⟩
theorem rcsFit_len:∀ {rs:List RK} {xs:List L3r},rcsFit ob rs xs=true→rs.length=xs.length
 | [],[],_=>rfl
 | [],_::_,h=>by cases h
 | _::_,[],h=>by cases h
 | r::rs,x::xs,h=>by simp only [rcsFit,Bool.and_eq_true] at h;simp [rcsFit_len h.2]
theorem rcsAt_d {e:List Yr}:∀ {cs:List RK} {ds:List D} {j:Nat},cs.all RK.isD=true→cs.length=ds.length→At e j (ds.map .d)→rcsAt e cs j=ds.map .d
 | [],[],j,_,_,_=>rfl
 | [],_::_,j,_,h,_=>by cases h
 | _::_,[],j,_,h,_=>by cases h
 | c::cs,d::ds,j,hd,hl,ha=>by
  simp only [List.all_cons,Bool.and_eq_true] at hd
  have ha':At e j ([.d d]++ds.map .d):=ha
  obtain ⟨a1,a2⟩:=ha'.append
  cases c with
  | d =>
   simp only [rcsAt,rcAt,List.map_cons]
   have a2':At e (j+1) (ds.map .d):=a2
   rw [rcsAt_d hd.2 (by simpa using hl) a2']
   have:=a1 0 _ rfl
   simp only [Nat.add_zero] at this
   simp [real,this]
  | own _ _=>cases hd.1
  | om _=>cases hd.1
theorem rdsK_ok:∀ {rs:RS} {vs:List V3r} {k:List Yr→Out},rvsFit ob rs vs=true→allD rs=true→rdsK (real Fn FnD m0) ob vs k=some r →
  ∃ ys rvs,(Q.mapM rvD (eVs vs)).run (getO (eOb ob))=some rvs∧k ys=some r∧∀ e j,At e j ys→rvsAt e rs j=rvs
 | [],vs,k,hf,ha,h=>by
  cases vs with
  | nil=>simp only [rdsK] at h;exact ⟨[],[],by simp [eVs,Q.mapM,Q.run],h,fun e j _=>rfl⟩
  | cons v vs=>cases hf
 | (g,cs)::rs,vs,k,hf,ha,h=>by
  simp only [allD,List.all_cons,Bool.and_eq_true] at ha
  cases vs with
  | nil=>(cases g with | true=>cases hf | false=>(match cs,hf with | [],hf=>cases hf | [_],hf=>cases hf | _::_::_,hf=>cases hf))
  | cons v vs =>
   cases v with
   | tup ts=>(cases g with | true=>cases hf | false=>(match cs,hf with | [],hf=>cases hf | [_],hf=>cases hf | _::_::_,hf=>cases hf))
   | one x =>
    cases g with
    | true=>cases hf
    | false =>
     match cs,hf,ha with
     | [],hf,_=>cases hf
     | _::_::_,hf,_=>cases hf
     | [c],hf,ha =>
      simp only [rvsFit,Bool.and_eq_true] at hf
      simp only [rdsK] at h
      obtain ⟨d,rd,h1,_,h⟩:=toD3_ok _ _ _ h
      obtain ⟨ys,rvs,h2,h3,h4⟩:=rdsK_ok hf.2 ha.2 h
      refine ⟨_,.one (.d d)::rvs,?_,h3,fun e j he=>?_⟩
      ·simp [eVs,eV,Q.mapM,rvD,Q.run_bind,h1,h2,Q.run]
      ·have he':At e j ([.d d]++ys):=he
       obtain ⟨a1,a2⟩:=he'.append
       simp only [rvsAt,List.length_singleton]
       rw [h4 e (j+1) a2]
       have:=rcsAt_d (cs:=[c]) (ds:=[d]) (by simpa using ha.1) rfl (by simpa using a1)
       simp only [rcsAt,List.map_cons,List.map_nil,List.cons.injEq,and_true] at this
       simp only [rvAt,rcsAt,this]
   | agg ls =>
    cases g with
    | false=>(match cs,hf with | [],hf=>cases hf | [_],hf=>cases hf | _::_::_,hf=>cases hf)
    | true =>
     simp only [rvsFit,Bool.and_eq_true] at hf
     simp only [rdsK] at h
     obtain ⟨ds,rd,h1,_,hl,h⟩:=toDs3_ok (f:=toD 4) (fun x k=>toD3_ok 4 x k) h
     obtain ⟨ys,rvs,h2,h3,h4⟩:=rdsK_ok hf.2 ha.2 h
     refine ⟨_,.agg (ds.map .d)::rvs,?_,h3,fun e j he=>?_⟩
     ·simp [eVs,eV,Q.mapM,rvD,Q.run_bind,h1,h2,Q.run]
     ·obtain ⟨a1,a2⟩:=he.append
      have hlen:cs.length=ds.length:=by rw [rcsFit_len hf.1,hl]
      simp only [rvsAt]
      rw [show cs.length=(ds.map Y.d:List Yr).length by simpa using hlen,h4 e _ a2]
      simp only [rvAt,rcsAt_d ha.1 hlen a1]
theorem argV_e:∀ {sh:List Sh} {xs:List D} {vs:List V3r} {vds:List VD},argV3 sh xs=some vs→vdsOf sh xs=some vds→eVs vs=vds.map vOf
 | [],[],vs,vds,h1,h2=>by simp only [argV3,vdsOf,Option.some.injEq] at h1 h2;subst h1 h2;rfl
 | [],_::_,vs,vds,h1,h2=>by cases h1
 | .one::sh,[],vs,vds,h1,h2=>by cases h1
 | .one::sh,x::xs,vs,vds,h1,h2=>by
  simp only [argV3] at h1
  split at h1
  ·rename_i vs' hv
   cases h1
   simp only [vdsOf,Option.map_eq_some_iff] at h2
   obtain ⟨vd,h3,rfl⟩:=h2
   simp [eVs,eV,eL,vOf,argV_e hv h3]
  ·cases h1
 | .agg n::sh,xs,vs,vds,h1,h2=>by
  simp only [argV3] at h1
  simp only [vdsOf] at h2
  split at h1
  ·rename_i hn
   rw [if_pos hn] at h2
   split at h1
   ·rename_i vs' hv
    cases h1
    simp only [Option.map_eq_some_iff] at h2
    obtain ⟨vd,h3,rfl⟩:=h2
    simp [eVs,eV,eLs_map,eL,vOf,argV_e hv h3,Function.comp_def]
   ·cases h1
  ·cases h1
 | .ptr n::sh,xs,vs,vds,h1,h2=>by
  simp only [argV3] at h1
  simp only [vdsOf] at h2
  split at h1
  ·rename_i hn
   rw [if_pos hn] at h2
   split at h1
   ·rename_i vs' hv
    cases h1
    simp only [Option.map_eq_some_iff] at h2
    obtain ⟨vd,h3,rfl⟩:=h2
    simp [eVs,eV,eL,vOf,argV_e hv h3]
   ·cases h1
  ·cases h1
structure Tb3 where
 inl:Nat→Bool
 draw:Nat→Nat→List (Nat×Nat)
 lp:Nat→Nat→Nat→List (Sk×List Sk×List (Ex×Sk))
 jn:Nat→Nat→Nat→Option (List (Sk×List (Ex×Sk)))
 gj:Nat→Nat→Nat→Option (Nat×List (Sk×List (Ex×Sk)))
 ash:Nat→Option (List Sh)
 rsk:Nat→List RS
 iv:String→Nat
 ms:Nat→Option Ms
 sp:Nat→Option (Nat×Nat×Nat)
 cb:Nat→Nat→Bool
 fz:Nat→Nat→Nat→List (Option Nat×Nat)
 ar:Nat→Nat→Option Nat
 nz:Nat→Nat→Nat→List ((Option Nat×Nat)×(Nat×Nat×Nat))
def bd3 (T:Tb3) (P:Program) (f:Nat):Option Bd:=match P.funcs[f]? with
 | some fn=>if fn.name == "runtime.NumGoroutine" then none else match fn.body with
  | some c=>if drawsOK2 (fun id _=>T.draw f id) c then some ⟨fn.ntmps,fn.results.toList,c⟩ else none
  | none=>none
 | none=>none
def inl3 (T:Tb3) (P:Program) (f:Nat):Option Bd:=match T.inl f with
 | true=>bd3 T P f
 | false=>none
def cf3 (T:Tb3) (P:Program):Cf3:=⟨inl3 T P,fun f id _=>T.draw f id,T.lp,T.jn,T.gj,fun f=>if f < 1000000 then T.ash f else none,T.rsk,T.iv,T.ms,T.sp,T.cb,T.fz,T.ar,T.nz⟩
theorem bd3_ok {T:Tb3} {f:Nat} {bd:Bd} (h:bd3 T P f=some bd):∃ fn,InlOK P (tcf (cf3 T P)) f bd fn:=by
 unfold bd3 at h
 split at h
 ·rename_i fn hfn
  split at h
  ·cases h
  ·rename_i hnm
   split at h
   ·rename_i c hc
    split at h
    ·rename_i hd
     cases h
     refine ⟨fn,hfn,hc,rfl,rfl,fun as w=>?_,hd⟩
     simp only [Bool.not_eq_true] at hnm
     have hne:¬ fn.name = "runtime.NumGoroutine" := fun e=>by rw [e] at hnm;simp at hnm
     simp [callFunc,hfn,hne,hc]
    ·cases h
   ·cases h
 ·cases h
theorem inl3_ok {T:Tb3}:∀ f bd,(cf3 T P).inl f=some bd→∃ fn,InlOK P (tcf (cf3 T P)) f bd fn:=by
 intro f bd h
 simp only [cf3,inl3] at h
 split at h
 ·exact bd3_ok h
 ·cases h
def funM {Δ N R W M E Ω:Type} (pr:Pr Δ N R W M E Ω) (T:Tb3) (P:Program) (fuel f:Nat) (ms:Ms) (xs:List Δ):Ω:=match okMs ms with
 | false=>pr.fail
 | true=>match bd3 T P f with
  | none=>pr.fail
  | some bd=>fillMO pr id true ms.obs xs fun ob ys=>match fillMVs pr id ob ms.args ys with
   | none=>pr.fail
   | some (vs,_) =>
    if vs.length≤bd.nt then exec3 pr (cf3 T P) P fuel ⟨f,0,bd.nt,true,keysO3 ob,false⟩ none 0 1 bd.code ⟨envV3 vs 0,ob,[],none⟩ (fun e st=>match e with
     | .exit _=>pr.fail
     | .normal=>inlEnd3 pr P bd ob (finM pr ms) st
     | .ret=>inlEnd3 pr P bd ob (finM pr ms) st) else pr.fail
def fun3 {Δ N R W M E Ω:Type} (pr:Pr Δ N R W M E Ω) (T:Tb3) (P:Program) (fuel f:Nat) (args:List Δ):Ω:=if 1000000≤f then (match T.ms (f - 1000000) with
  | some ms=>funM pr T P fuel (realF (f - 1000000)) ms args
  | none=>pr.fail) else match T.ash f with
 | none=>pr.fail
 | some sh=>match bd3 T P f with
  | none=>pr.fail
  | some bd=>match argV3 sh args with
   | none=>pr.fail
   | some vs=>if vs.length≤bd.nt then exec3 pr (cf3 T P) P fuel ⟨f,0,bd.nt,true,[],true⟩ none 0 1 bd.code ⟨envV3 vs 0,[],[],none⟩ (fin3 pr (cf3 T P) P f bd.res) else pr.fail
theorem fun3_sc {T:Tb3} (hmix:P.follows .mixedOrders=true) (hF:FnOK P (cf3 T P) Fn) (hM:FmOK P (cf3 T P) Fn) (hS:SpOK P (cf3 T P)) {fuel f:Nat} {sh:List Sh} {xs:List D} {vds:List VD} {j:Nat} {ys:List Yr} {rs:RS}
  (h:fun3 (prR P (cf3 T P) Fn m0) T P fuel f xs=some (j,ys)) (hlt:f < 1000000) (hsh:T.ash f=some sh) (hvd:vdsOf sh xs=some vds) (hrs:(T.rsk f)[j]?=some rs):SC P f vds (pack (rvsAt ys rs 0)):=by
 unfold fun3 at h
 rw [if_neg (by omega),hsh] at h
 simp only at h
 split at h
 ·cases h
 rename_i bd hbd
 split at h
 ·cases h
 rename_i vs hvs
 split at h
 case isFalse=>cases h
 rename_i hlen
 obtain ⟨fn,hin⟩:=bd3_ok hbd
 refine ⟨hin.call,fun w U as hU hX hv=>?_⟩
 have hve:eVs vs=vds.map vOf:=argV_e hvs hvd
 have hlen2:=hv.len
 simp only [Array.length_toList] at hlen2
 have hm0:Mem w U (fun _=>⟨0,0,[]⟩) (getO []):=⟨hU,by intro _ _ h;simp [getO] at h,by intro _ _ _ _ h;simp [getO] at h,by intro _ _ h;simp [getO] at h,hX⟩
 have henv:∀ (l:List VD) (i:Nat),envV (l.map vOf) i=envOf l i:=by
  intro l
  induction l with
  | nil=>intro i;rfl
  | cons x l ih=>intro i;simp only [List.map_cons,envV,envOf,ih]
 have hl2:vds.length=vs.length:=by have:=congrArg List.length hve;simpa [eVs_len] using this.symm
 have hs:SimT3 ⟨w,U,fun _=>⟨0,0,[]⟩,getO []⟩ (fun _=>[]) ⟨f,0,bd.nt,true,[],true⟩ undef ⟨envV3 vs 0,[],[],none⟩ { tmps:=as++Array.replicate (fn.ntmps - as.size) undef,defers:=[] } w:=by
  refine ⟨U,fun _=>⟨0,0,[]⟩,[],hm0,Evo.refl _ _ _ _,fun p hp=>(by simp [dzs] at hp),rfl,by simp,by simp,fun _=>rfl,by rw [hin.nt];simp;omega,fun t=>?_,fun t ht=>by cases ht⟩
  rw [tmps_get]
  show VR w U (fun _=>⟨0,0,[]⟩) (getO []) (getE (eEnv (envV3 vs 0)) t) _
  rw [envV_e,hve,henv]
  rcases envOf_VR (ι:=fun _=>⟨0,0,[]⟩) (ob:=getO []) (i:=0) hv t with h3 | h3
  ·simpa using h3
  ·rw [h3];simp only [VR,LR]
 have hwp:=exec3_sound hF hM hS inl3_ok hmix fuel (j,ys) ⟨f,0,bd.nt,true,[],true⟩ none 0 1 bd.code _ _ _ w ⟨w,U,fun _=>⟨0,0,[]⟩,getO []⟩ (fun _=>[]) undef none 0 hin.draws (fun k hk=>(hk rfl).elim) (fun _=>rfl) HdOK3.none' (fun h=>by cases h) h hs
 refine callsIn_wide.1 (show CallsIn (FW none) 0 P f as w _ from ?_)
 refine callsIn_of_wp_marks hin.hfn hin.body trivial (wpIn_mono hwp ?_)
 rintro e a w' ⟨x,st,rfl,hk,U',ι,ds,hm,he,hz,hdf,hnd,hds,hrg,hsz,hvr,_⟩
 have main:(resV3 (prR P (cf3 T P) Fn m0) P st.ob st.env bd.res fun vs=>match rsFind st.ob vs ((cf3 T P).rsk f) 0 with
   | none=>(prR P (cf3 T P) Fn m0).miss 3 f 0 0 [] x st (vs.map (formV st.ob))
   | some (j,rs)=>match allD rs with
    | true=>rdsK (prR P (cf3 T P) Fn m0) st.ob vs fun ys=>(prR P (cf3 T P) Fn m0).out j ys
    | false=>rvsK (prR P (cf3 T P) Fn m0) st.ob rs vs fun ys ks=>if nodupN ks=true then (prR P (cf3 T P) Fn m0).out j ys else (prR P (cf3 T P) Fn m0).fail)=some (j,ys) →
   LeavesInM (FW none) 0 P fn a.tmps (Post w U (pack (rvsAt ys rs 0))) a.defers .returning w':=by
  intro hq
  rw [hdf]
  refine leaves_marks ds w' hm he (fun p hp=>hz p (by simp [hp])) hnd hds fun w'' hm he g3=>?_
  have hvr:∀ t,VR w'' U' ι (getO (eOb st.ob)) (getE (eEnv st.env) t) (a.tmps.getD t undef):=fun t=>VR.keep g3 _ _ (hvr t)
  obtain ⟨rvs,h1,hq⟩:=resV3_ok hq
  obtain ⟨us,h2,h3⟩:=resV_ok (P:=P) hm hvr h1
  have hbelow:Below w.heap.size w w'':=⟨he.os,he.tape,he.output,he.size,fun b hb=>he.same b hb (by intro k o h;cases h)⟩
  have horig:∀ b,U' b→U b∨w.heap.size≤b:=fun b hb=>by
   rcases he.orig b hb with h | h | ⟨k,o,h,_⟩
   ·exact .inl h
   ·exact .inr h
   ·cases h
  have howned:∀ k o,getO (eOb st.ob) k=some o→o.owned=true→w.heap.size≤(ι k).1:=fun k o hk ho=>by
   rcases he.ownd k o hk ho (ι k).1 (by simp [Pt.foot]) with h | ⟨k0,o0,h,_⟩
   ·exact h
   ·cases h
  refine ⟨packV us,results_ok (by rw [hin.res];exact h2),?_⟩
  split at hq
  ·cases hq
  ·rename_i j' rs' hfind
   obtain ⟨i,hi1,hi2,hfit⟩:=rsFind_ok hfind
   split at hq
   ·rename_i hall
    obtain ⟨ys',rvs',g1,g2,g4⟩:=rdsK_ok hfit hall hq
    simp only [real,Option.some.injEq,Prod.mk.injEq] at g2
    obtain ⟨rfl,rfl⟩:=g2
    rw [Nat.zero_add] at hi1
    subst hi1
    have:rs'=rs:=by
     have hi2':(T.rsk f)[j']?=some rs':=hi2
     rw [hrs] at hi2';cases hi2';rfl
    subst this
    rw [g4 ys' 0 (At.self ys')]
    have:=rvD_ok hm (Us:=fun b=>U' b∨(w.heap.size≤b∧b < w''.heap.size)) (fun b hb=>.inl hb) (fun k o hk=>by
     cases ho:o.owned with
     | true=>exact .inr ⟨howned k o hk ho,hm.block hk⟩
     | false=>exact .inl ((hm.obj k o hk).blk ho)) g1 h3
    refine ⟨packV us,fun b=>U' b∨(w.heap.size≤b∧b < w''.heap.size),[],rfl,hbelow,fun b hb=>.inl (he.sub b hb),?_,by simp,by simp,pack_ok this⟩
    rintro b (hb | hb)
    ·exact ⟨hm.lt b hb,horig b hb⟩
    ·exact ⟨hb.2,.inr hb.1⟩
   ·obtain ⟨ys',u,ko,kd,g1,g2,g3',g4,g5⟩:=rvsK_ok hm h3 hq
    split at g1
    case isFalse=>cases g1
    rename_i hnod
    have hnod':=nodupN_ok hnod
    have hnd2:(ko++kd).Nodup:=g2.nodup_iff.1 hnod'
    simp only [real,Option.some.injEq,Prod.mk.injEq] at g1
    obtain ⟨rfl,rfl⟩:=g1
    rw [Nat.zero_add] at hi1
    subst hi1
    have:rs'=rs:=by
     have hi2':(T.rsk f)[j']?=some rs':=hi2
     rw [hrs] at hi2';cases hi2';rfl
    subst this
    let Us:Nat→Prop:=fun b=>U' b∨∃ q∈kd,(ι q).1=b
    have hUs:=g5 Us (fun b hb=>.inl hb) (fun q hq=>.inr ⟨q,hq,rfl⟩) ys' 0 (At.self ys')
    refine ⟨packV us,Us,ko.map fun q=>(ι q).1,rfl,hbelow,fun b hb=>.inl (he.sub b hb),?_,?_,?_,pack_ok hUs⟩
    ·rintro b (hb | ⟨q,hq,rfl⟩)
     ·exact ⟨hm.lt b hb,horig b hb⟩
     ·obtain ⟨o,ho⟩:=g4 q hq
      refine ⟨hm.block ho,?_⟩
      cases how:o.owned with
      | true=>exact .inr (howned q o ho how)
      | false=>exact horig _ ((hm.obj q o ho).blk how)
    ·have key:∀ {ks:List Nat},ks.Nodup→(∀ k∈ks,∃ o,getO (eOb st.ob) k=some o∧o.owned=true)→(ks.map fun k=>(ι k).1).Nodup:=by
      intro ks
      induction ks with
      | nil=>intro _ _;simp
      | cons k ks ih =>
       intro hn ho
       simp only [List.nodup_cons] at hn
       simp only [List.map_cons,List.nodup_cons]
       refine ⟨?_,ih hn.2 fun k' hk'=>ho k' (by simp [hk'])⟩
       intro hmem
       obtain ⟨k',hk',heq⟩:=List.mem_map.1 hmem
       obtain ⟨o,h5,h6⟩:=ho k (by simp)
       obtain ⟨o',h7,h8⟩:=ho k' (by simp [hk'])
       exact hm.inj k k' o o' h5 h7 h6 h8 (fun e=>hn.1 (e ▸ hk')) (ι k).1 (by simp [Pt.foot]) (by rw [←heq];simp [Pt.foot])
     exact key (List.nodup_append.1 hnd2).1 g3'
    ·intro b hb
     obtain ⟨k,hk,rfl⟩:=List.mem_map.1 hb
     obtain ⟨o,h5,h6⟩:=g3' k hk
     refine ⟨howned k o h5 h6,hm.block h5,?_⟩
     rintro (hb | ⟨q,hq,heq⟩)
     ·exact hm.notU h5 h6 hb
     ·obtain ⟨o',ho'⟩:=g4 q hq
      have hne:k≠q:=fun e=>(List.nodup_append.1 hnd2).2.2 k hk q hq e
      cases how:o'.owned with
      | true=>exact hm.inj k q o o' h5 ho' h6 how hne (ι k).1 (by simp [Pt.foot]) (by rw [←heq];simp [Pt.foot])
      | false =>
       have:=(hm.obj q o' ho').blk how
       rw [heq] at this
       exact hm.notU h5 h6 this
 cases x with
 | normal=>exact main hk
 | ret=>exact main hk
 | exit id=>cases hk
mutual
theorem leafM_len {Fn:Nat→List D→Out} {FnD:D→List Sh→List D→Out} {m:Nat} {ρ:Nat→Nat}:∀ (s:L3 Unit Unit) (x:L3r) (ys:List D),leafM (real Fn FnD m) ρ s x=some ys→ys.length=cntL s
 | .d _,x,ys,h=>by
  simp only [leafM] at h
  split at h
  ·cases h;rfl
  ·cases h
 | .fn f cs,x,ys,h=>by
  cases x with
  | fn f' cs' =>
   simp only [leafM] at h
   split at h
   ·simp only [cntL];exact leafMs_len' cs cs' ys h
   ·cases h
  | _=>simp [leafM] at h
 | .mk c,x,ys,h=>by
  cases x with
  | mk k =>
   simp only [leafM] at h
   split at h
   ·cases h;rfl
   ·cases h
  | _=>simp [leafM] at h
 | .ptr c o,x,ys,h=>by
  cases x with
  | ptr k o' =>
   simp only [leafM] at h
   split at h
   ·cases h;rfl
   ·cases h
  | _=>simp [leafM] at h
 | .dp q o,x,ys,h=>by
  cases x with
  | dp row o' =>
   simp only [leafM] at h
   split at h
   ·rename_i e;cases h;exact e.1.symm
   ·cases h
  | _=>simp [leafM] at h
 | .mq c,x,ys,h=>by
  cases x with
  | mq k =>
   simp only [leafM] at h
   split at h
   ·cases h;rfl
   ·cases h
  | _=>simp [leafM] at h
 | .slk c none _ _,x,ys,h=>by
  cases x with
  | slk k off n c' =>
   cases off with
   | none =>
    simp only [leafM] at h
    split at h
    ·cases h;rfl
    ·cases h
   | some o=>simp [leafM] at h
  | _=>simp [leafM] at h
 | .b _,_,_,h | .i _ _,_,_,h | .nil,_,_,h | .slk _ (some _) _ _,_,_,h | .pa ..,_,_,h | .undef,_,_,h | .pb ..,_,_,h | .px ..,_,_,h | .np,_,_,h=>by simp [leafM] at h
theorem leafMs_len' {Fn:Nat→List D→Out} {FnD:D→List Sh→List D→Out} {m:Nat} {ρ:Nat→Nat}:∀ (ss:List (L3 Unit Unit)) (xs:List L3r) (ys:List D),leafMs (real Fn FnD m) ρ ss xs=some ys→ys.length=cntLs ss
 | [],[],ys,h=>by simp only [leafMs,Option.some.injEq] at h;subst h;rfl
 | s::ss,x::xs,ys,h=>by
  simp only [leafMs] at h
  split at h
  ·rename_i a b ha hb
   cases h
   simp only [List.length_append,cntLs,leafM_len s x a ha,leafMs_len' ss xs b hb]
  ·cases h
 | [],_::_,_,h=>by simp [leafMs] at h
 | _::_,[],_,h=>by simp [leafMs] at h
end
theorem leafOb_len {Fn:Nat→List D→Out} {FnD:D→List Sh→List D→Out} {m:Nat} {ρ:Nat→Nat} {ob:Ur} {wn:Bool}:∀ {os:List (Nat×O3 Unit Unit Unit Unit)} {ys:List D},leafOb (real Fn FnD m) ρ ob wn os=some ys→ys.length=cntO os:=by
 intro os
 induction os with
 | nil=>intro ys h;simp only [leafOb,Option.some.injEq] at h;subst h;rfl
 | cons p os ih =>
  intro ys h
  obtain ⟨c,o⟩:=p
  cases o with
  | box cells e =>
   simp only [leafOb] at h
   split at h
   ·split at h
    ·split at h
     ·rename_i a b ha hb
      cases h
      simp only [List.length_append,cntO,leafMs_len' _ _ _ ha,ih hb]
     ·cases h
    ·cases h
   ·cases h
  | arr rows s e o =>
   simp only [leafOb] at h
   split at h
   ·split at h
    ·split at h
     ·rename_i b hb
      cases h
      simp only [List.length_cons,cntO,ih hb];omega
     ·cases h
    ·cases h
   ·cases h
  | mp g mm o =>
   cases o with
   | false=>simp [leafOb] at h
   | true =>
    simp only [leafOb] at h
    split at h
    ·split at h
     ·split at h
      ·rename_i b hb
       cases h
       simp only [List.length_cons,cntO,ih hb];omega
      ·cases h
     ·cases h
    ·cases h
  | ml keys vals=>simp [leafOb] at h
  | arn rows s e o=>simp [leafOb] at h
  | am keys rows size =>
   simp only [leafOb] at h
   split at h
   ·split at h
    ·split at h
     ·rename_i b hb
      cases h
      simp only [List.length_cons,cntO,ih hb];omega
     ·cases h
    ·cases h
   ·cases h
theorem resMC_ok {res:Option (Bool×Nat)} {v:V3r} {cs:List L3r} (h:resMC res v=some cs):cs.length=resN res∧∀ {w:World} {U:Nat→Prop} {ι:Pl} {ob:Ob} {vv:Value},VR w U ι ob (eV v) vv →
  ∃ cells,LF w U ι ob (eLs cs) cells∧∀ {U2:Nat→Prop} {ι2:Pl} {ob2:Ob} {ds:List D} {e:Nat→D},(∀ i,i < ds.length→ds[i]?=some (e i))→ds.length=cs.length→FR w U2 ds cells→VR w U2 ι2 ob2 (eV (resMV (N:=Nat) e res)) vv:=by
 unfold resMC at h
 split at h
 ·cases h
  exact ⟨rfl,fun hv=>⟨[],by simp [eLs,LF],fun _ _ _=>by simpa only [resMV,eV,eVs,VR,VF] using hv⟩⟩
 ·rename_i x
  cases h
  refine ⟨rfl,fun {w U ι ob vv} hv=>?_⟩
  simp only [eV,VR] at hv
  refine ⟨[vv],by simp only [eLs,LF];exact ⟨vv,[],rfl,hv,rfl⟩,fun {U2 ι2 ob2 ds e} he hl hf=>?_⟩
  match ds,hl,he with
  | [d],_,he =>
   have e0:d=e 0:=by simpa using he 0 (by simp)
   simp only [FR] at hf
   obtain ⟨v1,vs1,e1,h1,_⟩:=hf
   cases e1
   simp only [resMV,eV,eL,VR,LR]
   rw [←e0];exact h1
 ·rename_i n xs
  split at h
  ·rename_i hn
   cases h
   refine ⟨hn,fun {w U ι ob vv} hv=>?_⟩
   simp only [eV,VR] at hv
   obtain ⟨cells,rfl,hv⟩:=hv
   refine ⟨cells.toList,hv,fun {U2 ι2 ob2 ds e} he hl hf=>?_⟩
   simp only [resMV,eV,VR]
   refine ⟨cells,rfl,?_⟩
   have e1:eLs ((List.range n).map fun i=>L3.d (e i))=((List.range n).map e).map L.d:=by rw [eLs_map,List.map_map,List.map_map];rfl
   have e2:(List.range n).map e=ds:=by
    apply List.ext_getElem?
    intro i
    rw [List.getElem?_map]
    by_cases hi:i < n
    ·rw [List.getElem?_range hi]
     exact (he i (by omega)).symm
    ·rw [List.getElem?_eq_none (by simpa using hi),List.getElem?_eq_none (by omega)];rfl
   rw [e1,e2]
   exact row_LF hf
  ·cases h
 ·cases h
theorem funM_ok {T:Tb3} {Fn:Nat→List D→Out} {m0:Nat} (hmix:P.follows .mixedOrders=true) (hF:FnOK P (cf3 T P) Fn) (hM:FmOK P (cf3 T P) Fn) (hS:SpOK P (cf3 T P)) {fuel f:Nat} {ms:Ms} {xs:List D} {zs:List Yr}
  (h:funM (prR P (cf3 T P) Fn m0) T P fuel f ms xs=some (0,zs)):MC P f ms xs zs:=by
 unfold funM at h
 split at h
 ·cases h
 rename_i hok
 split at h
 ·cases h
 rename_i bd hbd
 obtain ⟨o1,ys,ho1,h⟩:=fillMO_ok h
 split at h
 ·cases h
 rename_i vs rest hvs
 rw [fillMVs_rM] at hvs
 obtain ⟨fn,hin⟩:=bd3_ok hbd
 obtain ⟨hC,hCa,hCo⟩:=okMs_ok hok
 obtain ⟨hcall,hrun⟩:=inl_ok3 (kk:=finM (prR P (cf3 T P) Fn m0) ms) (exec3_sound hF hM hS inl3_ok hmix fuel) hin h
 refine ⟨hcall,fun vs' ys' rest' o1' h2 h1 m w U ι as hm hv=>?_⟩
 rw [ho1] at h2
 simp only [Option.some.injEq,Prod.mk.injEq] at h2
 obtain ⟨rfl,rfl⟩:=h2
 rw [hvs] at h1
 simp only [Option.some.injEq,Prod.mk.injEq] at h1
 obtain ⟨rfl,rfl⟩:=h1
 refine CallsIn.mono (hrun m w U ι as hm hv) ?_
 rintro e w' ⟨v,vv,ob',U',ι',he,hk,m1,m2,m3⟩
 have core:∀ (cs:List L3r) (cells:List Value),LF w' U' ι' (getO (eOb ob')) (eLs cs) cells→cs.length=resN ms.res →
   finK (prR P (cf3 T P) Fn m0) ms ob' cs=some (0,zs) →
   ∃ o2 U2 ds us,fillRO id ms.wn ms.obs ((List.range (cntO ms.obs)).map fun i=>ldR zs (resN ms.res+i))=some (o2,[])∧Mem w' U2 ι' (getO (eOb o2))∧Evo w U ι (getO (eOb o1)) w' U2 ι' (getO (eOb o2))∧FR w' U2 ds cells∧ds.length=cs.length ∧
    (∀ i,i < ds.length→ds[i]?=some (ldR zs i))∧(cs=[]→us=[])∧∀ c∈ms.obs.map (·.1),getO (eOb o2) c=putO (getO (eOb ob')) us c:=by
  intro cs cells hcl hlen hk
  unfold finK at hk
  obtain ⟨ds,us,rd,h1,_,hk⟩:=frzs3_ok hk
  split at hk
  case h_2=>cases hk
  rename_i ys2 hys
  simp only [real,Option.some.injEq,Prod.mk.injEq,true_and] at hk
  subst hk
  obtain ⟨o2,ho2,hmate⟩:=leafOb_ok (τ:=id) (σ:=id) hys (fun p hp=>⟨rfl,fun c hc=>rfl⟩) (by simpa using hC) []
  rw [List.append_nil] at ho2
  have hlen2:ys2.length=cntO ms.obs:=leafOb_len hys
  have hobf:getO (eOb (addO3 us ob'))=putO (getO (eOb ob')) (eOb us):=by rw [addO_e,getO_addO]
  obtain ⟨U2,n1,n2,n3,_⟩:=frzs_ok h1 (SameBut.refl _) m1 hcl
  have hdl:ds.length=cs.length:=by
   have e1:=n3.len
   have e2:=hcl.len
   rw [eLs_length] at e2
   omega
  have hld:∀ i,i < ds.length→ds[i]?=some (ldR ((ds++ys2).map Y.d) i):=by
   intro i hi
   have:((ds++ys2).map Y.d)[i]?=some (Y.d ds[i]:Yr):=by
    rw [List.getElem?_map,List.getElem?_append_left hi,List.getElem?_eq_getElem hi];rfl
   unfold ldR
   rw [this]
   simp [List.getElem?_eq_getElem hi]
  have hlist:((List.range (cntO ms.obs)).map fun i=>ldR ((ds++ys2).map Y.d) (resN ms.res+i))=ys2:=by
   apply List.ext_getElem?
   intro i
   rw [List.getElem?_map]
   by_cases hi:i < cntO ms.obs
   ·rw [List.getElem?_range hi]
    have:i < ys2.length:=by omega
    simp [ldR,← hlen,← hdl,List.getElem?_append_right,List.getElem?_eq_getElem this]
   ·rw [List.getElem?_eq_none (by simpa using hi),List.getElem?_eq_none (by omega)];rfl
  have mate:∀ c∈ms.obs.map (·.1),∃ oa,getO (eOb (addO3 us ob')) c=some oa∧getO (eOb o2) c=some oa∧∀ k∈oa.keysOf,k∈ms.obs.map (·.1):=fun c hc=>by
   obtain ⟨p,hp,rfl⟩:=List.mem_map.1 hc
   obtain ⟨oa,ob2,e1,e2,e3,_⟩:=hmate p hp
   have:=e3.eq
   rw [O.ren_id] at this
   rw [this] at e2
   refine ⟨oa,e1,e2,fun k hk=>?_⟩
   obtain ⟨d,d1,rfl⟩:=e3.keys k hk
   exact hCo p hp d d1
  have hdom:∀ k o,getO (eOb o2) k=some o→k∈ms.obs.map (·.1):=fun k o hk=>by
   have:=mem_getO hk
   rw [fillRO_dom ho2,List.map_id] at this
   exact this
  have hdom1:∀ k o,getO (eOb o1) k=some o→k∈ms.obs.map (·.1):=fun k o hk=>by
   have:=mem_getO hk
   rw [fillRO_dom ho1,List.map_id] at this
   exact this
  have hsub:∀ k,getO (eOb o2) k=putO (getO (eOb ob')) (eOb us) k∨getO (eOb o2) k=none:=fun k=>by
   cases hk:getO (eOb o2) k with
   | none=>exact .inr rfl
   | some o =>
    obtain ⟨oa,e1,e2,_⟩:=mate k (hdom k o hk)
    rw [hk] at e2
    cases e2
    rw [hobf] at e1
    exact .inl e1.symm
  have hshut:∀ k o,getO (eOb o2) k=some o→∀ j∈o.keysOf,getO (eOb o2) j=putO (getO (eOb ob')) (eOb us) j:=fun k o hk j hj=>by
   obtain ⟨oa,e1,e2,e3⟩:=mate k (hdom k o hk)
   rw [hk] at e2
   cases e2
   obtain ⟨oj,g1,g2,_⟩:=mate j (e3 j hj)
   rw [hobf] at g1
   rw [g1,g2]
  refine ⟨o2,U2,ds,eOb us,by rw [hlist];exact ho2,n1.sub hsub hshut,?_,n3,hdl,hld,fun e=>?_,fun c hc=>?_⟩
  ·refine Evo.subO (B:=⟨w,U,ι,getO (eOb o1)⟩) (m2.trans n2) hsub fun k hk=>?_
   cases ho:getO (eOb o1) k with
   | none=>exact absurd ho hk
   | some o =>
    obtain ⟨oa,e1,e2,_⟩:=mate k (hdom1 k o ho)
    rw [hobf] at e1
    rw [e1,e2]
  ·subst e
   simp only [eLs,frzs,Q.run,Option.some.injEq,Prod.mk.injEq] at h1
   exact h1.2.symm
  ·obtain ⟨oa,e1,e2,_⟩:=mate c hc
   rw [hobf] at e1
   rw [e1,e2]
 unfold finM chkRef at hk
 split at hk
 ·rename_i href
  split at hk
  ·cases hk
  rename_i cs hcs
  obtain ⟨hlen,hres⟩:=resMC_ok hcs
  obtain ⟨cells,hcl,hres⟩:=hres m3
  obtain ⟨o2,U2,ds,us,g1,g2,g3,g4,g5,g6,_⟩:=core cs cells hcl hlen hk
  refine ⟨vv,o2,[],U2,ι',he,g1,g2,g3,?_⟩
  unfold resOf
  rw [href]
  exact hres g6 g5 g4
 ·rename_i c href
  split at hk
  ·rename_i key n mm
   split at hk
   ·rename_i hcond
    obtain ⟨rfl,hnone,hmem⟩:=hcond
    split at hk
    ·rename_i rows size elem own hob
     obtain ⟨hn,hk⟩:=real_eqN hk
     obtain ⟨hmm,hk⟩:=real_eqN hk
     obtain ⟨o2,U2,ds,us,g1,g2,g3,_,_,_,g7,g8⟩:=core [] [] (by simp [eLs,LF]) (by rw [hnone];rfl) hk
     refine ⟨vv,o2,[],U2,ι',he,g1,g2,g3,?_⟩
     have hk2:=g8 key (by simpa using hmem)
     rw [g7 rfl] at hk2
     simp only [putO] at hk2
     rw [getO_e,getO_e,hob] at hk2
     obtain ⟨o3,e4,e5⟩:=Option.bind_eq_some_iff.1 hk2
     have ho3:o3=.arr rows size elem own:=eO_arr_of (fun _ _ _ _=>fillRO_arn g1 e4) e5
     have hn':n=rows.length:=hn
     have hmm':mm=rows.length:=hmm
     unfold resOf
     rw [href]
     simp only [id,e4,ho3,eV,eL,VR,LR] at m3 ⊢
     obtain ⟨rows2,size2,elem2,own2,q1,q2,q3,q4⟩:=m3
     rw [getO_e,hob] at q1
     cases q1
     rw [hn',hmm'] at q3
     rw [hn'] at q4
     exact ⟨rows,size,elem,own,by rw [getO_e,e4,ho3];rfl,Nat.le_refl _,q3,q4⟩
    ·cases hk
   ·cases hk
  ·cases hk
def FnT (B:(Nat→List D→Out)→Nat→List D→Out) (T:Tb3) (P:Program) (m0 fuel:Nat):Nat→Nat→List D→Out
 | 0=>fun _ _=>none
 | n+1=>fun f xs=>(B (FnT B T P m0 fuel n) f xs).or (fun3 (prR P (cf3 T P) (FnT B T P m0 fuel n) m0) T P fuel f xs)
theorem FnT_both {B:(Nat→List D→Out)→Nat→List D→Out} {T:Tb3} (hmix:P.follows .mixedOrders=true) (hS:SpOK P (cf3 T P)) (hB:∀ Fn,FnOK P (cf3 T P) Fn→FnOK P (cf3 T P) (B Fn)) (hB':∀ Fn f xs,B Fn (f+1000000) xs=none) {m0 fuel:Nat}:∀ n,FnOK P (cf3 T P) (FnT B T P m0 fuel n)∧FmOK P (cf3 T P) (FnT B T P m0 fuel n)
 | 0=>⟨fun f sh xs vs j ys rs _ _ h _=>(by rw [FnT] at h;cases h),fun f ms xs zs _ h=>(by rw [FnT] at h;cases h)⟩
 | n+1=>by
  obtain ⟨h1,h2⟩:=FnT_both hmix hS hB hB' (m0:=m0) (fuel:=fuel) n
  refine ⟨fun f sh xs vs j ys rs hsh hvd h hrs=>?_,fun f ms xs zs hms h=>funM_ok hmix h1 h2 hS (fuel:=fuel) (m0:=m0) ?_⟩
  ·have hsh':(if f < 1000000 then T.ash f else none)=some sh:=hsh
   split at hsh'
   ·rename_i hlt
    have h:(B (FnT B T P m0 fuel n) f xs).or (fun3 (prR P (cf3 T P) (FnT B T P m0 fuel n) m0) T P fuel f xs)=some (j,ys):=h
    cases hb:B (FnT B T P m0 fuel n) f xs with
    | some r =>
     rw [hb] at h
     cases h
     exact hB _ h1 f sh xs vs j ys rs hsh hvd hb hrs
    | none =>
     rw [hb] at h
     exact fun3_sc hmix h1 h2 hS h hlt hsh' hvd hrs
   ·cases hsh'
  ·rw [FnT] at h
   dsimp only at h
   rw [hB',Option.none_or] at h
   have h':fun3 (prR P (cf3 T P) (FnT B T P m0 fuel n) m0) T P fuel (f+1000000) xs=some (0,zs):=h
   unfold fun3 at h'
   rw [if_pos (by omega),Nat.add_sub_cancel,show T.ms f=some ms from hms] at h'
   exact h'
theorem FnT_ok {B:(Nat→List D→Out)→Nat→List D→Out} {T:Tb3} (hmix:P.follows .mixedOrders=true) (hS:SpOK P (cf3 T P)) (hB:∀ Fn,FnOK P (cf3 T P) Fn→FnOK P (cf3 T P) (B Fn)) (hB':∀ Fn f xs,B Fn (f+1000000) xs=none) {m0 fuel:Nat} (n:Nat):FnOK P (cf3 T P) (FnT B T P m0 fuel n):=(FnT_both hmix hS hB hB' n).1
theorem FnT_okM {B:(Nat→List D→Out)→Nat→List D→Out} {T:Tb3} (hmix:P.follows .mixedOrders=true) (hS:SpOK P (cf3 T P)) (hB:∀ Fn,FnOK P (cf3 T P) Fn→FnOK P (cf3 T P) (B Fn)) (hB':∀ Fn f xs,B Fn (f+1000000) xs=none) {m0 fuel:Nat} (n:Nat):FmOK P (cf3 T P) (FnT B T P m0 fuel n):=(FnT_both hmix hS hB hB' n).2
end Go.VE
namespace Go.VE
open Go.RowKit
def il (n:Int):D:=.lit (.int .i64 n)
def bl (b:Bool):D:=.lit (.bool b)
section
variable {Fn:Nat→List D→Out} {FnD:D→List Sh→List D→Out} {m:Nat}
theorem r_fail:(real Fn FnD m).fail=none:=rfl
theorem r_out (j:Nat) (ys:List Yr):(real Fn FnD m).out j ys=some (j,ys):=rfl
theorem r_bnd (j:Nat) (ys:List Yr) (ks:List (List Yr→Out)):(real Fn FnD m).bnd (some (j,ys)) ks=match ks[j]? with | some k=>k ys | none=>none:=rfl
theorem r_bnd0 (ys:List Yr) (k:List Yr→Out) (ks:List (List Yr→Out)):(real Fn FnD m).bnd (some (0,ys)) (k::ks)=k ys:=rfl
theorem r_bnd1 (ys:List Yr) (k0 k:List Yr→Out) (ks:List (List Yr→Out)):(real Fn FnD m).bnd (some (1,ys)) (k0::k::ks)=k ys:=rfl
theorem r_bnd2 (ys:List Yr) (k0 k1 k:List Yr→Out) (ks:List (List Yr→Out)):(real Fn FnD m).bnd (some (2,ys)) (k0::k1::k::ks)=k ys:=rfl
theorem r_bnd3 (ys:List Yr) (k0 k1 k2 k:List Yr→Out) (ks:List (List Yr→Out)):(real Fn FnD m).bnd (some (3,ys)) (k0::k1::k2::k::ks)=k ys:=rfl
theorem r_bndN (ks:List (List Yr→Out)):(real Fn FnD m).bnd none ks=none:=rfl
theorem r_bnd_ite (c:Prop) [Decidable c] (a b:Out) (ks:List (List Yr→Out)):(real Fn FnD m).bnd (if c then a else b) ks=if c then (real Fn FnD m).bnd a ks else (real Fn FnD m).bnd b ks:=by split<;>rfl
theorem r_loop (bs:List ((Nat→List Yr→Out)→List Yr→Out)) (j:Nat) (ys:List Yr):(real Fn FnD m).loop bs j ys=loopR bs m j ys:=rfl
theorem r_call (f:Nat) (xs:List D):(real Fn FnD m).call f xs=Fn f xs:=rfl
theorem r_callD (x:D) (sh:List Sh) (xs:List D):(real Fn FnD m).callD x sh xs=FnD x sh xs:=rfl
theorem r_cond (b:Bool) (x y:Out):(real Fn FnD m).cond (bl b) x y=if b=true then x else y:=by cases b<;>rfl
theorem r_ld0 (x:D) (e:List Yr):(real Fn FnD m).ld (.d x::e) 0=x:=rfl
theorem r_lds (y:Yr) (e:List Yr) (j:Nat):(real Fn FnD m).ld (y::e) (j+1)=(real Fn FnD m).ld e j:=by simp [real]
theorem r_ln0 (x:Nat) (e:List Yr):(real Fn FnD m).ln (.n x::e) 0=x:=rfl
theorem r_lns (y:Yr) (e:List Yr) (j:Nat):(real Fn FnD m).ln (y::e) (j+1)=(real Fn FnD m).ln e j:=by simp [real]
theorem r_lr0 (x:Rr) (e:List Yr):(real Fn FnD m).lr (.r x::e) 0=x:=rfl
theorem r_lrs (y:Yr) (e:List Yr) (j:Nat):(real Fn FnD m).lr (y::e) (j+1)=(real Fn FnD m).lr e j:=by simp [real]
theorem r_lm0 (x:Mr) (e:List Yr):(real Fn FnD m).lm (.m x::e) 0=x:=rfl
theorem r_lms (y:Yr) (e:List Yr) (j:Nat):(real Fn FnD m).lm (y::e) (j+1)=(real Fn FnD m).lm e j:=by simp [real]
theorem r_liti (n:Int):(real Fn FnD m).lit (.int .i64 n)=il n:=rfl
theorem r_litb (b:Bool):(real Fn FnD m).lit (.bool b)=bl b:=rfl
theorem r_natD (n:Nat):(real Fn FnD m).natD n=il n:=rfl
theorem r_natN (n:Nat):(real Fn FnD m).natN n=n:=rfl
theorem r_addN (a b:Nat):(real Fn FnD m).addN a b=a+b:=rfl
theorem r_slN0 (s:Nat):(real Fn FnD m).slN s ([]:Rr)=.lit (.slice none 0 0):=rfl
theorem r_slN1 (s:Nat) (a:List D) (r:Rr):(real Fn FnD m).slN s (a::r:Rr)=.sl s (a::r):=rfl
theorem r_slD (s:Nat) (r:Rr):(real Fn FnD m).slD s r=.sl s r:=rfl
theorem r_dpD (l:List D) (o:Nat):(real Fn FnD m).dpD l o=.dp l o:=rfl
def dSl (s:Nat):Option Rr→D
 | none=>.lit (.slice none 0 0)
 | some rows=>.sl s rows
theorem r_lenDS (s:Nat) (o:Option Rr) (k:D→Out):(real Fn FnD m).lenD (dSl s o) k=k (il (o.getD []).length):=by cases o<;>rfl
theorem r_rowsDS (s:Nat) (o:Option Rr) (k:Rr→Out):(real Fn FnD m).rowsD s (dSl s o) k=k (o.getD []):=by cases o<;>simp [real,dSl,rowsDD]
theorem r_nilES (s:Nat) (o:Option Rr) (a b:Out):(real Fn FnD m).nilE (dSl s o) a b=if o.isNone=true then a else b:=by cases o<;>rfl
theorem r_nilE0 (a b:Out):(real Fn FnD m).nilE (.lit (.slice none 0 0)) a b=a:=rfl
theorem r_nilE1 (s:Nat) (rows:Rr) (a b:Out):(real Fn FnD m).nilE (.sl s rows) a b=b:=rfl
theorem r_fnD (f:Nat) (l:List D):(real Fn FnD m).fnD f l=.fn f l:=rfl
theorem r_len (r:Rr):(real Fn FnD m).len r=r.length:=rfl
theorem r_rows (r:Rr):(real Fn FnD m).rows r=r:=rfl
theorem r_repl (n:Nat) (l:List D):(real Fn FnD m).repl n l=List.replicate n l:=rfl
theorem r_app (a b:Rr):(real Fn FnD m).app a b=a++b:=rfl
theorem r_seg0 (r:Rr) (n:Nat):(real Fn FnD m).seg r none n=r.take n:=rfl
theorem r_seg1 (r:Rr) (o n:Nat):(real Fn FnD m).seg r (some o) n=(r.drop o).take n:=rfl
theorem r_setR (r:Rr) (i:Nat) (l:List D):(real Fn FnD m).setR r i l=r.set i l:=rfl
theorem r_emp:(real Fn FnD m).emp=([],[]):=rfl
theorem r_cell0 (x:D) (l:List D):(real Fn FnD m).cell (x::l) 0=x:=rfl
theorem r_cells (x:D) (l:List D) (j:Nat):(real Fn FnD m).cell (x::l) (j+1)=(real Fn FnD m).cell l j:=by simp [real]
theorem r_eqN (a b:Nat) (k:Out):(real Fn FnD m).eqN a b k=if a=b then k else none:=rfl
theorem r_leN (a b:Nat) (k:Out):(real Fn FnD m).leN a b k=if a≤b then k else none:=rfl
theorem r_isPtr (row:List D) (o:Nat) (k:Out):(real Fn FnD m).isPtr (.dp row o) k=k:=rfl
theorem r_nilD (k:Out):(real Fn FnD m).nilD (.lit (.slice none 0 0)) k=k:=rfl
theorem r_lss (b:Bool) (x y:Int) (k:D→Out):(real Fn FnD m).bin .lss b (il x) (il y) k=k (bl (decide (x < y))):=rfl
theorem r_leq (b:Bool) (x y:Int) (k:D→Out):(real Fn FnD m).bin .leq b (il x) (il y) k=k (bl (decide (x≤y))):=rfl
theorem r_gtr (b:Bool) (x y:Int) (k:D→Out):(real Fn FnD m).bin .gtr b (il x) (il y) k=k (bl (decide (y < x))):=rfl
theorem r_geq (b:Bool) (x y:Int) (k:D→Out):(real Fn FnD m).bin .geq b (il x) (il y) k=k (bl (decide (y≤x))):=rfl
theorem r_eql (b:Bool) (x y:Int) (k:D→Out):(real Fn FnD m).bin .eql b (il x) (il y) k=k (bl (decide (x=y))):=rfl
theorem r_neq (b:Bool) (x y:Int) (k:D→Out):(real Fn FnD m).bin .neq b (il x) (il y) k=k (bl (decide (x≠y))):=by simp [real,binD,il,aBin,optO,bl,bne,BEq.beq]
theorem r_eqlB (x y:Bool) (k:D→Out):(real Fn FnD m).bin .eql true (bl x) (bl y) k=k (bl (x==y)):=rfl
theorem r_neqB (x y:Bool) (k:D→Out):(real Fn FnD m).bin .neq true (bl x) (bl y) k=k (bl (x != y)):=rfl
theorem r_add (b:Bool) (x y:Int) (k:D→Out):(real Fn FnD m).bin .add b (il x) (il y) k=k (il (IntKind.i64.wrap (x+y))):=rfl
theorem r_sub (b:Bool) (x y:Int) (k:D→Out):(real Fn FnD m).bin .sub b (il x) (il y) k=k (il (IntKind.i64.wrap (x - y))):=rfl
theorem r_mul (b:Bool) (x y:Int) (k:D→Out):(real Fn FnD m).bin .mul b (il x) (il y) k=k (il (IntKind.i64.wrap (x*y))):=rfl
theorem r_not (b:Bool) (k:D→Out):(real Fn FnD m).un .not (bl b) k=k (bl !b):=rfl
theorem r_neg (n:Int) (k:D→Out):(real Fn FnD m).un .neg (il n) k=k (il (IntKind.i64.wrap (0 - n))):=rfl
theorem r_mm (mx:Bool) (x y:Int) (k:D→Out):(real Fn FnD m).mm mx (il x) (il y) k=k (il (if mx then max x y else min x y)):=by simp [real,mmD,il,optO]
theorem r_lenD (s:Nat) (r:Rr) (k:D→Out):(real Fn FnD m).lenD (.sl s r) k=k (il r.length):=rfl
theorem r_lenN (k:D→Out):(real Fn FnD m).lenD (.lit (.slice none 0 0)) k=k (il 0):=rfl
theorem r_rowsD (s:Nat) (r:Rr) (k:Rr→Out):(real Fn FnD m).rowsD s (.sl s r) k=k r:=by simp [real,rowsDD]
theorem r_rowsN (s:Nat) (k:Rr→Out):(real Fn FnD m).rowsD s (.lit (.slice none 0 0)) k=k []:=rfl
theorem r_isNil0 (a b:Out):(real Fn FnD m).isNil [] a b=a:=rfl
theorem r_isNil1 (x:List D) (r:Rr) (a b:Out):(real Fn FnD m).isNil (x::r) a b=b:=rfl
theorem r_cutD (s:Nat) (r:Rr) (l h:Option D) (zl zh:Option Int) (k:D→Out) (h1:oIntD l=some zl) (h2:oIntD h=some zh) (hb:0≤zl.getD 0∧zl.getD 0≤zh.getD r.length∧zh.getD r.length≤r.length) :
  (real Fn FnD m).cutD s (.sl s r) l h k=k (.sl s ((r.drop (zl.getD 0).toNat).take (zh.getD r.length - zl.getD 0).toNat)):=by
 simp only [real,h1,h2,cutDD,if_true,if_pos hb];rfl
theorem r_cutD_hi (s:Nat) (r:Rr) (n:Int) (k:D→Out) (h:0≤n∧n≤r.length):(real Fn FnD m).cutD s (.sl s r) none (some (il n)) k=k (.sl s (r.take n.toNat)):=by
 rw [r_cutD s r none (some (il n)) none (some n) k rfl rfl (by simpa using h)];simp
theorem r_cutD_lo (s:Nat) (r:Rr) (n:Int) (k:D→Out) (h:0≤n∧n≤r.length):(real Fn FnD m).cutD s (.sl s r) (some (il n)) none k=k (.sl s (r.drop n.toNat)):=by
 rw [r_cutD s r (some (il n)) none (some n) none k rfl rfl (by simpa using h)]
 congr 2
 simp only [Option.getD_some,Option.getD_none]
 rw [List.take_of_length_le]
 simp only [List.length_drop]
 omega
theorem loopR_succ (bs:List ((Nat→List Yr→Out)→List Yr→Out)) (n j:Nat) (ys:List Yr) (b:(Nat→List Yr→Out)→List Yr→Out) (h:bs[j]?=some b):loopR bs (n+1) j ys=b (loopR bs n) ys:=by simp [loopR,h]
end
attribute [simp] r_nilE0 r_nilE1 r_lenDS r_rowsDS r_nilES r_isPtr r_leN r_nilD r_fail r_out r_bnd r_bnd0 r_bnd1 r_bnd2 r_bnd3 r_bndN r_bnd_ite r_loop r_call r_callD r_cond r_ld0 r_lds r_ln0 r_lns r_lr0 r_lrs r_lm0 r_lms r_liti r_litb r_natD r_natN r_addN r_slD r_slN0 r_slN1 r_dpD r_fnD r_len r_rows r_repl r_app r_seg0 r_seg1 r_setR r_emp r_cell0 r_cells r_eqN r_lss r_leq r_gtr r_geq r_eql r_neq r_eqlB r_neqB r_add r_sub r_mul r_not r_neg r_mm r_lenD r_lenN r_rowsD r_rowsN r_isNil0 r_isNil1
theorem wrap_id {x:Int} (h1:-9223372036854775808≤x) (h2:x≤9223372036854775807):IntKind.i64.wrap x=x:=IntWalk.i64_in x ⟨h1,h2⟩
end Go.VE
namespace Go.VE
open Go.RowKit
section
variable {Fn:Nat→List D→Out} {FnD:D→List Sh→List D→Out} {m:Nat}
theorem loop_ms {σ:Type} (bs:List ((Nat→List Yr→Out)→List Yr→Out)) (en:σ→Nat×List Yr) (μ:σ→Nat) (I:σ→Prop) (res:σ→Out)
  (step:∀ s (k:Nat→List Yr→Out),I s→(∀ s',I s'→μ s' < μ s→k (en s').1 (en s').2=res s')→∃ b,bs[(en s).1]?=some b∧b k (en s).2=res s) :
  ∀ (n:Nat) (s:σ),I s→μ s < n→loopR bs n (en s).1 (en s).2=res s
 | 0,s,_,h=>absurd h (by omega)
 | n+1,s,hI,h=>by
  obtain ⟨b,hb,hr⟩:=step s (loopR bs n) hI fun s' hI' hm=>loop_ms bs en μ I res step n s' hI' (by omega)
  rw [loopR_succ _ _ _ _ _ hb];exact hr
theorem wrap_succ {i n:Nat} (h:i < n) (hn:n≤4611686018427387904):IntKind.i64.wrap ((i:Int)+1)=(i:Int)+1:=wrap_id (by omega) (by omega)
theorem range_loop {α β:Type} (l:List α) (hl:l.length≤4611686018427387904) (body:(Nat→List Yr→Out)→List Yr→Out) (en:Nat→β→List Yr) (I:Nat→β→Prop) (spec:Nat→List α→β→Out)
  (h0:∀ b k,I l.length b→body k (en l.length b)=spec l.length [] b)
  (h1:∀ i c r b k,l[i]?=some c→l.drop i=c::r→i < l.length→IntKind.i64.wrap ((i:Int)+1)=(i:Int)+1→I i b→(∀ b',I (i+1) b'→k 0 (en (i+1) b')=spec (i+1) r b')→body k (en i b)=spec i (c::r) b)
  (n:Nat) (b:β) (hI:I 0 b) (hn:l.length < n):loopR [body] n 0 (en 0 b)=spec 0 l b:=by
 have:=loop_ms (σ:=Nat×β) [body] (fun s=>(0,en s.1 s.2)) (fun s=>l.length - s.1) (fun s=>s.1≤l.length∧I s.1 s.2) (fun s=>spec s.1 (l.drop s.1) s.2) ?_ n (0,b) ⟨by simp,hI⟩ (by simpa using hn)
 ·simpa using this
 ·rintro ⟨i,b⟩ k ⟨hi,hI⟩ ih
  refine ⟨body,rfl,?_⟩
  by_cases h:i < l.length
  ·have hd:=List.drop_eq_getElem_cons h
   simp only
   rw [hd]
   refine h1 i l[i] _ b k (by simp [h]) hd h (wrap_succ h hl) hI fun b' hI'=>?_
   exact ih (i+1,b') ⟨h,hI'⟩ (by simp only;omega)
  ·have:i=l.length:=by simp only at hi;omega
   subst this
   simp only [List.drop_length]
   exact h0 b k hI
theorem M0_big {n:Nat} (h:n≤4611686018427387904):n < 18446744073709551616:=by omega
theorem r_rowDg (s s':Nat) (r:Rr) (z:Int) (k:List D→Out):(real Fn FnD m).rowD s (.sl s' r) (il z) k=if s'=s∧0≤z then (match r[z.toNat]? with
   | some w=>if w.length=s then k w else none
   | none=>none) else none:=rfl
theorem r_eqs2 (ng:Bool) (a b a' b':Int) (k:D→Out):(real Fn FnD m).eqs [1,1] ng [il a,il b] [il a',il b'] k=k (bl (if ng then !decide (a=a'∧b=b') else decide (a=a'∧b=b'))):=by
 have:cellsEq [1,1] ([il a,il b].map .d) ([il a',il b'].map .d)=some (decide (a=a'∧b=b')):=by
  simp [cellsEq,il,litEq]
  by_cases h1:a=a'<;>by_cases h2:b=b'<;>simp [h1,h2]
 simp only [real,this];rfl
theorem r_eqs3 (ng:Bool) (a b c a' b' c':Int) (k:D→Out):(real Fn FnD m).eqs [1,1,1] ng [il a,il b,il c] [il a',il b',il c'] k=k (bl (if ng then !decide (a=a'∧b=b'∧c=c') else decide (a=a'∧b=b'∧c=c'))):=by
 have:cellsEq [1,1,1] ([il a,il b,il c].map .d) ([il a',il b',il c'].map .d)=some (decide (a=a'∧b=b'∧c=c')):=by
  simp [cellsEq,il,litEq]
  by_cases h1:a=a'<;>by_cases h2:b=b'<;>by_cases h3:c=c'<;>simp [h1,h2,h3]
 simp only [real,this];rfl
theorem r_eqs4 (ng:Bool) (a b c d a' b' c' d':Int) (k:D→Out):(real Fn FnD m).eqs [1,1,1,1] ng [il a,il b,il c,il d] [il a',il b',il c',il d'] k=k (bl (if ng then !decide (a=a'∧b=b'∧c=c'∧d=d') else decide (a=a'∧b=b'∧c=c'∧d=d'))):=by
 have:cellsEq [1,1,1,1] ([il a,il b,il c,il d].map .d) ([il a',il b',il c',il d'].map .d)=some (decide (a=a'∧b=b'∧c=c'∧d=d')):=by
  simp [cellsEq,il,litEq]
  by_cases h1:a=a'<;>by_cases h2:b=b'<;>by_cases h3:c=c'<;>by_cases h4:d=d'<;>simp [h1,h2,h3,h4]
 simp only [real,this];rfl
end
attribute [simp] r_rowDg r_eqs2 r_eqs3 r_eqs4
end Go.VE
namespace Go.VE
open Go.RowKit
section
variable {Fn:Nat→List D→Out} {FnD:D→List Sh→List D→Out} {m:Nat}
theorem r_inxg (z:Int) (n:Nat) (k:Nat→Out):(real Fn FnD m).inx (il z) n k=if 0≤z∧z < n then k z.toNat else none:=rfl
theorem r_rowAtg (s:Nat) (r:Rr) (i:Nat) (k:List D→Out):(real Fn FnD m).rowAt s r i k=match r[i]? with
  | some w=>if w.length=s then k w else none
  | none=>none:=rfl
theorem r_mkNg (bs:Nat) (n:Int) (k:Nat→Out):(real Fn FnD m).mkN bs (il n) (il n) k=if 0≤n∧bs*n≤140737488355328∧n≤9223372036854775807 then k n.toNat else none:=by simp [real,il]
theorem r_fitsg (bs n:Nat) (k:Out):(real Fn FnD m).fits bs n k=if n*bs≤140737488355328∧n≤9223372036854775807 then k else none:=rfl
theorem r_litNil:(real Fn FnD m).lit (.slice none 0 0)=.lit (.slice none 0 0):=rfl
theorem r_litsg (ys:List Yr) (k:Out):(real Fn FnD m).lits ys k=if ys.all ynLit=true then k else none:=rfl
theorem yl_i (n:Int):ynLit (.d (il n))=true:=rfl
theorem yl_b (b:Bool):ynLit (.d (bl b))=true:=rfl
end
attribute [simp] r_inxg r_rowAtg r_mkNg r_fitsg r_litNil r_litsg yl_i yl_b
@[simp] theorem il_inj (a b:Int):il a=il b↔a=b:=by simp [il]
@[simp] theorem bl_inj (a b:Bool):bl a=bl b↔a=b:=by simp [bl]
section
variable {Fn:Nat→List D→Out} {FnD:D→List Sh→List D→Out} {m:Nat}
theorem r_lookg (kd:Nat) (zs:List Value) (mm:Mr) (key:D) (k:List D→D→Out):(real Fn FnD m).look kd zs mm key k=match lookD kd zs mm key with
  | some p=>k p.1 p.2
  | none=>none:=rfl
theorem r_rowDSg (s:Nat) (o:Option Rr) (z:Int) (k:List D→Out):(real Fn FnD m).rowD s (dSl s o) (il z) k=if 0≤z then (match (o.getD [])[z.toNat]? with
   | some w=>if w.length=s then k w else none
   | none=>none) else none:=by
 cases o with
 | none=>simp [real,dSl]
 | some r=>simp only [real,dSl,il,true_and,Option.getD_some];rfl
end
attribute [simp] r_lookg r_rowDSg
theorem getD_some {α:Type} {l:List α} {k:Nat} (d:α) (h:k < l.length):l[k]?=some (l.getD k d):=by simp [h]
end Go.VE
namespace Go.VE
open Go.RowKit Go.WideShapes Go.ChangeShapes
def HasAll (H:TypeId→List D→Prop):List TypeId→List D→Prop
 | [],ds=>ds=[]
 | t::ts,ds=>∃ a b,ds=a++b∧H t a∧HasAll H ts b
def HasT (P:Program):Nat→TypeId→List D→Prop
 | 0,_,_=>False
 | n+1,t,ds=>match P.underlying t with
  | some .bool=>∃ b,ds=[.lit (.bool b)]
  | some (.int k)=>∃ z,ds=[.lit (.int k z)]∧k.min≤z∧z≤k.max
  | some .string=>∃ s,ds=[.lit (.string s)]∧s.size≤reachBytes
  | some (.slice e)=>∃ o:Option Rr,ds=[dSl (P.cellsOf e) o]∧(o.getD []).length*P.bytesOf e≤reachBytes∧∀ r∈o.getD [],HasT P n e r
  | some (.struct fs)=>HasAll (HasT P n) (fs.toList.map (·.type)) ds
  | some (.array k e)=>HasAll (HasT P n) (List.replicate k e) ds
  | _=>False
def tiles (P:Program) (ok:TypeId→Bool):List Field→Nat→Nat→Bool
 | [],o,e=>o==e
 | f::fs,o,e=>f.offset==o&&ok f.type&&tiles P ok fs (o+P.cellsOf f.type) e
def okT (P:Program):Nat→TypeId→Bool
 | 0,_=>false
 | n+1,t=>match P.underlying t with
  | some .bool=>true
  | some (.int _)=>true
  | some .string=>true
  | some (.slice e)=>decide (0 < P.cellsOf e)&&okT P n e
  | some (.struct fs)=>tiles P (okT P n) fs.toList 0 (P.cellsOf t)
  | some (.array k e)=>decide (k*P.cellsOf e=P.cellsOf t)&&okT P n e
  | _=>false
theorem mapM_len {α β:Type} {f:α→Option β}:∀ {xs:List α} {ys:List β},xs.mapM f=some ys→ys.length=xs.length∧∀ (i:Nat) (x:α),xs[i]?=some x→∃ y,ys[i]?=some y∧f x=some y
 | [],ys,h=>by
  simp only [List.mapM_nil,Option.pure_def,Option.some.injEq] at h;subst h;simp
 | x::xs,ys,h=>by
  simp only [List.mapM_cons,Option.bind_eq_bind,Option.pure_def,Option.bind_eq_some_iff,Option.some.injEq] at h
  obtain ⟨y,hy,ys',hys,rfl⟩:=h
  obtain ⟨h1,h2⟩:=mapM_len hys
  refine ⟨by simp [h1],?_⟩
  intro i z hi
  cases i with
  | zero=>simp at hi;subst hi;exact ⟨y,rfl,hy⟩
  | succ i=>simpa using h2 i z (by simpa using hi)
theorem FR_len {w:World} {U:Nat→Prop}:∀ {ds:List D} {vs:List Value},FR w U ds vs→ds.length=vs.length
 | [],vs,h=>by simp only [FR] at h;subst h;rfl
 | d::ds,vs,h=>by
  simp only [FR] at h
  obtain ⟨v,vs',rfl,_,h⟩:=h
  simp [FR_len h]
theorem FR_app {w:World} {U:Nat→Prop} {ds':List D} {vs':List Value} (h':FR w U ds' vs'):∀ {ds:List D} {vs:List Value},FR w U ds vs→FR w U (ds++ds') (vs++vs')
 | [],vs,h=>by simp only [FR] at h;subst h;simpa using h'
 | d::ds,vs,h=>by
  simp only [FR] at h
  obtain ⟨v,vs1,rfl,h1,h⟩:=h
  simp only [List.cons_append,FR]
  exact ⟨v,vs1++vs',rfl,h1,FR_app h' h⟩
theorem FR_at {w:World} {U:Nat→Prop}:∀ {ds:List D} {vs:List Value},FR w U ds vs→∀ (j:Nat) (x:D),ds[j]?=some x→∃ v,vs[j]?=some v∧DR w U x v
 | [],vs,h,j,x,hj=>by simp at hj
 | d::ds,vs,h,j,x,hj=>by
  simp only [FR] at h
  obtain ⟨v,vs1,rfl,h1,h⟩:=h
  cases j with
  | zero=>simp at hj;subst hj;exact ⟨v,rfl,h1⟩
  | succ j=>simpa using FR_at h j x (by simpa using hj)
theorem FR_one {w:World} {U:Nat→Prop} {x:D} {v:Value} (h:DR w U x v):FR w U [x] [v]:=by
 simp only [FR];exact ⟨v,[],rfl,h,rfl⟩
theorem add_add (a:Addr) (i j:Nat):a.spot=none→(a.add i).add j=⟨a.block,a.off+(i+j),none⟩:=by
 intro h
 obtain ⟨b,o,s⟩:=a
 simp only at h;subst h
 unfold Addr.add
 by_cases hi:i=0<;>by_cases hj:j=0<;>simp [hi,hj]<;>omega
theorem add_zero' (a:Addr):a.add 0=a:=rfl
theorem cell_lt {w:World} {a:Addr} {v:Value} (h:w.cell? a=some v):a.block < w.heap.size∧a.spot=none:=by
 unfold World.cell? at h
 cases hb:w.heap[a.block]? with
 | none=>rw [hb] at h;cases h
 | some o =>
  rw [hb] at h
  refine ⟨(Array.getElem?_eq_some_iff.1 hb).1,?_⟩
  cases o with
  | cells c t f =>
   simp only at h
   split at h
   ·cases h
   ·rename_i hs;simpa using hs
  | _=>cases h
variable {H:Type} {enc:TypeId×Value→H} {P:Program} {w:World}
theorem weightsAll_mem {e:TypeId}:∀ {es:List (DataW H)} {d:DataW H},d∈es→∀ x∈d.weights P e,x∈DataW.weightsAll P e es
 | [],d,h,x,hx=>by cases h
 | y::es,d,h,x,hx=>by
  simp only [DataW.weightsAll,List.mem_append]
  rcases List.mem_cons.1 h with rfl | h
  ·exact .inl hx
  ·exact .inr (weightsAll_mem h x hx)
def RdOK (H:Type) (enc:TypeId×Value→H) (P:Program) (w:World) (n:Nat) (t:TypeId):Prop :=
 ∀ (m:Nat) (cs:List Value) (d:DataW H) (ps:List MemPlace),DataW.trod enc P w 0 (fun _=>true) true m t cs=some (d,ps)→(∀ x∈d.weights P t,x≤reachBytes) →
  ∃ ds,FR w (· < w.heap.size) ds cs∧HasT P n t ds
theorem rd_fields {n m:Nat} (hcell:∀ t,okT P n t=true→RdOK H enc P w n t) {cs:List Value}:∀ {fs:List Field} {o e:Nat} {xs:List (DataW H×List MemPlace)},tiles P (okT P n) fs o e=true →
  fs.mapM (fun f=>DataW.trod enc P w 0 (fun _=>true) true m f.type ((cs.drop f.offset).take (P.cellsOf f.type)))=some xs→(∀ x∈DataW.weightsEach P (fs.map (·.type)) (xs.map (·.1)),x≤reachBytes)→cs.length=e →
  ∃ ds,FR w (· < w.heap.size) ds (cs.drop o)∧HasAll (HasT P n) (fs.map (·.type)) ds
 | [],o,e,xs,ht,h,hw,hl=>by
  simp only [tiles,beq_iff_eq] at ht
  refine ⟨[],?_,by simp [HasAll]⟩
  simp only [FR,List.drop_eq_nil_iff];omega
 | f::fs,o,e,xs,ht,h,hw,hl=>by
  simp only [tiles,Bool.and_eq_true,beq_iff_eq] at ht
  simp only [List.mapM_cons,Option.bind_eq_bind,Option.pure_def,Option.bind_eq_some_iff,Option.some.injEq] at h
  obtain ⟨⟨d,p⟩,hd,xs',hxs,rfl⟩:=h
  simp only [List.map_cons,DataW.weightsEach,List.mem_append] at hw
  obtain ⟨ds,h2,h3⟩:=hcell f.type ht.1.2 m _ d p hd (fun x hx=>hw x (.inl hx))
  obtain ⟨ds',h4,h5⟩:=rd_fields hcell ht.2 hxs (fun x hx=>hw x (.inr hx)) hl
  refine ⟨ds++ds',?_,?_⟩
  ·have:=FR_app h4 h2
   rw [ht.1.1] at this
   have e2:List.take (P.cellsOf f.type) (List.drop o cs)++List.drop (o+P.cellsOf f.type) cs=List.drop o cs:=by
    rw [←List.drop_drop];exact List.take_append_drop _ _
   rwa [e2] at this
  ·simp only [List.map_cons,HasAll]
   exact ⟨ds,ds',rfl,h3,h5⟩
theorem rd_array {n m:Nat} {t:TypeId} (hcell:RdOK H enc P w n t):∀ {k i:Nat} {cs:List Value} {xs:List (DataW H×List MemPlace)},
  (List.range' i k).mapM (fun i=>DataW.trod enc P w 0 (fun _=>true) true m t ((cs.drop (i*P.cellsOf t)).take (P.cellsOf t)))=some xs→(∀ x∈DataW.weightsAll P t (xs.map (·.1)),x≤reachBytes)→cs.length=(i+k)*P.cellsOf t →
  ∃ ds,FR w (· < w.heap.size) ds (cs.drop (i*P.cellsOf t))∧HasAll (HasT P n) (List.replicate k t) ds
 | 0,i,cs,xs,h,hw,hl=>by
  refine ⟨[],?_,by simp [HasAll]⟩
  simp only [FR,List.drop_eq_nil_iff];rw [hl];simp
 | k+1,i,cs,xs,h,hw,hl=>by
  simp only [List.range'_succ,List.mapM_cons,Option.bind_eq_bind,Option.pure_def,Option.bind_eq_some_iff,Option.some.injEq] at h
  obtain ⟨⟨d,p⟩,hd,xs',hxs,rfl⟩:=h
  simp only [List.map_cons,DataW.weightsAll,List.mem_append] at hw
  obtain ⟨ds,h2,h3⟩:=hcell m _ d p hd (fun x hx=>hw x (.inl hx))
  obtain ⟨ds',h4,h5⟩:=rd_array (k:=k) (i:=i+1) (cs:=cs) hcell hxs (fun x hx=>hw x (.inr hx)) (by rw [hl];congr 1;omega)
  refine ⟨ds++ds',?_,?_⟩
  ·have:=FR_app h4 h2
   have e2:List.take (P.cellsOf t) (List.drop (i*P.cellsOf t) cs)++List.drop ((i+1)*P.cellsOf t) cs=List.drop (i*P.cellsOf t) cs:=by
    rw [Nat.add_mul,Nat.one_mul,← List.drop_drop];exact List.take_append_drop _ _
   rwa [e2] at this
  ·simp only [List.replicate_succ,HasAll]
   exact ⟨ds,ds',rfl,h3,h5⟩
theorem rd_cells {b:Nat} {a:Addr} {n:Nat} {cs:List Value} (h:w.cells? b a n=some cs):cs.length=n∧∀ (j:Nat) (v:Value),cs[j]?=some v→w.cell? (a.add j)=some v:=by
 unfold World.cells? at h
 split at h
 case isFalse=>cases h
 obtain ⟨h1,h2⟩:=mapM_len h
 simp only [List.length_range] at h1
 refine ⟨h1,fun j v hj=>?_⟩
 have hlt:j < n:=by
  have:=(List.getElem?_eq_some_iff.1 hj).1;omega
 obtain ⟨y,hy,hc⟩:=h2 j j (by simp [hlt])
 rw [hj] at hy;cases hy;exact hc
theorem rd_slice {n m:Nat} {e:TypeId} (hcell:RdOK H enc P w n e) (hpos:0 < P.cellsOf e) {a:Addr} {len cap:Nat} {elems:List (DataW H×List MemPlace)}
  (h:(List.range len).mapM (fun i=>(w.cells? 0 (a.add (i*P.cellsOf e)) (P.cellsOf e)).bind (DataW.trod enc P w 0 (fun _=>true) true m e))=some elems) (hw:∀ x∈DataW.weightsAll P e (elems.map (·.1)),x≤reachBytes) (hlc:len≤cap) (hcm:cap≤maxLen) :
  ∃ rows:List (List D),rows.length=len∧DR w (· < w.heap.size) (.sl (P.cellsOf e) rows) (.slice (some a) len cap)∧∀ r∈rows,HasT P n e r:=by
 obtain ⟨h1,h2⟩:=mapM_len h
 simp only [List.length_range] at h1
 have key:∀ i,i < len→∃ (ds:List D) (cs:List Value),w.cells? 0 (a.add (i*P.cellsOf e)) (P.cellsOf e)=some cs∧FR w (· < w.heap.size) ds cs∧HasT P n e ds:=by
  intro i hi
  obtain ⟨⟨d,p⟩,hy,hb⟩:=h2 i i (by simp [hi])
  obtain ⟨cs,hcs,hd⟩:=Option.bind_eq_some_iff.1 hb
  have hmem:d∈elems.map (·.1):=List.mem_map.2 ⟨(d,p),List.mem_of_getElem? hy,rfl⟩
  obtain ⟨ds,h3,h4⟩:=hcell m cs d p hd (fun x hx=>hw x (weightsAll_mem hmem x hx))
  exact ⟨ds,cs,hcs,h3,h4⟩
 let f:Nat→List D:=fun i=>if hi:i < len then Classical.choose (key i hi) else []
 have hf:∀ i (hi:i < len),∃ cs,w.cells? 0 (a.add (i*P.cellsOf e)) (P.cellsOf e)=some cs∧FR w (· < w.heap.size) (f i) cs∧HasT P n e (f i):=by
  intro i hi
  have:=Classical.choose_spec (key i hi)
  simp only [f,dif_pos hi]
  exact this
 refine ⟨(List.range len).map f,by simp,?_,?_⟩
 ·simp only [DR,List.length_map,List.length_range]
  refine ⟨a,cap,rfl,hlc,hcm,fun hpos2=>?_⟩
  have hspot:a.block < w.heap.size∧a.spot=none:=by
   obtain ⟨cs,hcs,_,_⟩:=hf 0 hpos2
   obtain ⟨hl,hc⟩:=rd_cells hcs
   have:∃ v,cs[0]?=some v:=⟨cs[0],by simp [show 0 < cs.length by omega]⟩
   obtain ⟨v,hv⟩:=this
   have:=cell_lt (hc 0 v hv)
   rw [Nat.zero_mul,add_zero',add_zero'] at this
   exact this
  obtain ⟨b,o,s⟩:=a
  simp only at hspot
  obtain ⟨hb,rfl⟩:=hspot
  refine ⟨b,o,rfl,hb,RR.mk fun i r hi=>?_⟩
  rw [List.getElem?_map] at hi
  simp only [Option.map_eq_some_iff] at hi
  obtain ⟨i',hi',rfl⟩:=hi
  have hii:=List.getElem?_eq_some_iff.1 hi'
  obtain ⟨hlt,hie⟩:=hii
  simp only [List.length_range] at hlt
  simp only [List.getElem_range] at hie
  subst hie
  obtain ⟨cs,hcs,h3,h4⟩:=hf i hlt
  obtain ⟨hl,hc⟩:=rd_cells hcs
  refine ⟨by rw [FR_len h3,hl],CR.mk fun j x hj=>?_⟩
  obtain ⟨v,hv,hd⟩:=FR_at h3 j x hj
  have:=hc j v hv
  rw [add_add _ _ _ rfl] at this
  exact ⟨v,by rw [←this];congr 2;simp only;omega,hd⟩
 ·intro r hr
  simp only [List.mem_map,List.mem_range] at hr
  obtain ⟨i,hi,rfl⟩:=hr
  obtain ⟨_,_,_,h4⟩:=hf i hi
  exact h4
theorem rd:∀ (n:Nat) (t:TypeId),okT P n t=true→RdOK H enc P w n t
 | 0,t,h=>by cases h
 | n+1,t,ht=>by
  intro m cs d ps h hw
  cases m with
  | zero=>simp [DataW.trod] at h
  | succ m =>
  unfold okT at ht
  unfold DataW.trod at h
  unfold HasT
  split at h
  case h_1 hu =>
   simp only [Option.some.injEq,Prod.mk.injEq] at h
   obtain ⟨rfl,rfl⟩:=h
   rw [hu]
   exact ⟨_,FR_one (by simp only [DR,plain];exact ⟨rfl,trivial⟩),_,rfl⟩
  case h_2 k k' z hu =>
   split at h
   case isFalse=>cases h
   rename_i hk
   obtain ⟨rfl,hz⟩:=hk
   rw [hu]
   simp only [Lit.wf,Bool.and_eq_true,decide_eq_true_eq] at hz
   exact ⟨_,FR_one (x:=.lit (.int _ z)) (by simp [DR,plain]),z,rfl,hz⟩
  case h_3 hu=>rw [hu] at ht;cases ht
  case h_4 s hu =>
   split at h
   case isFalse=>cases h
   rename_i hs
   simp only [Option.some.injEq,Prod.mk.injEq] at h
   obtain ⟨rfl,rfl⟩:=h
   have hb:=hw s.data.toList.length (by simp [DataW.weights])
   rw [hu]
   refine ⟨_,FR_one (x:=.lit (.string s)) (by simp [DR,plain]),s,rfl,?_⟩
   have e:s.data.toList.length=s.size:=by simp only [Array.length_toList];rfl
   rw [←e];exact hb
  case h_5 hu=>rw [hu] at ht;cases ht
  case h_6 hu=>rw [hu] at ht;cases ht
  case h_7 e hu =>
   rw [hu]
   exact ⟨[.lit (.slice none 0 0)],FR_one (x:=.lit (.slice none 0 0)) (by simp [DR,plain]),none,rfl,by simp,by simp⟩
  case h_8 e a len cap hu =>
   rw [hu] at ht
   simp only [Bool.and_eq_true,decide_eq_true_eq] at ht
   simp only at h
   split at h
   case isFalse=>cases h
   rename_i hb
   simp only [Option.bind_eq_some_iff,Option.map_eq_some_iff,Prod.mk.injEq] at h
   obtain ⟨elems,h1,rest,_,rfl,rfl⟩:=h
   simp only [DataW.weights,hu,List.mem_cons,List.mem_append] at hw
   have hlen:=(mapM_len h1).1
   simp only [List.length_range] at hlen
   obtain ⟨rows,h3,h4,h5⟩:=rd_slice (rd n e ht.2) ht.1 h1 (fun x hx=>hw x (.inr (.inl hx))) hb.2.1 hb.2.2
   rw [hu]
   refine ⟨[.sl (P.cellsOf e) rows],FR_one h4,some rows,rfl,?_,h5⟩
   simp only [Option.getD_some]
   have:=hw _ (.inl rfl)
   simp only [List.length_map] at this
   refine Nat.le_trans (Nat.mul_le_mul_right _ ?_) this
   omega
  case h_9 fs hu =>
   rw [hu] at ht
   split at h
   case isFalse=>cases h
   rename_i hl
   simp only [Option.map_eq_some_iff,Prod.mk.injEq] at h
   obtain ⟨xs,h1,rfl,rfl⟩:=h
   simp only [DataW.weights,hu] at hw
   rw [hu]
   have:=rd_fields (fun t ht=>rd n t ht) ht h1 hw hl
   simpa using this
  case h_10 k e hu =>
   rw [hu] at ht
   simp only [Bool.and_eq_true,decide_eq_true_eq] at ht
   split at h
   case isFalse=>cases h
   rename_i hl
   simp only [Option.map_eq_some_iff,Prod.mk.injEq] at h
   obtain ⟨xs,h1,rfl,rfl⟩:=h
   simp only [DataW.weights,hu] at hw
   rw [hu]
   rw [List.range_eq_range'] at h1
   have:=rd_array (k:=k) (i:=0) (rd n e ht.2) h1 hw (by rw [hl,← ht.1];simp)
   simpa using this
  all_goals (rename_i hu;first | (rw [hu] at ht;cases ht;done) | (cases h;done))
end Go.VE
namespace Go.VE
open Go.RowKit Go.WideShapes Go.ChangeShapes
def VT (P:Program) (n:Nat) (t:TypeId):VD→Prop
 | .one x=>HasT P n t [x]∧(match P.underlying t with | some (.struct _) | some (.array _ _)=>False | _=>True)
 | .agg xs=>HasT P n t xs∧(match P.underlying t with | some (.struct _) | some (.array _ _)=>True | _=>False)
def VTs (P:Program) (n:Nat):List TypeId→List VD→Prop
 | [],[]=>True
 | t::ts,v::vs=>VT P n t v∧VTs P n ts vs
 | _,_=>False
variable {H:Type} {enc:TypeId×Value→H} {P:Program} {w:World}
theorem okWide_cells {base:Nat} {t:TypeId} {v:Value} (hn:∀ d,P.underlying t=some d→(match d with | .struct _ | .array _ _=>False | _=>True)) (h:Value.okWide P w .any base t v):v.cells=#[v]:=by
 unfold Value.okWide at h
 cases hu:P.underlying t with
 | none =>
  rw [hu] at h
  simp only [Cell.okWide,hu,Cell.ok] at h
 | some d =>
  have hnd:=hn d hu
  rw [hu] at h
  cases v with
  | agg cs=>cases d<;>simp [Cell.okWide,hu,Cell.ok] at h hnd
  | _=>rfl
theorem rdV {n:Nat} {t:TypeId} (ht:okT P n t=true) {base:Nat} {v:Value} {d:DataW H} {ps:List MemPlace} (hok:Value.okWide P w .any base t v) (h:DataW.Trod enc P w 0 (fun _=>true) true t v d ps) (hw:∀ x∈d.weights P t,x≤reachBytes) :
  ∃ vd,VDR w (· < w.heap.size) vd v∧VT P n t vd:=by
 obtain ⟨m,hm⟩:=h
 obtain ⟨ds,h1,h2⟩:=rd n t ht m _ d ps hm hw
 by_cases hagg:(match P.underlying t with | some (.struct _) | some (.array _ _)=>True | _=>False)
 ·have:∃ cs,v=.agg cs:=by
   unfold Value.okWide at hok
   split at hok
   ·obtain ⟨cs,h,_⟩:=hok;exact ⟨cs,h⟩
   ·obtain ⟨cs,h,_⟩:=hok;exact ⟨cs,h⟩
   ·rename_i h1 h2
    exfalso
    split at hagg
    ·rename_i fs hu;exact h1 fs hu
    ·rename_i a b hu;exact h2 a b hu
    ·exact hagg
  obtain ⟨cs,rfl⟩:=this
  exact ⟨.agg ds,⟨cs,rfl,h1⟩,h2,hagg⟩
 ·have hc:v.cells=#[v]:=okWide_cells (fun d hd=>by rw [hd] at hagg;cases d<;>simp at hagg ⊢) hok
  rw [hc] at h1
  simp only [] at h1
  have hl:=FR_len h1
  match ds,hl,h1,h2 with
  | [x],_,h1,h2 =>
   simp only [FR] at h1
   obtain ⟨v',vs',e,hd,_⟩:=h1
   simp only [List.cons.injEq] at e
   obtain ⟨rfl,_⟩:=e
   refine ⟨.one x,hd,h2,?_⟩
   cases hu:P.underlying t with
   | none=>trivial
   | some d=>rw [hu] at hagg;cases d<;>simp at hagg ⊢
theorem rdVs {n:Nat} {base:Nat}:∀ {ts:List TypeId} {vs:List Value} {ds:List (DataW H)} {ps:List MemPlace},(∀ t∈ts,okT P n t=true)→(∀ (j:Nat) t v,ts[j]?=some t→vs[j]?=some v→Value.okWide P w .any base t v) →
  DataW.TrodAll enc P w 0 (fun _=>true) true ts vs ds ps→(∀ x∈DataW.weightsEach P ts ds,x≤reachBytes)→ds.length=ts.length∧∃ vds,VDF w (· < w.heap.size) vds vs∧VTs P n ts vds
 | [],vs,ds,ps,ht,hok,h,hw=>by
  obtain ⟨rfl,rfl,rfl⟩:=trodAll_nil h
  exact ⟨rfl,[],by simp [VDF],trivial⟩
 | t::ts,vs,ds,ps,ht,hok,h,hw=>by
  obtain ⟨v,vs',d,ds',p,q,rfl,rfl,rfl,h1,h2⟩:=trodAll_cons h
  simp only [DataW.weightsEach,List.mem_append] at hw
  obtain ⟨vd,h3,h4⟩:=rdV (ht t (by simp)) (hok 0 t v rfl rfl) h1 (fun x hx=>hw x (.inl hx))
  obtain ⟨h5,vds,h6,h7⟩:=rdVs (n:=n) (base:=base) (fun t ht'=>ht t (by simp [ht'])) (fun j t v hj hv=>hok (j+1) t v (by simpa using hj) (by simpa using hv)) h2 (fun x hx=>hw x (.inr hx))
  exact ⟨by simp [h5],vd::vds,by simp only [VDF];exact ⟨v,vs',rfl,h3,h6⟩,h4,h7⟩
theorem belowAll (hl:laidOutB P=true) {W W':World} (hb:Below W.heap.size W W'):∀ {ts:List TypeId} {vs:List Value} {ds:List (DataW H)} {ps:List MemPlace},(∀ t∈ts,P.readableRec t=true∧t < P.types.size) →
  DataW.TrodAll enc P W 0 (fun _=>true) true ts vs ds ps→(∀ p∈ps,p.block < W.heap.size)→DataW.TrodAll enc P W' 0 (fun b=>decide (b < W.heap.size)) true ts vs ds ps
 | [],vs,ds,ps,ht,h,hp=>by
  obtain ⟨rfl,rfl,rfl⟩:=trodAll_nil h
  exact trodAll_mk0
 | t::ts,vs,ds,ps,ht,h,hp=>by
  obtain ⟨v,vs',d,ds',p,q,rfl,rfl,rfl,h1,h2⟩:=trodAll_cons h
  exact ⟨p,q,Below.trod hl (ht t (by simp)).1 (ht t (by simp)).2 h1 hb (fun x hx=>hp x (by simp [hx])),belowAll hl hb (fun t ht'=>ht t (by simp [ht'])) h2 (fun x hx=>hp x (by simp [hx])),rfl⟩
theorem HasT.int {n:Nat} {t:TypeId} {k:IntKind} {ds:List D} (hu:P.underlying t=some (.int k)) (h:HasT P (n+1) t ds):∃ z,ds=[.lit (.int k z)]∧k.min≤z∧z≤k.max:=by
 unfold HasT at h;rw [hu] at h;exact h
theorem HasT.bool {n:Nat} {t:TypeId} {ds:List D} (hu:P.underlying t=some .bool) (h:HasT P (n+1) t ds):∃ b,ds=[bl b]:=by
 unfold HasT at h;rw [hu] at h;exact h
theorem HasT.str {n:Nat} {t:TypeId} {ds:List D} (hu:P.underlying t=some .string) (h:HasT P (n+1) t ds):∃ s,ds=[.lit (.string s)]∧s.size≤140737488351232:=by
 unfold HasT at h;rw [hu] at h;exact h
theorem HasT.sl {n:Nat} {t e:TypeId} {ds:List D} {c b:Nat} (hu:P.underlying t=some (.slice e)) (hc:P.cellsOf e=c) (hb:P.bytesOf e=b) (h:HasT P (n+1) t ds):∃ o:Option Rr,ds=[dSl c o]∧(o.getD []).length*b≤140737488351232∧∀ r∈o.getD [],HasT P n e r:=by
 unfold HasT at h;rw [hu] at h;subst hc hb;exact h
theorem HasT.struct {n:Nat} {t:TypeId} {fs:Array Field} {ds:List D} (hu:P.underlying t=some (.struct fs)) {ts:List TypeId} (hts:fs.toList.map (·.type)=ts) (h:HasT P (n+1) t ds):HasAll (HasT P n) ts ds:=by
 unfold HasT at h;rw [hu] at h;subst hts;exact h
theorem HasT.arr {n:Nat} {t e:TypeId} {k:Nat} {ds:List D} (hu:P.underlying t=some (.array k e)) (h:HasT P (n+1) t ds):HasAll (HasT P n) (List.replicate k e) ds:=by
 unfold HasT at h;rw [hu] at h;exact h
theorem VT.agg_ {n:Nat} {t:TypeId} {fs:Array Field} {v:VD} (hu:P.underlying t=some (.struct fs)) (h:VT P n t v):∃ ds,v=.agg ds∧HasT P n t ds:=by
 cases v with
 | one x=>unfold VT at h;rw [hu] at h;exact h.2.elim
 | agg xs=>exact ⟨xs,rfl,h.1⟩
theorem VTs_nil {n:Nat} {vds:List VD} (h:VTs P n [] vds):vds=[]:=by cases vds with | nil=>rfl | cons _ _=>exact h.elim
theorem VTs_cons {n:Nat} {t:TypeId} {ts:List TypeId} {vds:List VD} (h:VTs P n (t::ts) vds):∃ v vs,vds=v::vs∧VT P n t v∧VTs P n ts vs:=by
 cases vds with
 | nil=>exact h.elim
 | cons v vs=>exact ⟨v,vs,rfl,h.1,h.2⟩
theorem rows_map {α:Type} {f:α→List D}:∀ {rows:List (List D)},(∀ r∈rows,∃ c,r=f c)→∃ l:List α,rows=l.map f
 | [],_=>⟨[],rfl⟩
 | r::rows,h=>by
  obtain ⟨c,rfl⟩:=h r (by simp)
  obtain ⟨l,rfl⟩:=rows_map (f:=f) (rows:=rows) (fun r hr=>h r (by simp [hr]))
  exact ⟨c::l,rfl⟩
theorem lawSC {T:Tb3} {Fn:Nat→List D→Out} {m0 fuel f:Nat} {sh:List Sh} {xs:List D} {vds:List VD} (hmix:P.follows .mixedOrders=true) (hF:FnOK P (cf3 T P) Fn) (hM:FmOK P (cf3 T P) Fn) (hS:SpOK P (cf3 T P)) (hlt:f < 1000000) (hsh:T.ash f=some sh) (hvd:vdsOf sh xs=some vds)
  (hrs:T.rsk f=[[(false,[.d])]]) (h:fun3 (real Fn (FnDof P (cf3 T P) Fn) m0) T P fuel f xs=some (0,[.d (bl true)])):SC P f vds (.one (.d (bl true))):=by
 have:=fun3_sc (T:=T) (P:=P) hmix hF hM hS h hlt hsh hvd (rs:=[(false,[.d])]) (by rw [hrs];rfl)
 exact this
end Go.VE
namespace Go.VE
open Go.RowKit Go.WideShapes Go.ChangeShapes
variable {H:Type} {enc:TypeId×Value→H} {P:Program} {w:World}
end Go.VE
