/- Bell: reading a book that is longer: what stays, and what rises. -/
import Derived.Test.YtaagapoglhndjaaDoorMg4
namespace Go.VE
open Go.RowKit Go.Proofs
section
def rf (me:Int) (e:aJ) (ss:List ba):Fld:=(ay me e fd0 ss).1
def rk (me:Int) (e:aJ) (ss:List ba):Bool:=(ay me e fd0 ss).2
theorem cH {me:Int} {e:aJ}:∀ {l1:List ba} {f:Fld} {l2:List ba},(ay me e f l1).2=true→ay me e f (l1++l2)=ay me e (ay me e f l1).1 l2
 | [],f,l2,_=>rfl
 | s::r,f,l2,h=>by
  simp only [Kp]
  rw [ay,ay]
  rw [ay] at h
  split
  ·rename_i hs
   rw [K1 hs] at h
   cases hf:aV me e.2 f s with
   | none=>rw [hf] at h;cases h
   | some g =>
    rw [hf] at h
    exact cH h
  ·rename_i hs
   rw [Kc hs] at h
   exact cH h
theorem kR {me:Int} {e:aJ}:∀ {l1:List ba} {f:Fld} {l2:List ba},(ay me e f (l1++l2)).2=true→(ay me e f l1).2=true
 | [],f,l2,_=>rfl
 | s::r,f,l2,h=>by
  simp only [Kp] at h
  rw [ay] at h ⊢
  split
  ·rename_i hs
   rw [K1 hs] at h
   cases hf:aV me e.2 f s with
   | none=>rw [hf] at h;cases h
   | some g =>
    rw [hf] at h
    exact kR h
  ·rename_i hs
   rw [Kc hs] at h
   exact kR h
theorem fa {me:Int} {e:aJ}:∀ {l:List ba} {f:Fld},(∀ s∈l,s.2.1≠e.1)→ay me e f l=(f,true)
 | [],_,_=>rfl
 | s::r,f,h=>by
  rw [ay,Kc (h s (by simp))]
  exact fa fun x hx=>h x (by simp [hx])
theorem qw {α:Type} {me:Int} {e:aJ} {key:α→Int} {g:α→List ba} (hg:∀ x,∀ s∈g x,s.2.1=key x):∀ {l:List α} {f:Fld},(∀ x∈l,key x≠e.1)→ay me e f (l.flatMap g)=(f,true):=by
 intro l f h
 refine fa fun s hs=>?_
 obtain ⟨x,hx,hs⟩:=List.mem_flatMap.1 hs
 rw [hg x s hs]
 exact h x hx
theorem fb {α:Type} {me:Int} {e:aJ} {key:α→Int} {g:α→List ba} (hg:∀ x,∀ s∈g x,s.2.1=key x):∀ {l:List α} {f:Fld} {x:α},(l.Pairwise fun a b=>key a≠key b)→x∈l→key x=e.1→ay me e f (l.flatMap g)=ay me e f (g x)
 | [],_,_,_,hx,_=>by cases hx
 | y::r,f,x,hp,hx,hk=>by
  cases hp with
  | cons h1 h2 =>
   rw [List.flatMap_cons]
   rcases Ka.1 hx with rfl | hx
   ·cases hb:(ay me e f (g x)).2 with
    | true =>
     rw [cH hb,qw hg (fun y hy=>by have:=h1 y hy;rw [hk] at this;exact fun h=>this h.symm)]
     exact Prod.ext rfl hb.symm
    | false =>
     have:∀ {l1:List ba} {f:Fld} {l2:List ba},(ay me e f l1).2=false→ay me e f (l1++l2)=ay me e f l1:=by
      intro l1
      induction l1 with
      | nil=>intro f l2 h;cases h
      | cons s t ih =>
       intro f l2 h
       simp only [Kp]
       rw [ay] at h
       rw [ay,ay]
       split
       ·rename_i hs
        rw [K1 hs] at h
        cases hf:aV me e.2 f s with
        | none=>rfl
        | some g=>rw [hf] at h;exact ih h
       ·rename_i hs
        rw [Kc hs] at h
        exact ih h
     exact this hb
   ·have hne:key y≠e.1:=by have:=h1 x hx;rwa [hk] at this
    have ho:ay me e f (g y)=(f,true):=fa fun s hs=>by rw [hg y s hs];exact hne
    rw [cH (by rw [ho]),ho]
    exact fb hg h2 hx hk
theorem Du {me P:Int} {f g:Fld} {s:ba} (h:aV me P f s=some g) (o:Nat):f.no o≤g.no o:=by
 unfold aV at h
 repeat' split at h
 all_goals first
  | (cases h;done)
  | (simp only [Jm] at h;subst h;exact Tl _)
  | skip
 rename_i hc
 simp only [Jm] at h
 subst h
 simp only [bv]
 split
 ·rename_i he
  subst he
  simp only [Md,Jq,not_or] at hc
  omega
 ·exact Tl _
theorem kb {me:Int} {e:aJ} (o:Nat):∀ {l:List ba} {f:Fld},f.no o≤(ay me e f l).1.no o
 | [],_=>Tl _
 | s::r,f=>by
  rw [ay]
  split
  ·cases hf:aV me e.2 f s with
   | none=>exact Tl _
   | some g=>exact Int.le_trans (Du hf o) (kb o)
  ·exact kb o
theorem j4 {me:Int} {e:aJ}:∀ {l:List ba} {f:Fld} {o:Nat},(ay me e f l).1.no o≠f.no o→((1,e.1,(o:Int),(ay me e f l).1.no o):ba)∈l
 | [],_,_,h=>absurd rfl h
 | s::r,f,o,h=>by
  rw [ay] at h ⊢
  split
  ·rename_i he
   rw [K1 he] at h
   cases hf:aV me e.2 f s with
   | none=>rw [hf] at h;exact absurd rfl h
   | some g =>
    rw [hf] at h
    simp only at h ⊢
    by_cases hg:(ay me e g r).1.no o=g.no o
    ·rw [hg] at h ⊢
     have hgf:g.no o≠f.no o:=h
     unfold aV at hf
     repeat' split at hf
     all_goals first
      | (cases hf;done)
      | (simp only [Jm] at hf;subst hf;exact absurd rfl hgf)
      | skip
     rename_i h1 hc
     simp only [Jm] at hf
     subst hf
     simp only [bv] at hgf ⊢
     split at hgf
     ·rename_i ho
      rw [K1 ho]
      simp only [Md,Jq,not_or,M1] at hc
      have hp:gz s.2.2.1=true:=gc (by simpa using hc.1.1.2)
      have:=bT.1 hp
      refine Ka.2 (.inl ?_)
      obtain ⟨a,b,c,d⟩:=s
      simp only at h1 he ho this ⊢
      rw [h1,he,← ho]
      simp only [Kn,Tz,Ve]
      omega
     ·exact absurd rfl hgf
    ·exact Ks _ (j4 hg)
  ·rename_i he
   rw [Kc he] at h
   exact Ks _ (j4 h)
theorem BA {me P:Int} {f g:Fld} {s:ba} (h:aV me P f s=some g) (hf:f.opn=true→bQ me P f=[]):g.opn=true→bQ me P g=[]:=by
 unfold aV at h
 repeat' split at h
 all_goals first
  | (cases h;done)
  | skip
 ·rename_i hc
  simp only [Jm] at h
  subst h
  intro ho
  simp only [Md,not_or] at hc
  exact absurd ho hc.1.2
 ·simp only [Jm] at h;subst h;exact hf
 ·simp only [Jm] at h;subst h;exact hf
 ·rename_i hc
  simp only [Jm] at h
  subst h
  intro ho
  simp only at ho
  simp only [Md,not_or,ho,Ki,M1,Bool.not_eq_false] at hc
  have:=hc.2
  have e:bQ me P f=[]:=by simpa using this
  exact e
theorem nJ {me:Int} {e:aJ}:∀ {l:List ba} {f:Fld},(f.opn=true→bQ me e.2 f=[])→(ay me e f l).1.opn=true→bQ me e.2 (ay me e f l).1=[]
 | [],_,hf=>hf
 | s::r,f,hf=>by
  rw [ay]
  split
  ·cases hs:aV me e.2 f s with
   | none=>exact hf
   | some g=>exact nJ (BA hs hf)
  ·exact nJ hf
end
section
theorem eG {me h:Int} {bs:List aJ} {ss:List ba}:ck me bs ss h=true↔gz me=true∧cr me bs=true∧ss.length≤120∧(0≤h∧h≤ss.length)∧(∀ s∈ss,rb bs s=true)∧∀ e∈bs,rk me e ss=true:=by
 rw [CW,okW]
 simp only [Jn,Jq,fg,Kq,rk]
theorem mg {bs:List aJ} (h:kw bs) {a b:aJ} (ha:a∈bs) (hb:b∈bs) (he:a.1=b.1):a=b:=by
 induction bs with
 | nil=>cases ha
 | cons c r ih =>
  cases h with
  | cons h1 h2 =>
   rcases Ka.1 ha with ha' | ha'<;>rcases Ka.1 hb with hb' | hb'
   ·rw [ha',hb']
   ·have:=h1 b hb';rw [ha'] at he;omega
   ·have:=h1 a ha';rw [hb'] at he;omega
   ·exact ih h2 ha' hb'
theorem tD {me h:Int} {bs:List aJ} {ss L:List ba} (h1:ck me bs ss h=true) (hs:∀ s∈L,rb bs s=true) (hr:∀ e∈bs,(ay me e (rf me e ss) L).2=true) (hl:ss.length+L.length≤120):ck me bs (ss++L) h=true:=by
 obtain ⟨a1,a2,a3,a4,a5,a6⟩:=eG.1 h1
 refine eG.2 ⟨a1,a2,by rw [K0];exact hl,⟨a4.1,by rw [K0];omega⟩,fun s hm=>?_,fun e he=>?_⟩
 ·rcases Kf.1 hm with hm | hm
  ·exact a5 s hm
  ·exact hs s hm
 ·unfold rk
  rw [cH (a6 e he)]
  exact hr e he
theorem fT {fld:Int} {bs:List aJ} {j:Nat} (hx:cM fld bs=some j):bs.getD j (0,0)∈bs∧(bs.getD j (0,0)).1=fld:=by
 obtain ⟨e,h1,h2,h3,_⟩:=fS hx
 rw [h3]
 exact ⟨K2 h1,h2⟩
theorem i3 {me:Int} {bs:List aJ} {ss:List ba} {j:Nat}:fl me bs ss j=rf me (bs.getD j (0,0)) ss:=rfl
theorem p7 {bs:List aJ} {s:ba} {j:Nat} (h1:iL s=true) (h2:cM s.2.1 bs=some j):rb bs s=true:=by simp [rb,h1,h2]
theorem p8 {me h fld:Int} {bs:List aJ} {ss L:List ba} {j:Nat} (h1:ck me bs ss h=true) (hx:cM fld bs=some j) (hs:∀ s∈L,iL s=true∧s.2.1=fld) (hr:(ay me (bs.getD j (0,0)) (fl me bs ss j) L).2=true) (hl:ss.length+L.length≤120):ck me bs (ss++L) h=true:=by
 have hm:=fT hx
 refine tD h1 (fun s hs'=>p7 (hs s hs').1 (by rw [(hs s hs').2];exact hx)) (fun e he=>?_) hl
 by_cases hef:e.1=fld
 ·have:e=bs.getD j (0,0):=mg (bw h1) he hm.1 (by rw [hef,hm.2])
  rw [this];exact hr
 ·rw [fa fun s hs'=>by rw [(hs s hs').2];exact fun h=>hef h.symm]
theorem bb {me:Int} {e:aJ} {f g:Fld} {s:ba} {r:List ba} (h1:s.2.1=e.1) (h2:aV me e.2 f s=some g):ay me e f (s::r)=ay me e g r:=by
 rw [ay,K1 h1,h2]
theorem EJ {me h fld:Int} {bs:List aJ} {ss:List ba} {j:Nat} (h1:ck me bs ss h=true) (hx:cM fld bs=some j) (hw:(wantX fld (fl me bs ss j)).1=0) (hl:ss.length+(wantX fld (fl me bs ss j)).2.length≤120):ck me bs (ss++(wantX fld (fl me bs ss j)).2) h=true∧∀ s∈(wantX fld (fl me bs ss j)).2,s.1≠1:=by
 have hm:=fT hx
 have hfl:=iq h1 hx
 have hrng:=hH h1 j
 generalize hf:fl me bs ss j=f at hw hl hrng ⊢
 unfold wantX at hw hl ⊢
 split at hw
 ·cases hw
 ·rename_i ho
  rw [Kc ho] at hl ⊢
  split at hw
  ·rename_i hd
   rw [K1 hd] at hl ⊢
   exact ⟨by simpa using h1,by simp⟩
  ·rename_i hd
   rw [Kc hd] at hl ⊢
   have hodd:f.wants≠99999:=by
    intro he
    rw [he] at hd
    exact hd rfl
   refine ⟨p8 h1 hx (fun s hs=>?_) ?_ hl,fun s hs=>by simp only [Kl] at hs;subst hs;simp⟩
   ·simp only [Kl] at hs
    subst hs
    have:=hrng.1
    simp only [iL,hfl,Ki]
    simp [fg]
    omega
   ·rw [hf,bb (g:={ f with wants:=f.wants+1,af:=fun _=>false }) hm.2.symm]
    ·rfl
    ·simp [aV]
     omega
theorem ES {me h fld:Int} {bs:List aJ} {ss:List ba} {j:Nat} (h1:ck me bs ss h=true) (hx:cM fld bs=some j) (hw:(ringX me (bs.getD j (0,0)).2 fld (fl me bs ss j)).1=0) (hl:ss.length+(ringX me (bs.getD j (0,0)).2 fld (fl me bs ss j)).2.length≤120):ck me bs (ss++(ringX me (bs.getD j (0,0)).2 fld (fl me bs ss j)).2) h=true∧∀ s∈(ringX me (bs.getD j (0,0)).2 fld (fl me bs ss j)).2,s.1≠1:=by
 have hm:=fT hx
 have hfl:=iq h1 hx
 have hrng:=hH h1 j
 generalize hf:fl me bs ss j=f at hw hl hrng ⊢
 unfold ringX at hw hl ⊢
 split at hw
 ·cases hw
 ·rename_i ho
  rw [Kc ho] at hl ⊢
  split at hw
  ·rename_i hmi
   rw [K1 hmi] at hl ⊢
   split at hw
   ·cases hw
   ·rename_i h9
    rw [Kc h9] at hl ⊢
    have hmi':bQ me (bs.getD j (0,0)).2 f=[]:=by simpa using hmi
    have hst:aV me (bs.getD j (0,0)).2 f (4,fld,0,1)=some { f with opn:=true }:=by
     generalize (bs.getD j (0,0)).2=P at hmi'
     simp [aV,ho,hmi']
    have ok4:iL (4,fld,0,1)=true:=by simp [iL,hfl];decide
    simp only at hl ⊢
    split at hl
    ·rename_i hd
     rw [K1 hd]
     have ok2:iL (2,fld,0,f.wants+1)=true:=by
      have:=hrng.1
      simp only [iL,hfl,Ki]
      simp [fg]
      omega
     refine ⟨p8 h1 hx (fun s hs=>?_) ?_ hl,fun s hs=>?_⟩
     ·simp only [Ka,M5,T1] at hs
      rcases hs with rfl | rfl
      ·exact ⟨ok4,rfl⟩
      ·exact ⟨ok2,rfl⟩
     ·rw [hf,bb hm.2.symm hst,bb (g:={ f with opn:=true,wants:=f.wants+1,af:=fun _=>false }) hm.2.symm]
      ·rfl
      ·simp [aV]
       omega
     ·simp only [Ka,M5,T1] at hs
      rcases hs with rfl | rfl<;>simp
    ·rename_i hd
     rw [Kc hd]
     refine ⟨p8 h1 hx (fun s hs=>?_) ?_ hl,fun s hs=>?_⟩
     ·simp only [Ka,M5,T1] at hs
      subst hs
      exact ⟨ok4,rfl⟩
     ·rw [hf,bb hm.2.symm hst]
      rfl
     ·simp only [Ka,M5,T1] at hs
      subst hs
      simp
  ·cases hw
theorem EO {me h fld:Int} {bs:List aJ} {ss:List ba} {j:Nat} (h1:ck me bs ss h=true) (hx:cM fld bs=some j) (hw:(shutX fld (fl me bs ss j)).1=0) (hl:ss.length+(shutX fld (fl me bs ss j)).2.length≤120):ck me bs (ss++(shutX fld (fl me bs ss j)).2) h=true∧∀ s∈(shutX fld (fl me bs ss j)).2,s.1≠1:=by
 have hm:=fT hx
 have hfl:=iq h1 hx
 generalize hf:fl me bs ss j=f at hw hl ⊢
 unfold shutX at hw hl ⊢
 split at hw
 ·rename_i ho
  rw [K1 ho] at hl ⊢
  refine ⟨p8 h1 hx (fun s hs=>?_) ?_ hl,fun s hs=>by simp only [Kl] at hs;subst hs;simp⟩
  ·simp only [Kl] at hs
   subst hs
   exact ⟨by simp [iL,hfl];decide,rfl⟩
  ·rw [hf,bb (g:={ f with opn:=false }) hm.2.symm]
   ·rfl
   ·simp [aV,ho]
 ·cases hw
end
section
theorem jk {P:Int} {o:Nat} (ho:o < 6) (h:P.toNat.testBit o=true):cE P (o:Int)=true:=by rw [cq ho];exact h
theorem vn {me o x:Int} (h:aK me o x=true):aK me o (x+1)=false:=by
 unfold aK at h ⊢
 by_cases h1:me < o<;>by_cases h2:x % 2=0
 ·have:¬ (x+1) % 2=0:=by omega
  simp [h1,this]
 ·simp [h1,h2] at h
 ·simp [h1,h2] at h
 ·have:(x+1) % 2=0:=by omega
  simp [h1,this]
theorem pD {me:Int} {e:aJ} {f:Fld}:∀ (l:List Nat) (g:Fld),l.Nodup→(∀ o∈l,o < 6∧bH me e.2 f o=true∧g.no o=f.no o)→g.opn=false→(ay me e g (l.map fun (o:Nat)=>(1,e.1,(o:Int),f.no o+1))).2=true
 | [],_,_,_,_=>rfl
 | o::r,g,hn,hg,ho=>by
  simp only [Mc] at hn
  obtain ⟨h6,hgv,hno⟩:=hg o (by simp)
  simp only [bH,Jn,M1,M7] at hgv
  have hP:cE e.2 (o:Int)=true:=jk h6 hgv.2.1
  rw [Jz,bb (g:={ g with no:=bv g.no o (f.no o+1),af:=bv g.af o true }) rfl]
  ·refine pD r _ hn.2 (fun q hq=>?_) ho
   obtain ⟨q1,q2,q3⟩:=hg q (by simp [hq])
   refine ⟨q1,q2,?_⟩
   simp only [bv]
   rw [Kc (fun h:o=q=>hn.1 (by rw [h];exact hq)),q3]
  ·simp [aV,hgv.1,hP,ho,hno]
   omega
theorem gM {me:Int} {e:aJ} {f:Fld}:∀ s∈ep me e f,s.2.1=e.1∧s.1=1∧∃ o:Nat,o < 6∧bH me e.2 f o=true∧s=(1,e.1,(o:Int),f.no o+1):=by
 intro s hs
 unfold ep at hs
 split at hs
 ·cases hs
 ·obtain ⟨o,ho,rfl⟩:=Kw.1 hs
  obtain ⟨h1,h2⟩:=Kj.1 ho
  exact ⟨rfl,rfl,o,Mg.1 h1,h2,rfl⟩
theorem nj {me h:Int} {bs:List aJ} {ss:List ba} (h1:ck me bs ss h=true) {e:aJ} (he:e∈bs):md (rf me e ss):=by
 obtain ⟨j,hj,rfl⟩:=List.mem_iff_getElem.1 he
 have:=hH h1 j
 rw [i3,eH _ (Jo hj)] at this
 exact this
theorem fF {me h:Int} {bs:List aJ} {ss:List ba} (h1:ck me bs ss h=true) {e:aJ} (he:e∈bs):fg e.1 1 99=true∧∃ j,cM e.1 bs=some j∧bs.getD j (0,0)=e:=by
 obtain ⟨j,hj,rfl⟩:=List.mem_iff_getElem.1 he
 have hx:=ud (bw h1) hj
 exact ⟨iq h1 hx,j,hx,eH _ (Jo hj)⟩
theorem mf {bs:List aJ} (h:kw bs):bs.Pairwise fun a b=>a.1≠b.1:=List.Pairwise.imp (fun h=>by omega) h
theorem Ck {me h:Int} {bs:List aJ} {ss:List ba} (h1:ck me bs ss h=true) (hl:ss.length+(serveX me bs ss).length≤120):ck me bs (ss++serveX me bs ss) h=true∧∀ s∈serveX me bs ss,s.1=1→aK me s.2.2.1 s.2.2.2=false:=by
 have hr:=bw h1
 refine ⟨tD h1 (fun s hs=>?_) (fun e he=>?_) hl,fun s hs _=>?_⟩
 ·obtain ⟨e,he,hs⟩:=List.mem_flatMap.1 hs
  obtain ⟨a1,_,o,a3,a4,rfl⟩:=gM s hs
  obtain ⟨b1,j,b2,_⟩:=fF h1 he
  exact p7 (sq a3 a4 (nj h1 he) b1) b2
 ·unfold serveX
  rw [fb (key:=fun e:aJ=>e.1) (fun x s hs=>(gM s hs).1) (mf hr) he rfl]
  show (ay me e (rf me e ss) (ep me e (rf me e ss))).2=true
  unfold ep
  split
  ·rfl
  ·rename_i ho
   refine pD _ _ (List.nodup_range.filter _) (fun o ho=>?_) (by simpa using ho)
   obtain ⟨b1,b2⟩:=Kj.1 ho
   exact ⟨Mg.1 b1,b2,rfl⟩
 ·obtain ⟨e,he,hs⟩:=List.mem_flatMap.1 hs
  obtain ⟨_,_,o,a3,a4,rfl⟩:=gM s hs
  simp only [bH,Jn] at a4
  exact vn a4.2.2.2.1
theorem eZ {me a:Int} {bs:List aJ} {ss:List ba} {t:j8}:∀ s∈mH me a bs ss t,s.2.1=t.1∧∃ j,cM t.1 bs=some j∧cE (bs.getD j (0,0)).2 a=true∧s∈iu me a t (fl me bs ss j):=by
 intro s hs
 unfold mH at hs
 split at hs
 ·cases hs
 ·rename_i j hx
  split at hs
  ·rename_i hh
   refine ⟨?_,j,hx,hh,hs⟩
   unfold iu at hs
   rcases Kf.1 hs with hs | hs
   ·split at hs
    ·simp only [Kl] at hs;rw [hs]
    ·cases hs
   ·split at hs
    ·simp only [Kl] at hs;rw [hs]
    ·cases hs
  ·cases hs
theorem Ft {me h a to:Int} {bs:List aJ} {ss:List ba} {l:List j8} (h1:ck me bs ss h=true) (h2:l8 a to l=true) (hto:to=me) (hl:ss.length+(hearX me a bs ss l).length≤120) :
  ck me bs (ss++hearX me a bs ss l) h=true∧∀ s∈hearX me a bs ss l,s.1=1→∃ t∈l,s=(1,t.1,a,t.2.1):=by
 have hr:=bw h1
 have h2':=h2
 simp only [l8,Jn,Jq,M1,M7] at h2'
 obtain ⟨pa,pt,hne,h4,hL⟩:=h2'
 have hne':a≠me:=by rw [←hto];exact hne
 have hpw:=mu hL
 have hokt:∀ t∈l,mt t=true:=by
  have:∀ {l:List j8} {p:Option Int},p9 mt (·.1) p l=true→∀ t∈l,mt t=true:=by
   intro l
   induction l with
   | nil=>intro p _ t ht;cases ht
   | cons x r ih =>
    intro p hp t ht
    simp only [p9,Jn] at hp
    rcases Ka.1 ht with rfl | ht
    ·exact hp.1
    ·exact ih hp.2.2 t ht
  exact this hL
 refine ⟨tD h1 (fun s hs=>?_) (fun e he=>?_) hl,fun s hs h1s=>?_⟩
 ·obtain ⟨t,ht,hs⟩:=List.mem_flatMap.1 hs
  obtain ⟨a1,j,hx,hh,hs⟩:=eZ s hs
  have hfl:=iq h1 hx
  have hrng:=hH h1 j
  have ok:=hokt t ht
  simp only [mt,fg,Jn,Jq] at ok
  refine p7 ?_ (by rw [a1];exact hx)
  unfold iu at hs
  rcases Kf.1 hs with hs | hs
  ·split at hs
   ·rename_i hw
    simp only [Kl] at hs;subst hs
    exact mG (.inr rfl) hfl pa (by have:=(hrng.2 a.toNat).2;omega) (by omega)
   ·cases hs
  ·split at hs
   ·rename_i hw
    simp only [Kl] at hs;subst hs
    exact mG (.inl rfl) hfl pa (by have:=(hrng.2 a.toNat).1;have:=hw.1;omega) (by omega)
   ·cases hs
 ·unfold hearX
  by_cases hex:∃ t∈l,t.1=e.1
  ·obtain ⟨t,ht,hte⟩:=hex
   rw [fb (key:=fun t:j8=>t.1) (fun x s hs=>(eZ s hs).1) (List.Pairwise.imp (fun h=>by omega) hpw) ht hte]
   obtain ⟨_,j,hx,hj⟩:=fF h1 he
   unfold mH
   rw [hte,hx]
   simp only
   split
   ·rename_i hh
    rw [hj] at hh
    have hf:fl me bs ss j=rf me e ss:=by rw [i3,hj]
    rw [hf]
    generalize rf me e ss=f
    unfold iu
    split
    ·rename_i hw
     rw [V6,bb hte (lH hne' hh hw t.1)]
     split
     ·rename_i hc
      rw [bb hte (gZ hne' hh (by exact hc.1) (by exact hc.2.2) t.1)]
      rfl
     ·rfl
    ·rw [Ke]
     split
     ·rename_i hc
      rw [bb hte (gZ hne' hh hc.1 hc.2.2 t.1)]
      rfl
     ·rfl
   ·rfl
  ·rw [qw (key:=fun t:j8=>t.1) (fun x s hs=>(eZ s hs).1) (fun t ht h=>hex ⟨t,ht,h⟩)]
 ·obtain ⟨t,ht,hs⟩:=List.mem_flatMap.1 hs
  obtain ⟨a1,j,hx,hh,hs⟩:=eZ s hs
  refine ⟨t,ht,?_⟩
  unfold iu at hs
  rcases Kf.1 hs with hs | hs
  ·split at hs
   ·simp only [Kl] at hs;subst hs;simp at h1s
   ·cases hs
  ·split at hs
   ·simp only [Kl] at hs;exact hs
   ·cases hs
end
section
theorem jJ {me:Int} {e:aJ} {f:Fld}:∀ (l:List Nat) (g:Fld),l.Nodup→(∀ o∈l,o < 6∧cE e.2 (o:Int)=true∧(o:Int)≠me∧g.no o < f.no o)→g.opn=false →
  ay me e g (l.map (iN e.1 f))=({ g with no:=fun o=>if o∈l then f.no o else g.no o,af:=fun o=>if o∈l then true else g.af o },true)
 | [],g,_,_,_=>by simp [ay]
 | o::r,g,hn,hg,ho=>by
  simp only [Mc] at hn
  obtain ⟨h6,hP,hme,hp⟩:=hg o (by simp)
  have hst:aV me e.2 g (iN e.1 f o)=some { g with no:=bv g.no o (f.no o),af:=bv g.af o true }:=by
   have:¬ f.no o≤g.no o:=by omega
   simp [aV,iN,hme,hP,ho,this]
  rw [Jz,bb rfl hst,jJ r { g with no:=bv g.no o (f.no o),af:=bv g.af o true } hn.2 (fun q hq=>?_) ho]
  ·refine Prod.ext ?_ rfl
   simp only [Fld.mk.injEq,Ve]
   constructor
   ·funext q
    by_cases hq:q=o
    ·subst hq;simp [bv,hn.1]
    ·have:¬ o=q:=fun h=>hq h.symm
     simp [bv,hq,this]
   ·funext q
    by_cases hq:q=o
    ·subst hq;simp [bv,hn.1]
    ·have:¬ o=q:=fun h=>hq h.symm
     simp [bv,hq,this]
  ·obtain ⟨q1,q2,q3,q5⟩:=hg q (by simp [hq])
   refine ⟨q1,q2,q3,?_⟩
   simp only [bv]
   rw [Kc (fun h:o=q=>hn.1 (by rw [h];exact hq))]
   exact q5
theorem vW {me:Int} {e:aJ} {f:Fld}:∀ (l:List Nat) (g:Fld),l.Nodup→(∀ o∈l,o < 6∧cE e.2 (o:Int)=true∧(o:Int)≠me∧0 < f.ask o∧g.ask o=0) →
  ay me e g (l.map (nQ e.1 f))=({ g with ask:=fun o=>if o∈l then f.ask o else g.ask o },true)
 | [],g,_,_=>by simp [ay]
 | o::r,g,hn,hg=>by
  simp only [Mc] at hn
  obtain ⟨h6,hP,hme,hp,hz⟩:=hg o (by simp)
  have hst:aV me e.2 g (nQ e.1 f o)=some { g with ask:=bv g.ask o (f.ask o) }:=by
   simp [aV,nQ,hme,hP,hz]
   omega
  rw [Jz,bb rfl hst,vW r { g with ask:=bv g.ask o (f.ask o) } hn.2 (fun q hq=>?_)]
  ·refine Prod.ext ?_ rfl
   simp only [Fld.mk.injEq,Tz,Ve]
   funext q
   by_cases hq:q=o
   ·subst hq;simp [bv,hn.1]
   ·have:¬ o=q:=fun h=>hq h.symm
    simp [bv,hq,this]
  ·obtain ⟨q1,q2,q3,q4,q5⟩:=hg q (by simp [hq])
   refine ⟨q1,q2,q3,q4,?_⟩
   simp only [bv]
   rw [Kc (fun h:o=q=>hn.1 (by rw [h];exact hq)),q5]
theorem Dw {me P:Int} {f g:Fld} {s:ba} (h:aV me P f s=some g) (hf:∀ o:Nat,(f.no o≠0∨f.ask o≠0)→(o:Int)≠me):∀ o:Nat,(g.no o≠0∨g.ask o≠0)→(o:Int)≠me:=by
 unfold aV at h
 repeat' split at h
 all_goals first
  | (cases h;done)
  | (simp only [Jm] at h;subst h;exact hf)
  | skip
 ·rename_i hc
  simp only [Jm] at h
  subst h
  intro o ho
  simp only [Md,Jq,not_or,M1] at hc
  have:=bT.1 (gc (by simpa using hc.1.1.2))
  simp only [bv] at ho
  by_cases he:s.2.2.1.toNat=o
  ·have:=hc.1.1.1;omega
  ·rw [Kc he] at ho;exact hf o ho
 ·rename_i hc
  simp only [Jm] at h
  subst h
  intro o ho
  simp only [Md,Jq,not_or,M1] at hc
  have:=bT.1 (gc (by simpa using hc.1.2))
  simp only [bv] at ho
  by_cases he:s.2.2.1.toNat=o
  ·have:=hc.1.1;omega
  ·rw [Kc he] at ho;exact hf o ho
theorem mL {me:Int} {e:aJ}:∀ {l:List ba} {f:Fld},(∀ o:Nat,(f.no o≠0∨f.ask o≠0)→(o:Int)≠me)→∀ o:Nat,((ay me e f l).1.no o≠0∨(ay me e f l).1.ask o≠0)→(o:Int)≠me
 | [],_,hf=>hf
 | s::r,f,hf=>by
  rw [ay]
  split
  ·cases hs:aV me e.2 f s with
   | none=>exact hf
   | some g=>exact mL (Dw hs hf)
  ·exact mL hf
structure FldOK (me:Int) (e:aJ) (f:Fld):Prop where
 rng:md f
 no:∀ o:Nat,f.no o≠0→o < 6∧cE e.2 (o:Int)=true∧(o:Int)≠me
 ask:∀ o:Nat,f.ask o≠0→o < 6∧cE e.2 (o:Int)=true∧(o:Int)≠me
 all:f.opn=true→bQ me e.2 f=[]
theorem bit6 {P:Int} (h:lw P) {o:Nat} (hb:P.toNat.testBit o=true):o < 6:=by
 rcases Nat.lt_or_ge o 6 with h6 | h6
 ·exact h6
 ·have h1:=Nat.ge_two_pow_of_testBit hb
  have h2:2 ^ 6≤2 ^ o:=Nat.pow_le_pow_right (by omega) h6
  unfold lw at h
  omega
theorem rF {me h:Int} {bs:List aJ} {ss:List ba} (h1:ck me bs ss h=true) {e:aJ} (he:e∈bs):FldOK me e (rf me e ss) where
 rng:=nj h1 he
 no:=fun o ho=>by
  have hb:=mK me e ss fd0 (by simp [fd0]) o ho
  have h6:=bit6 (eF h1 e he) hb
  exact ⟨h6,jk h6 hb,mL (by simp [fd0]) o (.inl ho)⟩
 ask:=fun o ho=>by
  have hb:=kS me e ss fd0 (by simp [fd0]) o ho
  have h6:=bit6 (eF h1 e he) hb
  exact ⟨h6,jk h6 hb,mL (by simp [fd0]) o (.inr ho)⟩
 all:=nJ (by simp [fd0])
def renF (me:Int) (f:Fld):Fld:={ f with af:=fun o=>decide (o∈(rg 0).filter (bM me f))||(decide (f.wants=0)&&decide (o∈(rg 0).filter (bJ me f))) }
theorem nA {o:Nat}:o∈rg 0↔o < 6:=by simp [rg,List.mem_range']
theorem BP {me:Int} {e:aJ} {f:Fld} (hf:FldOK me e f):ay me e fd0 (kn me e.1 f)=(renF me f,true):=by
 have hn:(rg 0).Nodup:=List.nodup_range' ..
 have hd:∀ o∈(rg 0).filter (bJ me f),o < 6∧cE e.2 (o:Int)=true∧(o:Int)≠me∧fd0.no o < f.no o:=fun o ho=>by
  obtain ⟨_,h2⟩:=Kj.1 ho
  simp only [bJ,Jn,Jq] at h2
  obtain ⟨a,b,c⟩:=hf.no o h2.2.1
  have:=(hf.rng.2 o).1
  exact ⟨a,b,c,by show (0:Int) < _;omega⟩
 have hc:∀ o∈(rg 0).filter (bM me f),o < 6∧cE e.2 (o:Int)=true∧(o:Int)≠me∧0 < f.no o∧o∉(rg 0).filter (bJ me f):=fun o ho=>by
  obtain ⟨_,h2⟩:=Kj.1 ho
  simp only [bM,Jn,Jq] at h2
  obtain ⟨a,b,c⟩:=hf.no o h2.2.1
  have:=(hf.rng.2 o).1
  refine ⟨a,b,c,by omega,fun hm=>?_⟩
  have:=(Kj.1 hm).2
  simp only [bJ,Jn,h2.2.2] at this
  simp at this
 have ha:∀ o∈(rg 0).filter (de me f),o < 6∧cE e.2 (o:Int)=true∧(o:Int)≠me∧0 < f.ask o:=fun o ho=>by
  obtain ⟨_,h2⟩:=Kj.1 ho
  simp only [de,Jn,Jq] at h2
  obtain ⟨a,b,c⟩:=hf.ask o h2.2
  have:=(hf.rng.2 o).2
  exact ⟨a,b,c,by omega⟩
 have hcov:∀ o:Nat,f.no o≠0→o∈(rg 0).filter (bJ me f)∨o∈(rg 0).filter (bM me f):=fun o ho=>by
  obtain ⟨a,_,c⟩:=hf.no o ho
  simp only [Kj,nA,a,bJ,bM,c,ho,T3,Ku,Jr,Jt,Mq,Ki,Tz]
  cases aT me o f<;>simp
 have haov:∀ o:Nat,f.ask o≠0→o∈(rg 0).filter (de me f):=fun o ho=>by
  obtain ⟨a,_,c⟩:=hf.ask o ho
  simp [nA,a,de,c,ho]
 unfold kn cx dK ey
 rw [cH (by rw [jJ _ _ (hn.filter _) hd rfl])]
 rw [jJ _ _ (hn.filter _) hd rfl]
 have hw0:=hf.rng.1
 have wr:∀ g:Fld,g.wants=0→ay me e g (if f.wants≠0 then [(2,e.1,0,f.wants)] else [])=((if f.wants≠0 then { g with wants:=f.wants,af:=fun _=>false } else g),true):=fun g hg=>by
  by_cases h0:f.wants=0
  ·simp [h0,ay]
  ·rw [K1 h0,K1 h0,bb (g:={ g with wants:=f.wants,af:=fun _=>false }) rfl]
   ·rfl
   ·simp [aV,hg]
    omega
 rw [cH (by rw [wr _ rfl]),wr _ rfl]
 generalize hg1:(if f.wants≠0 then ({ ({ fd0 with no:=fun o=>if o∈(rg 0).filter (bJ me f) then f.no o else fd0.no o,af:=fun o=>if o∈(rg 0).filter (bJ me f) then true else fd0.af o }:Fld) with wants:=f.wants,af:=fun _=>false }:Fld) else { fd0 with no:=fun o=>if o∈(rg 0).filter (bJ me f) then f.no o else fd0.no o,af:=fun o=>if o∈(rg 0).filter (bJ me f) then true else fd0.af o })=g1
 have g1n:∀ o,g1.no o=if o∈(rg 0).filter (bJ me f) then f.no o else 0:=fun o=>by rw [←hg1];split<;>rfl
 have g1a:∀ o,g1.ask o=0:=fun o=>by rw [←hg1];split<;>rfl
 have g1o:g1.opn=false:=by rw [←hg1];split<;>rfl
 have g1w:g1.wants=f.wants:=by
  rw [←hg1]
  split
  ·rfl
  ·rename_i h;simpa [fd0] using (by simpa using h:f.wants=0).symm
 have g1f:∀ o,g1.af o=(decide (f.wants=0)&&decide (o∈(rg 0).filter (bJ me f))):=fun o=>by
  rw [←hg1]
  by_cases h0:f.wants=0
  ·by_cases hm:o∈(rg 0).filter (bJ me f)<;>simp [h0,hm,fd0]<;>simpa using hm
  ·simp [h0]
 have hcr:=jJ (me:=me) (e:=e) (f:=f) _ g1 (hn.filter (bM me f)) (fun o ho=>by
  obtain ⟨a,b,c,d,e'⟩:=hc o ho
  exact ⟨a,b,c,by rw [g1n,Kc e'];exact d⟩) g1o
 rw [cH (by rw [hcr]),hcr]
 have har:=vW (me:=me) (e:=e) (f:=f) _ { g1 with no:=fun o=>if o∈(rg 0).filter (bM me f) then f.no o else g1.no o,af:=fun o=>if o∈(rg 0).filter (bM me f) then true else g1.af o } (hn.filter (de me f)) (fun o ho=>by
  obtain ⟨a,b,c,d⟩:=ha o ho
  exact ⟨a,b,c,d,g1a o⟩)
 rw [cH (by rw [har]),har]
 have eno:(fun o=>if o∈(rg 0).filter (bM me f) then f.no o else g1.no o)=f.no:=by
  funext o
  rw [g1n]
  by_cases h1:o∈(rg 0).filter (bM me f)
  ·rw [K1 h1]
  ·rw [Kc h1]
   by_cases h2:o∈(rg 0).filter (bJ me f)
   ·rw [K1 h2]
   ·rw [Kc h2]
    by_cases h0:f.no o=0
    ·exact h0.symm
    ·rcases hcov o h0 with h | h
     ·exact absurd h h2
     ·exact absurd h h1
 have eas:(fun o=>if o∈(rg 0).filter (de me f) then f.ask o else g1.ask o)=f.ask:=by
  funext o
  rw [g1a]
  by_cases h1:o∈(rg 0).filter (de me f)
  ·rw [K1 h1]
  ·rw [Kc h1]
   by_cases h0:f.ask o=0
   ·exact h0.symm
   ·exact absurd (haov o h0) h1
 have eaf:(fun o=>if o∈(rg 0).filter (bM me f) then true else g1.af o)=(renF me f).af:=by
  funext o
  rw [g1f]
  by_cases h1:o∈(rg 0).filter (bM me f)
  ·simp only [K1 h1,renF,decide_eq_true h1,Bool.true_or]
  ·simp only [Kc h1,renF,decide_eq_false h1,Bool.false_or]
 simp only [eno,eas,eaf,g1w,g1o]
 by_cases ho:f.opn=true
 ·rw [K1 ho,bb (g:=renF me f) rfl]
  ·rfl
  ·have hm:=hf.all ho
   have e2:∀ af:Nat→Bool,bQ me e.2 ⟨f.no,af,f.ask,f.wants,false⟩=[]:=fun _=>hm
   simp [aV,e2,renF,ho]
 ·rw [Kc ho]
  have ho':f.opn=false:=by simpa using ho
  simp [ay,renF,ho']
end
section
theorem nR {me fld:Int} {f:Fld} {s:ba} (h:s∈kn me fld f):(∃ o,(bJ me f o=true∨bM me f o=true)∧o < 6∧s=iN fld f o)∨(f.wants≠0∧s=(2,fld,0,f.wants))∨(∃ o,de me f o=true∧o < 6∧s=nQ fld f o)∨(s=(4,fld,0,1)):=by
 unfold kn cx dK ey at h
 simp only [Kf] at h
 rcases h with h | h | h | h | h
 ·obtain ⟨o,ho,rfl⟩:=Kw.1 h
  obtain ⟨h1,h2⟩:=Kj.1 ho
  exact .inl ⟨o,.inl h2,nA.1 h1,rfl⟩
 ·split at h
  ·rename_i hw
   simp only [Kl] at h
   exact .inr (.inl ⟨hw,h⟩)
  ·cases h
 ·obtain ⟨o,ho,rfl⟩:=Kw.1 h
  obtain ⟨h1,h2⟩:=Kj.1 ho
  exact .inl ⟨o,.inr h2,nA.1 h1,rfl⟩
 ·obtain ⟨o,ho,rfl⟩:=Kw.1 h
  obtain ⟨h1,h2⟩:=Kj.1 ho
  exact .inr (.inr (.inl ⟨o,h2,nA.1 h1,rfl⟩))
 ·split at h
  ·simp only [Kl] at h
   exact .inr (.inr (.inr h))
  ·cases h
theorem sG {me fld:Int} {f:Fld} {s:ba} (h:s∈kn me fld f):s.2.1=fld:=by
 rcases nR h with ⟨o,_,_,rfl⟩ | ⟨_,rfl⟩ | ⟨o,_,_,rfl⟩ | rfl<;>rfl
theorem E1 {me:Int} {e:aJ} {f:Fld} (hf:FldOK me e f) (hfl:fg e.1 1 99=true) {s:ba} (h:s∈kn me e.1 f):iL s=true:=by
 have hw:=hf.rng.1
 have hp:∀ o:Nat,o < 6→gz (o:Int)=true:=fun o ho=>bT.2 (by omega)
 rcases nR h with ⟨o,ho,h6,rfl⟩ | ⟨h0,rfl⟩ | ⟨o,ho,h6,rfl⟩ | rfl
 ·have hn:f.no o≠0:=by
   rcases ho with ho | ho
   ·simp only [bJ,Jn,Jq] at ho;exact ho.2.1
   ·simp only [bM,Jn,Jq] at ho;exact ho.2.1
  have:=(hf.rng.2 o).1
  simp only [iN,iL,hfl,hp o h6,Ki,true_or,Js]
  simp [fg]
  omega
 ·simp only [iL,hfl,Ki]
  simp [fg]
  omega
 ·have hn:f.ask o≠0:=by simp only [de,Jn,Jq] at ho;exact ho.2
  have:=(hf.rng.2 o).2
  simp only [nQ,iL,hfl,hp o h6,Ki,or_true,Js]
  simp [fg]
  omega
 ·simp only [iL,hfl,Ki]
  simp [fg]
theorem mi {me h:Int} {bs:List aJ} {ss:List ba} (h1:ck me bs ss h=true) {e:aJ} (he:e∈bs):ay me e fd0 (dy me bs ss)=(renF me (rf me e ss),true):=by
 unfold dy
 rw [fb (key:=fun e:aJ=>e.1) (fun x s hs=>sG hs) (mf (bw h1)) he rfl]
 exact BP (rF h1 he)
theorem Hm {me h:Int} {bs:List aJ} {ss:List ba} (h1:ck me bs ss h=true):ck me bs (dy me bs ss) (dy me bs ss).length=true:=by
 obtain ⟨a1,a2,_,_,_,_⟩:=eG.1 h1
 have h4:=iC h1
 have hl:=pN (me:=me) (ss:=ss) bs
 refine eG.2 ⟨a1,a2,by omega,⟨by omega,by omega⟩,fun s hs=>?_,fun e he=>?_⟩
 ·obtain ⟨e,he,hs⟩:=List.mem_flatMap.1 hs
  obtain ⟨b1,j,b2,_⟩:=fF h1 he
  exact p7 (E1 (rF h1 he) b1 hs) (by rw [sG hs];exact b2)
 ·unfold rk
  rw [mi h1 he]
theorem ET {me h:Int} {bs:List aJ} {ss:List ba} (_:ck me bs ss h=true) {s:ba} (hs:s∈dy me bs ss) (h1s:s.1=1):s∈ss:=by
 obtain ⟨e,he,hs⟩:=List.mem_flatMap.1 hs
 rcases nR hs with ⟨o,ho,_,rfl⟩ | ⟨_,rfl⟩ | ⟨o,_,_,rfl⟩ | rfl
 ·have hn:(ay me e fd0 ss).1.no o≠0:=by
   rcases ho with ho | ho
   ·simp only [bJ,Jn,Jq] at ho;exact ho.2.1
   ·simp only [bM,Jn,Jq] at ho;exact ho.2.1
  exact j4 (f:=fd0) (by simpa [fd0] using hn)
 ·simp at h1s
 ·simp [nQ] at h1s
 ·simp at h1s
theorem yN {me h:Int} {bs:List aJ} {ss:List ba} (h1:ck me bs ss h=true) {n:Nat} (h2:h≤n):ck me bs (ss.take n) h=true:=by
 obtain ⟨a1,a2,a3,a4,a5,a6⟩:=eG.1 h1
 refine eG.2 ⟨a1,a2,by rw [M3];omega,⟨a4.1,by rw [M3];omega⟩,fun s hs=>a5 s (Mp hs),fun e he=>?_⟩
 have:=a6 e he
 unfold rk at this ⊢
 rw [←Mm n ss] at this
 exact kR this
theorem G2 {me h:Int} {bs:List aJ} {ss:List ba} (h1:ck me bs ss h=true):ck me bs ss ss.length=true:=by
 obtain ⟨a1,a2,a3,a4,a5,a6⟩:=eG.1 h1
 exact eG.2 ⟨a1,a2,a3,⟨by omega,by omega⟩,a5,a6⟩
theorem oY {me h:Int} {bs:List aJ} {ss:List ba} (h1:ck me bs ss h=true) {e:aJ} (he:e∈bs) (n o:Nat):(rf me e (ss.take n)).no o≤(rf me e ss).no o:=by
 have h6:=(eG.1 h1).2.2.2.2.2 e he
 unfold rk at h6
 have h7:=h6
 rw [←Mm n ss] at h7
 have h8:=cH (l2:=ss.drop n) (kR h7)
 rw [Mm] at h8
 unfold rf
 rw [h8]
 exact kb o
end
section
set_option maxRecDepth 100000
abbrev W4:=Int×Option (List aJ)×Option (List ba)×Int
def cg (w:W4):List D:=[il w.1,dB w.2.1,dS w.2.2.1,il w.2.2.2]
def rI (x:Int):List D:=[il x]
abbrev dW (o:Option (List W4)):D:=dL 4 cg o
def okWt (w:W4):Bool:=ck w.1 (w.2.1.getD []) (w.2.2.1.getD []) w.2.2.2
def xl (w:W4):Prop:=(w.2.1.getD []).length≤4611686018427387904∧(w.2.2.1.getD []).length≤4611686018427387904
def DS:Option Int→List W4→Bool
 | _,[]=>true
 | q,w::r=>okWt w&&(tE q w.1&&DS (some w.1) r)
def rX (l:List W4):Nat→Option Int
 | 0=>none
 | i+1=>(l[i]?).map (·.1)
def B6 (fld:Int) (w:W4):Bool:=match cM fld (w.2.1.getD []) with
 | none=>false
 | some j=>(fl w.1 (w.2.1.getD []) (w.2.2.1.getD []) j).opn
def iA (fld:Int) (l:List W4):List Int:=(l.filter (B6 fld)).map (·.1)
def Hc (l:List W4) (fld:Int):az:=if DS none l=true then (if 6 < l.length then BN 98 else if fg fld 1 99=true then some (0,[.d (dL 1 rI (lV (iA fld l))),.d (il 0)]) else BN 94) else BN 98
section
variable {Fn:Nat→List D→az} {FnD:D→List Sh→List D→az} {m:Nat}
theorem xt {o:Option (List W4)} {i:Nat} {c:W4} (h:(o.getD [])[i]?=some c) (k:List D→az):(aa Fn FnD m).rowD 4 (dW o) (il i) k=k (cg c):=r9 h rfl k
theorem lenW (o:Option (List W4)) (k:D→az):(aa Fn FnD m).lenD (dW o) k=k (il (o.getD []).length):=cX 4 cg o k
theorem lX (w:W4):(aa Fn FnD m).cell (cg w) 0=il w.1:=rfl
theorem lW (w:W4):(aa Fn FnD m).cell (cg w) 1=dB w.2.1:=rfl
theorem mR (w:W4):(aa Fn FnD m).cell (cg w) 2=dS w.2.2.1:=rfl
theorem mQ (w:W4):(aa Fn FnD m).cell (cg w) 3=il w.2.2.2:=rfl
end
theorem kF {l:List W4} {i:Nat} {w:W4} (h:l[i]?=some w):rX l (i+1)=some w.1:=by simp [rX,h]
end
section
abbrev P3:=Int×Int×Option (List j8)
def bk (k:Nat):List aJ:=([(3,63),(5,7),(8,42),(9,12)]:List aJ).filter fun b=>b.2.toNat.testBit k
def aG (w:W4):List ba:=w.2.2.1.getD []
def bnd (w:W4):List ba:=(aG w).take w.2.2.2.toNat
structure GoodW (ws:List W4) (ps:List P3):Prop where
 len:ws.length=6
 wat:∀ (k:Nat) w,ws[k]?=some w→w.1=(k:Int)∧w.2.1.getD []=bk k∧ck k (bk k) (aG w) w.2.2.2=true
 tal:∀ (k:Nat) w (a:Nat) v,ws[k]?=some w→ws[a]?=some v→∀ s∈aG w,s.1=1→s.2.2.1=(a:Int)→aK k a s.2.2.2=true→∀ e∈bk a,e.1=s.2.1→s.2.2.2≤(rf a e (bnd v)).no k
 pl:∀ p∈ps,l8 p.1 p.2.1 (p.2.2.getD [])=true∧∀ t∈p.2.2.getD [],∀ (a b:Nat) v,p.1=(a:Int)→p.2.1=(b:Int)→ws[a]?=some v→∀ e∈bk a,e.1=t.1→t.2.1≤(rf a e (bnd v)).no b
theorem jm {α:Type} {l:List α} {i j:Nat} {x y:α} (h:(l.set i x)[j]?=some y):(j=i∧y=x∧i < l.length)∨(j≠i∧l[j]?=some y):=by
 rw [List.getElem?_set] at h
 split at h
 ·rename_i e
  split at h
  ·rename_i hl
   cases h
   exact .inl ⟨e.symm,rfl,hl⟩
  ·cases h
 ·rename_i e
  exact .inr ⟨fun h=>e h.symm,h⟩
theorem GoodW.chg {ws:List W4} {ps:List P3} (hG:GoodW ws ps) {k:Nat} {w w':W4} (hw:ws[k]?=some w) (h1:w'.1=(k:Int)) (h2:w'.2.1.getD []=bk k) (h3:ck k (bk k) (aG w') w'.2.2.2=true)
  (hup:∀ e∈bk k,∀ o,(rf k e (bnd w)).no o≤(rf k e (bnd w')).no o)
  (hs:∀ s∈aG w',s.1=1→aK k s.2.2.1 s.2.2.2=true→s∈aG w∨∀ (a:Nat) v,ws[a]?=some v→s.2.2.1=(a:Int)→∀ e∈bk a,e.1=s.2.1→s.2.2.2≤(rf a e (bnd v)).no k):GoodW (ws.set k w') ps:=by
 have old:∀ {a:Nat} {v':W4},(ws.set k w')[a]?=some v'→∃ v,ws[a]?=some v∧∀ e∈bk a,∀ o,(rf a e (bnd v)).no o≤(rf a e (bnd v')).no o:=fun {a v'} h=>by
  rcases jm h with ⟨rfl,rfl,_⟩ | ⟨_,h⟩
  ·exact ⟨w,hw,hup⟩
  ·exact ⟨v',h,fun e _ o=>Tl _⟩
 refine ⟨by rw [Vc];exact hG.len,fun j v hj=>?_,fun j x a v' hj ha s hsm h1s hsa hwi e he hes=>?_,fun p hp=>⟨(hG.pl p hp).1,fun t ht a b v' ha hb hv e he het=>?_⟩⟩
 ·rcases jm hj with ⟨rfl,rfl,_⟩ | ⟨_,h⟩
  ·exact ⟨h1,h2,h3⟩
  ·exact hG.wat j v h
 ·obtain ⟨v,hv,hle⟩:=old ha
  refine Int.le_trans ?_ (hle e he j)
  rcases jm hj with ⟨rfl,rfl,_⟩ | ⟨_,h⟩
  ·rcases hs s hsm h1s (by rw [hsa];exact hwi) with h | h
   ·exact hG.tal j w a v hw hv s h h1s hsa hwi e he hes
   ·exact h a v hv hsa e he hes
  ·exact hG.tal j x a v h hv s hsm h1s hsa hwi e he hes
 ·obtain ⟨v,hv',hle⟩:=old hv
  exact Int.le_trans ((hG.pl p hp).2 t ht a b v ha hb hv' e he het) (hle e he b)
theorem GoodW.add {ws:List W4} {ps:List P3} (hG:GoodW ws ps) {p:P3} (h1:l8 p.1 p.2.1 (p.2.2.getD [])=true) (h2:∀ t∈p.2.2.getD [],∀ (a b:Nat) v,p.1=(a:Int)→p.2.1=(b:Int)→ws[a]?=some v→∀ e∈bk a,e.1=t.1→t.2.1≤(rf a e (bnd v)).no b):GoodW ws (ps++[p]):=by
 refine ⟨hG.len,hG.wat,hG.tal,fun q hq=>?_⟩
 rcases Kf.1 hq with hq | hq
 ·exact hG.pl q hq
 ·simp only [Kl] at hq
  subst hq
  exact ⟨h1,h2⟩
theorem GoodW.one {ws:List W4} {ps:List P3} (hG:GoodW ws ps) {a b:Nat} (hab:a≠b) {v w:W4} (hv:ws[a]?=some v) (hw:ws[b]?=some w) {e e':aJ} (he:e∈bk a) (he':e'∈bk b) (hee:e.1=e'.1)
  (h1:aK a b ((rf a e (aG v)).no b)=true) (h2:aK b a ((rf b e' (aG w)).no a)=true):False:=by
 obtain ⟨_,_,ov⟩:=hG.wat a v hv
 obtain ⟨_,_,ow⟩:=hG.wat b w hw
 have hx:(rf a e (aG v)).no b≤(rf b e' (aG w)).no a:=by
  by_cases h0:(rf a e (aG v)).no b=0
  ·rw [h0]
   exact kb (f:=fd0) a
  ·have hm:=j4 (me:=a) (e:=e) (l:=aG v) (f:=fd0) (o:=b) (by simpa [fd0,rf] using h0)
   exact Int.le_trans (hG.tal a v b w hv hw _ hm rfl rfl h1 e' he' hee.symm) (oY ow he' _ a)
 have hy:(rf b e' (aG w)).no a≤(rf a e (aG v)).no b:=by
  by_cases h0:(rf b e' (aG w)).no a=0
  ·rw [h0]
   exact kb (f:=fd0) b
  ·have hm:=j4 (me:=b) (e:=e') (l:=aG w) (f:=fd0) (o:=a) (by simpa [fd0,rf] using h0)
   exact Int.le_trans (hG.tal b w a v hw hv _ hm rfl rfl h2 e he hee) (oY ov he _ b)
 have hxy:(rf a e (aG v)).no b=(rf b e' (aG w)).no a:=by omega
 rw [hxy] at h1
 generalize (rf b e' (aG w)).no a=x at h1 h2
 unfold aK at h1 h2
 by_cases hx:x % 2=0
 ·simp only [hx,Jr,beq_true,Jq] at h1 h2
  omega
 ·simp only [hx,Jt,beq_false,M1,M7] at h1 h2
  omega
theorem DV {k j:Nat} {e e':aJ} (he:e∈bk k) (he':e'∈bk j) (h:e.1=e'.1):e=e'∧e.2.toNat.testBit k=true∧e.2.toNat.testBit j=true:=by
 unfold bk at he he'
 obtain ⟨h1,h2⟩:=Kj.1 he
 obtain ⟨h3,h4⟩:=Kj.1 he'
 have:e=e':=by
  simp only [Ka,M5,T1] at h1 h3
  rcases h1 with rfl | rfl | rfl | rfl<;>rcases h3 with rfl | rfl | rfl | rfl<;>first | rfl | (simp at h)
 subst this
 exact ⟨rfl,h2,h4⟩
theorem GoodW.open1 {ws:List W4} {ps:List P3} (hG:GoodW ws ps) {a b:Nat} (hab:a≠b) {v w:W4} (hv:ws[a]?=some v) (hw:ws[b]?=some w) {e e':aJ} (he:e∈bk a) (he':e'∈bk b) (hee:e.1=e'.1)
  (h1:(rf a e (aG v)).opn=true) (h2:(rf b e' (aG w)).opn=true):False:=by
 obtain ⟨_,_,ov⟩:=hG.wat a v hv
 obtain ⟨_,_,ow⟩:=hG.wat b w hw
 obtain ⟨rfl,ta,tb⟩:=DV he he' hee
 have key:∀ {x y:Nat} {f:Fld},y < 6→x≠y→e.2.toNat.testBit y=true→bQ x e.2 f=[]→aK x y (f.no y)=true:=fun {x y f} h6 hxy hb hm=>by
  have hy:y∈HG x e.2:=by
   unfold HG
   refine Kj.2 ⟨Mg.2 h6,?_⟩
   rw [hb]
   have:¬ (y:Int)=(x:Int):=by omega
   simp [this]
  cases hwi:aK x y (f.no y) with
  | true=>rfl
  | false =>
   have:y∈bQ x e.2 f:=Kj.2 ⟨hy,by simp [hwi]⟩
   rw [hm] at this
   cases this
 have la:a < 6:=by rw [←hG.len];exact (K5.1 hv).1
 have lb:b < 6:=by rw [←hG.len];exact (K5.1 hw).1
 exact hG.one hab hv hw he he' rfl (key lb hab tb ((rF ov he).all h1)) (key la (Ne.symm hab) ta ((rF ow he').all h2))
end
section
theorem Dx {me P:Int} {f g:Fld} {s:ba} (hs:iL s=true) (h:aV me P f s=some g) (hf:(∀ o,0≤f.no o)∧∀ o,f.af o=true→f.no o≠0):(∀ o,0≤g.no o)∧∀ o,g.af o=true→g.no o≠0:=by
 unfold aV at h
 split at h
 ·rename_i h1
  have hn:=tC hs (by omega)
  split at h
  ·cases h
  ·simp only [Jm] at h
   subst h
   refine ⟨fun o=>?_,fun o ho=>?_⟩
   ·simp only [bv]
    split
    ·omega
    ·exact hf.1 o
   ·simp only [bv] at ho ⊢
    split
    ·omega
    ·rename_i hne
     rw [Kc hne] at ho
     exact hf.2 o ho
 ·split at h
  ·split at h
   ·cases h
   ·simp only [Jm] at h
    subst h
    exact ⟨hf.1,fun o ho=>by cases ho⟩
  ·split at h
   ·split at h
    ·cases h
    ·simp only [Jm] at h;subst h;exact hf
   ·split at h
    ·cases h
    ·simp only [Jm] at h;subst h;exact hf
theorem qx {me:Int} {e:aJ}:∀ {l:List ba} {f:Fld},(∀ s∈l,iL s=true)→((∀ o,0≤f.no o)∧∀ o,f.af o=true→f.no o≠0)→(∀ o,0≤(ay me e f l).1.no o)∧∀ o,(ay me e f l).1.af o=true→(ay me e f l).1.no o≠0
 | [],_,_,hf=>hf
 | s::r,f,hs,hf=>by
  rw [ay]
  split
  ·cases h:aV me e.2 f s with
   | none=>exact hf
   | some g=>exact qx (fun x hx=>hs x (by simp [hx])) (Dx (hs s (by simp)) h hf)
  ·exact qx (fun x hx=>hs x (by simp [hx])) hf
theorem Gt {me h:Int} {bs:List aJ} {ss:List ba} (h1:ck me bs ss h=true) (e:aJ):∀ o,(rf me e ss).af o=true→(rf me e ss).no o≠0 :=
 (qx (Fb h1) ⟨fun _=>by simp [fd0],fun _ h=>by simp [fd0] at h⟩).2
theorem pL {me:Int} {e:aJ} {f:Fld} (hf:FldOK me e f) (haf:∀ o,f.af o=true→f.no o≠0) (o:Nat):aT me o (renF me f)=aT me o f:=by
 unfold aT
 simp only [K4]
 show (aK me o (f.no o)&&(fe f.wants&&(renF me f).af o))=_
 cases hw:aK me o (f.no o) with
 | false=>simp
 | true =>
  cases hod:fe f.wants with
  | false=>simp
  | true =>
   simp only [Ki]
   have hw0:f.wants≠0:=fun h=>by rw [h] at hod;revert hod;decide
   simp only [renF,hw0,Jt,Mh,Mz]
   cases ha:f.af o with
   | true =>
    obtain ⟨h6,_,hne⟩:=hf.no o (haf o ha)
    refine decide_eq_true (Kj.2 ⟨nA.2 h6,?_⟩)
    simp [bM,hne,haf o ha,aT,hw,hod,ha]
   | false =>
    refine decide_eq_false fun hm=>?_
    have:=(Kj.1 hm).2
    simp [bM,aT,hw,hod,ha] at this
theorem Bo {me a:Int} {e:aJ} {f:Fld} {t:j8} (hte:t.1=e.1) (hne:a≠me) (hP:cE e.2 a=true):ay me e f (iu me a t f)=({ f with ask:=if f.ask a.toNat < t.2.2 then bv f.ask a.toNat t.2.2 else f.ask,no:=if f.no a.toNat < t.2.1∧aK me a t.2.1=true∧f.opn=false then bv f.no a.toNat t.2.1 else f.no,af:=if f.no a.toNat < t.2.1∧aK me a t.2.1=true∧f.opn=false then bv f.af a.toNat true else f.af },true):=by
 unfold iu
 by_cases h1:f.ask a.toNat < t.2.2
 ·rw [K1 h1,K1 h1,V6,bb hte (lH hne hP h1 t.1)]
  by_cases h2:f.no a.toNat < t.2.1∧aK me a t.2.1=true∧f.opn=false
  ·rw [K1 h2,K1 h2,K1 h2,bb hte (gZ hne hP (by exact h2.1) (by exact h2.2.2) t.1)]
   rfl
  ·rw [Kc h2,Kc h2,Kc h2]
   rfl
 ·rw [Kc h1,Kc h1,Ke]
  by_cases h2:f.no a.toNat < t.2.1∧aK me a t.2.1=true∧f.opn=false
  ·rw [K1 h2,K1 h2,K1 h2,bb hte (gZ hne hP h2.1 h2.2.2 t.1)]
   rfl
  ·rw [Kc h2,Kc h2,Kc h2]
   rfl
end
end Go.VE
