/- Family: the most, and the fewest, who glean for a family (the plain law of Attain). -/
import Derived.Test.YtobeabinccohlaaGreatMg5
import Derived.Test.YtobeabinccohlaaGreatMg4
set_option maxRecDepth 20000
namespace Go.VE
open Go.RowKit Go.Proofs
section
def du (d who:Int) (S:Int→Option Int) (l:List E9) (Q:Option Int→Prop):Prop :=
 ∃ x,aG d who (below (bi (aS d S l) l) (bi (aS d S l) l).length)=[x]∧x∈aG d who (below l l.length)∧Q x
theorem qJ {d who:Int} {S:Int→Option Int} {l:List E9} {Q:Option Int→Prop} (hok:∀ e∈l,pt e)
  (h:(∀ e∈l,e.a≠who)∨∃ j x,S who=some j∧(j,x)∈bF d who (jc l)∧Q x) (h0:Q none∨∃ e∈l,e.a=who):du d who S l Q:=by
 by_cases hn:∃ e∈l,e.a=who
 ·rcases h with h | ⟨j,x,h1,h2,h3⟩
  ·obtain ⟨e,he,hw⟩:=hn
   exact absurd hw (h e he)
  ·exact ⟨x,sm hok h1 h2,fv h2,h3⟩
 ·have hno:∀ e∈l,e.a≠who:=fun e he hw=>hn ⟨e,he,hw⟩
  refine ⟨none,Gm S hno,by rw [Ah hno];simp,?_⟩
  rcases h0 with h0 | h0
  ·exact h0
  ·exact absurd h0 hn
structure OkK (a b c:List E9):Prop where
 a:∀ e∈a,pt e
 b:∀ e∈b,pt e
 c:∀ e∈c,pt e
theorem OkK.true {a b c:List E9} (k:OkK a b c) (d:Int) (S B W:Int→Option Int):TrueT a b c (aS d S a) (aS d B b) (aS d W c):=⟨mQ d S k.a,mQ d B k.b,mQ d W k.c⟩
structure Most (a b c:List E9) (o:List E5) (d f:Int) (S B W:Int→Option Int):Prop where
 ha:∀ p,du d p S a fun x=>((∃ h∈aY d p a,h≠0)→f0 x≠0)∧((∃ h∈aY d p a,h≠0∧f∈aj d b h)→f∈aj d b (f0 x))
 hb:∀ g,1≤g→g≤99→du d g B b fun x=>f∈aj d b g→(x=none∧g=f)∨∃ w,x=some w∧f∈aj d b w
 hc:∀ p,du d p W c fun x=>(none∈aG d p (below c c.length)→x=none)∧((∃ y∈aG d p (below c c.length),(ba (bm a c o d) y).1=true)→(ba (bm a c o d) x).1=true)
structure Few (a b c:List E9) (o:List E5) (d f:Int) (S B W:Int→Option Int):Prop where
 ha:∀ p,du d p S a fun x=>(0∈aY d p a→f0 x=0)∧((∃ h∈aY d p a,h=0∨aj d b h≠[f])→f0 x=0∨aj d b (f0 x)≠[f])
 hb:∀ g,1≤g→g≤99→du d g B b fun x=>aj d b g≠[f]→(x=none∧g≠f)∨∃ w,x=some w∧aj d b w≠[f]
 hc:∀ p,du d p W c fun x=>((∃ w,some w∈aG d p (below c c.length))→x≠none)∧((∃ y∈aG d p (below c c.length),(ba (bm a c o d) y).2=true)→(ba (bm a c o d) x).2=true)
section
variable {a b c:List E9} {o:List E5} {d f:Int} {S B W:Int→Option Int}
theorem qv {p:Int} {x:Option Int} (h:aG d p (below (bi (aS d S a) a) (bi (aS d S a) a).length)=[x]) (z:Int):z∈aY d p (bi (aS d S a) a)↔z=f0 x:=by
 rw [bb,h];simp
theorem mY (hl:dh b) (hk:∀ e∈b,pt e) {g:Int} (hg:1≤g) {x:Option Int} (h:aG d g (below (bi (aS d B b) b) (bi (aS d B b) b).length)=[x]) (z:Int) :
  z∈aj d (bi (aS d B b) b) g↔(x=none∧z=g)∨∃ w,x=some w∧z∈aj d (bi (aS d B b) b) w:=by
 rw [cv (ky (c9 (mQ d B hk)) hl) hg,h]
 simp only [Tw]
 constructor
 ·rintro (⟨h1,h2⟩ | ⟨w,h1,h2⟩)
  ·exact .inl ⟨h1.symm,h2⟩
  ·exact .inr ⟨w,h1.symm,h2⟩
 ·rintro (⟨h1,h2⟩ | ⟨w,h1,h2⟩)
  ·exact .inl ⟨h1.symm,h2⟩
  ·exact .inr ⟨w,h1.symm,h2⟩
theorem Cq (hl:dh b) (hk:∀ e∈b,pt e) (m:Most a b c o d f S B W):∀ (n:Nat) (g:Int),g.toNat≤n→1≤g→g≤99→f∈aj d b g→f∈aj d (bi (aS d B b) b) g:=by
 intro n
 induction n with
 | zero=>intro g h1 h2;omega
 | succ n ih =>
  intro g h1 h2 h3 h
  obtain ⟨x,hx,hx2,hq⟩:=m.hb g h2 h3
  rw [mY hl hk h2 hx]
  rcases hq h with ⟨e1,e2⟩ | ⟨w,rfl,e2⟩
  ·exact .inl ⟨e1,e2.symm⟩
  ·have:=co hl hx2
   exact .inr ⟨w,rfl,ih w (by omega) (by omega) (by omega) e2⟩
theorem Ec (hl:dh b) (hk:∀ e∈b,pt e) (m:Few a b c o d f S B W):∀ (n:Nat) (g:Int),g.toNat≤n→1≤g→g≤99→aj d b g≠[f]→f∉aj d (bi (aS d B b) b) g:=by
 intro n
 induction n with
 | zero=>intro g h1 h2;omega
 | succ n ih =>
  intro g h1 h2 h3 h
  obtain ⟨x,hx,hx2,hq⟩:=m.hb g h2 h3
  rw [mY hl hk h2 hx]
  rcases hq h with ⟨e1,e2⟩ | ⟨w,rfl,e2⟩
  ·rintro (⟨_,h5⟩ | ⟨w,h4,_⟩)
   ·exact e2 h5.symm
   ·rw [e1] at h4;cases h4
  ·have:=co hl hx2
   rintro (⟨h4,_⟩ | ⟨w',h4,h5⟩)
   ·cases h4
   ·cases h4
    exact ih w (by omega) (by omega) (by omega) e2 h5
theorem BU (m:Most a b c o d f S B W) {p:Int} (h:(bm a c o d p).1=true):(bm (bi (aS d S a) a) (bi (aS d W c) c) o d p).1=true:=by
 obtain ⟨x,hx,_,q1,_⟩:=m.ha p
 obtain ⟨y,hy,_,q2,_⟩:=m.hc p
 unfold bm at h ⊢
 by_cases hb:dJ d p o=true
 ·rw [T1 hb] at h;cases h
 ·rw [T5 hb] at h ⊢
  simp only [Te,cN,T4,mc] at h ⊢
  obtain ⟨⟨z,hz,hz0⟩,hn⟩:=h
  obtain ⟨n,hn,hn2⟩:=hn
  have hn:none∈aG d p (below c c.length):=by cases n with | none=>exact hn | some w=>cases hn2
  rw [hx,hy,q2 hn]
  exact ⟨⟨x,by simp,q1 ⟨f0 z,(bb ..).2 ⟨z,hz,rfl⟩,hz0⟩⟩,by simp⟩
theorem D6 (m:Few a b c o d f S B W) {p:Int} (h:(bm a c o d p).2=true):(bm (bi (aS d S a) a) (bi (aS d W c) c) o d p).2=true:=by
 obtain ⟨x,hx,_,q1,_⟩:=m.ha p
 obtain ⟨y,hy,_,q2,_⟩:=m.hc p
 unfold bm at h ⊢
 by_cases hb:dJ d p o=true
 ·rw [T1 hb]
 ·rw [T5 hb] at h ⊢
  simp only [Vl,cN,T4,mb] at h ⊢
  rw [hx,hy]
  rcases h with ⟨z,hz,hz0⟩ | h
  ·exact .inl ⟨x,by simp,q1 ((bb ..).2 ⟨z,hz,hz0.symm⟩)⟩
  ·right
   cases hy2:y with
   | none =>
    obtain ⟨u,hu,hu2⟩:=h
    cases u with
    | none=>cases hu2
    | some w=>exact absurd hy2 (q2 ⟨w,hu⟩)
   | some w=>exact ⟨some w,by simp,rfl⟩
theorem GP (m:Most a b c o d f S B W) {p:Int} (h:(fy a c o d p).1=true):(fy (bi (aS d S a) a) (bi (aS d W c) c) o d p).1=true:=by
 obtain ⟨y,hy,_,_,q2⟩:=m.hc p
 unfold fy at h ⊢
 by_cases hb:dJ d p o=true
 ·rw [T1 hb] at h;cases h
 ·rw [T5 hb] at h ⊢
  simp only [cN] at h ⊢
  have hq:=q2 h
  rw [hy]
  refine ⟨y,by simp,?_⟩
  cases y with
  | none=>rfl
  | some z =>
   simp only [ba] at hq ⊢
   by_cases hz:z=0
   ·rw [T1 hz] at hq;cases hq
   ·rw [T5 hz] at hq ⊢
    exact BU m hq
theorem MH (m:Few a b c o d f S B W) {p:Int} (h:(fy a c o d p).2=true):(fy (bi (aS d S a) a) (bi (aS d W c) c) o d p).2=true:=by
 obtain ⟨y,hy,_,_,q2⟩:=m.hc p
 unfold fy at h ⊢
 by_cases hb:dJ d p o=true
 ·rw [T1 hb]
 ·rw [T5 hb] at h ⊢
  simp only [cN] at h ⊢
  have hq:=q2 h
  rw [hy]
  refine ⟨y,by simp,?_⟩
  cases y with
  | none=>cases hq
  | some z =>
   simp only [ba] at hq ⊢
   by_cases hz:z=0
   ·rw [T1 hz]
   ·rw [T5 hz] at hq ⊢
    exact D6 m hq
theorem tv (g:GoodK a b c o) (k:OkK a b c) (d:Int) (S B W:Int→Option Int) (p:Int):bC (bi (aS d S a) a) (bi (aS d B b) b) (bi (aS d W c) c) o d p=[jM a b c o (aS d S a) (aS d B b) (aS d W c) d p]:=by
 have t:=k.true d S B W
 have g':=g.nar (c9 t.a) (c9 t.b) (c9 t.c)
 exact yb (fc _ a) (fc _ b) (fc _ c) g'.less g'.fam
theorem Dg (g:GoodK a b c o) (k:OkK a b c) (m:Most a b c o d f S B W) (hf:f≠0) {p:Int} (h:f∈bC a b c o d p):jM a b c o (aS d S a) (aS d B b) (aS d W c) d p=f:=by
 have e:=tv g k d S B W p
 rw [cz] at h
 rcases h with ⟨h,_⟩ | ⟨h1,h',h2,h3,h4⟩
 ·exact absurd h hf
 ·obtain ⟨x,hx,hxo,q1,q2⟩:=m.ha p
  have hh:=q2 ⟨h',h2,h3,h4⟩
  have hx0:=q1 ⟨h',h2,h3⟩
  have hr:=cl g.fam ((bb ..).2 ⟨x,hxo,rfl⟩)
  have:f∈bC (bi (aS d S a) a) (bi (aS d B b) b) (bi (aS d W c) c) o d p:=cz.2 (.inr ⟨GP m h1,f0 x,(qv hx _).2 rfl,hx0,Cq g.less k.b m _ _ (Tf _) (by omega) (by omega) hh⟩)
  rw [e,Tw] at this
  exact this.symm
theorem FZ (g:GoodK a b c o) (k:OkK a b c) (m:Few a b c o d f S B W) (hf:f≠0) {p:Int} (h:jM a b c o (aS d S a) (aS d B b) (aS d W c) d p=f):bC a b c o d p=[f]:=by
 have e:=tv g k d S B W p
 have hm:f∈bC (bi (aS d S a) a) (bi (aS d B b) b) (bi (aS d W c) c) o d p:=by rw [e,h];simp
 rw [cz] at hm
 rcases hm with ⟨hm,_⟩ | ⟨h1,h',h2,h3,h4⟩
 ·exact absurd hm hf
 ·obtain ⟨x,hx,hxo,q1,q2⟩:=m.ha p
  rw [qv hx] at h2
  subst h2
  have hr:=cl g.fam ((bb ..).2 ⟨x,hxo,rfl⟩)
  have hall:∀ h∈aY d p a,h≠0∧aj d b h=[f]:=by
   intro h hh
   by_cases hn:h=0∨aj d b h≠[f]
   ·exfalso
    rcases q2 ⟨h,hh,hn⟩ with e1 | e1
    ·exact h3 e1
    ·exact Ec g.less k.b m _ _ (Tf _) (by omega) (by omega) e1 h4
   ·exact ⟨fun e1=>hn (.inl e1),Classical.not_not.1 fun e1=>hn (.inr e1)⟩
  have hgo:(fy a c o d p).2≠true:=fun h5=>by
   have h6:=MH m h5
   have:=K6 (o:=o) (d:=d) (p:=p) (fc (aS d S a) a) (fc (aS d W c) c)
   rw [h6,h1] at this
   cases this
  refine (tQ (dK ..) (mn g.fam g.less)).2 fun z hz=>?_
  rw [cz] at hz
  rcases hz with ⟨_,h5 | h5⟩ | ⟨_,h,h5,_,h7⟩
  ·exact absurd rfl (hall 0 h5).1
  ·exact absurd h5 hgo
  ·rw [(hall h h5).2,Tw] at h7
   exact h7
end
end
section
inductive Chain (d f:Int) (b:List E9) (B:Int→Option Int):Int→Prop where
 | stop {g:Int}:du d g B b (fun x=>x=none)→g=f→Chain d f b B g
 | step {g w:Int}:du d g B b (fun x=>x=some w)→Chain d f b B w→Chain d f b B g
structure ShowP (a b c:List E9) (o:List E5) (d f p:Int) (S B W:Int→Option Int):Prop where
 bar:dJ d p o=false
 ha:du d p S a fun x=>f0 x≠0∧Chain d f b B (f0 x)
 hc:du d p W c fun y=>y=none∨∃ z,y=some z∧z≠0∧dJ d z o=false∧du d z S a (fun x=>f0 x≠0)∧du d z W c (fun x=>x=none)
section
variable {a b c:List E9} {o:List E5} {d f p:Int} {S B W:Int→Option Int}
theorem ze (hl:dh b) (hk:∀ e∈b,pt e) {g:Int} (h:Chain d f b B g):1≤g→f∈aj d (bi (aS d B b) b) g:=by
 induction h with
 | stop h e =>
  intro hg
  obtain ⟨x,hx,_,hq⟩:=h
  rw [mY hl hk hg hx]
  exact .inl ⟨hq,e.symm⟩
 | step h _ ih =>
  intro hg
  obtain ⟨x,hx,hxo,hq⟩:=h
  subst hq
  rw [mY hl hk hg hx]
  have:=co hl hxo
  exact .inr ⟨_,rfl,ih (by omega)⟩
theorem Df (g:GoodK a b c o) (k:OkK a b c) (m:ShowP a b c o d f p S B W):jM a b c o (aS d S a) (aS d B b) (aS d W c) d p=f:=by
 have e:=tv g k d S B W p
 obtain ⟨x,hx,hxo,q1,q2⟩:=m.ha
 obtain ⟨y,hy,_,hq⟩:=m.hc
 have hr:=cl g.fam ((bb ..).2 ⟨x,hxo,rfl⟩)
 have hgo:(fy (bi (aS d S a) a) (bi (aS d W c) c) o d p).1=true:=by
  unfold fy
  rw [T5 (by rw [m.bar];simp),hy]
  simp only [W2,List.any_nil,Bool.or_false]
  rcases hq with rfl | ⟨z,rfl,hz,hb,⟨u,hu,_,hu2⟩,⟨v,hv,_,hv2⟩⟩
  ·rfl
  ·simp only [ba,T5 hz]
   unfold bm
   rw [T5 (by rw [hb];simp),hu,hv]
   subst hv2
   simp [hu2]
 have hm:f∈bC (bi (aS d S a) a) (bi (aS d B b) b) (bi (aS d W c) c) o d p:=cz.2 (.inr ⟨hgo,f0 x,(qv hx _).2 rfl,q1,ze g.less k.b q2 (by omega)⟩)
 rw [e,Tw] at hm
 exact hm.symm
end
end
section
abbrev cT:=List (Int×Int)
def mq (l:cT):Mr:=(l.map fun p=>.int .i64 p.1,l.map fun p=>[il p.2])
def dM (l:cT):D:=.mp false (mq l).1 (mq l).2
def bM:cT→Int→Option Int
 | [],_=>none
 | p::l,f=>if p.1=f then some p.2 else bM l f
def dx:cT→Int→Int→cT
 | [],f,z=>[(f,z)]
 | p::l,f,z=>if p.1=f then (f,z)::l else p::dx l f z
theorem cJ (f z g:Int):∀ l:cT,bM (dx l f z) g=if g=f then some z else bM l g
 | []=>by
  simp only [dx,bM]
  by_cases h:g=f
  ·simp [h]
  ·rw [T5 h,T5 (Ne.symm h)]
 | p::l=>by
  simp only [dx]
  by_cases hp:p.1=f
  ·rw [T1 hp]
   simp only [bM]
   by_cases h:g=f
   ·simp [h]
   ·rw [T5 h,T5 (Ne.symm h),T5 (by rw [hp];exact Ne.symm h)]
  ·rw [T5 hp]
   simp only [bM,cJ f z g l]
   by_cases h:p.1=g
   ·rw [T1 h,T1 h,T5 (fun e=>hp (h.trans e))]
   ·rw [T5 h,T5 h]
def pg:cT→Int→Option Nat
 | [],_=>none
 | p::l,f=>if p.1=f then some 0 else (pg l f).map (·+1)
theorem qE (f:Int):∀ (l:cT) (i:Nat),dY 0 (.int .i64 f) (l.map fun p=>.int .i64 p.1) i=some ((pg l f).map (i+·))
 | [],i=>rfl
 | p::l,i=>by
  have e:dY 0 (.int .i64 f) ((p::l).map fun p=>Value.int .i64 p.1) i=if f=p.1 then some (some i) else dY 0 (.int .i64 f) (l.map fun p=>.int .i64 p.1) (i+1):=by
   simp only [Tl,dY,Fv,T6]
   by_cases hfg:f=p.1
   ·rw [←hfg];simp
   ·have:(f==p.1)=false:=by simp [hfg]
    simp [this,hfg]
  rw [e,qE f l (i+1)]
  simp only [pg]
  by_cases h:f=p.1
  ·rw [T1 h,T1 h.symm];rfl
  ·rw [T5 h,T5 (Ne.symm h)]
   cases pg l f with
   | none=>rfl
   | some j=>simp only [Th];congr 2;omega
theorem AH (f:Int):∀ l:cT,match pg l f with
  | some j=>∃ z,(l.map fun p=>[il p.2])[j]?=some [il z]∧bM l f=some z
  | none=>bM l f=none
 | []=>rfl
 | p::l=>by
  have ih:=AH f l
  simp only [pg,bM]
  by_cases h:p.1=f
  ·rw [T1 h,T1 h]
   exact ⟨p.2,by simp,rfl⟩
  ·rw [T5 h,T5 h]
   cases hi:pg l f with
   | none=>rw [hi] at ih;exact ih
   | some j =>
    rw [hi] at ih
    obtain ⟨z,h1,h2⟩:=ih
    exact ⟨z,by simpa using h1,h2⟩
theorem M4 (l:cT) (f:Int):jI 0 [.int .i64 0] (mq l) (il f)=some (match bM l f with | some z=>([il z],bl true) | none=>([il 0],bl false)):=by
 have h1:=qE f l 0
 have h2:=AH f l
 simp only [jI,rU,il,j0,T6,mq,h1]
 cases hi:pg l f with
 | none =>
  rw [hi] at h2
  simp only [Wr,h2];rfl
 | some j =>
  rw [hi] at h2
  obtain ⟨z,h3,h4⟩:=h2
  simp only [il] at h3
  simp only [Th,Tz,h3,h4];rfl
theorem AG (f z:Int):∀ l:cT,match pg l f with
  | some j=>((mq l).1,(mq l).2.set j [il z])=mq (dx l f z)
  | none=>((mq l).1++[.int .i64 f],(mq l).2++[[il z]])=mq (dx l f z)
 | []=>rfl
 | p::l=>by
  have ih:=AG f z l
  simp only [pg,dx]
  by_cases h:p.1=f
  ·rw [T1 h,T1 h]
   simp [mq,h]
  ·rw [T5 h,T5 h]
   cases hi:pg l f with
   | none =>
    rw [hi] at ih
    simp only [mq,Ty] at ih
    simp only [Wr,mq,Tl,Tr,ih.1,ih.2]
   | some j =>
    rw [hi] at ih
    simp only [mq,Ty] at ih
    simp only [Th,mq,Tl,List.set_cons_succ,ih.1,ih.2]
theorem upd_q (l:cT) (f z:Int):rO 0 (mq l) (il f) [il z]=some (mq (dx l f z)):=by
 have h1:=qE f l 0
 have h2:=AG f z l
 simp only [rO,rU,il,j0,T6,mq,h1]
 cases hi:pg l f with
 | none =>
  rw [hi] at h2
  simp only [Wr]
  exact congrArg some h2
 | some j =>
  rw [hi] at h2
  simp only [Th,Tz]
  exact congrArg some h2
section
variable {Fn:Nat→List D→aq} {FnD:D→List Sh→List D→aq} {m:Nat}
theorem A9 (l:cT) (f:Int) (k:List D→D→aq):(af Fn FnD m).look 0 [.int .i64 0] (mq l) (il f) k=match bM l f with | some z=>k [il z] (bl true) | none=>k [il 0] (bl false):=by
 rw [LJ _ _ _ _ _ _ (M4 l f)]
 cases bM l f<;>rfl
theorem cu (l:cT) (f z:Int) (k:Mr→aq):(af Fn FnD m).upd 0 (mq l) (il f) [il z] k=k (mq (dx l f z)):=r_upd _ _ _ _ _ _ (upd_q l f z)
theorem oL (l:cT) (k:Mr→aq):(af Fn FnD m).asM false (dM l) k=k (mq l):=rfl
theorem lF (l:cT):(af Fn FnD m).mpD false (mq l)=dM l:=rfl
end
theorem C0 (n:Nat) (l:cT) (w:Int) (e:E9) (i:Nat) (h:e.a=w):FN (n+1) 198 [dM l,il w,il i]=some (0,[.d (bl (nl (bM l) e i))]):=by
 rw [FS,HL]
 simp only [G198,oL,A9,nl,h]
 cases bM l w<;>simp
theorem C1 (n:Nat) (e:E9) (d:Int) (has:Bool):FN (n+1) 197 [il e.f1,il e.f2,il e.t1,il e.t2,il d,bl has]=some (0,[.d (il (BW d has e).b),.d (il (BW d has e).e)]):=by
 rw [FS,HM]
 simp only [G197,aa,ck,ao,BW,T4]
 cases has with
 | true=>simp
 | false =>
  simp only [T0,T9]
  split<;>rfl
end
section
theorem iT {d:Int} {S:Int→Option Int} {l:List E9} {i:Nat} {t:T2} (h:(aS d S l)[i]?=some t):∃ e,l[i]?=some e∧t=BW d (nl S e i) e:=by
 unfold aS at h
 rw [Tm,Ta] at h
 obtain ⟨⟨e,j⟩,h1,rfl⟩:=h
 rw [List.getElem?_zipIdx,Ta] at h1
 obtain ⟨e',h2,h3⟩:=h1
 rw [Tz] at h3
 cases h3
 exact ⟨e,h2,rfl⟩
section
variable (n:Nat) (d:Int) (S:cT) (o:Option (List E9)) (hl:(o.getD []).length≤60)
include hl
theorem Mg (x0 x1 x2 x3 B W:D) :
  ax [rp (RP (n+1)),rm (RP (n+1))] M0 0 [x0,x1,x2,x3,il d,d9 o,il (o.getD []).length,il 0,dM S,B,W] =
  ff [x0,x1,x2,x3,il d,dM S,B,W] (fun rs=>[.d x0,.d x1,.d x2,.d x3,.d (il d),.r rs,.n rs.length,.n rs.length,.d (dM S),.d B,.d W]) ((aS d (bM S) (o.getD [])).map rT):=by
 have hlen:=l7 d (bM S) (o.getD [])
 have:=cq (aS d (bM S) (o.getD [])) (by omega) (fun t=>some (rT t)) (rp (RP (n+1))) (rm (RP (n+1))) (fun i=>[.d x0,.d x1,.d x2,.d x3,.d (il d),.d (d9 o),.d (il (o.getD []).length),.d (il (i:Nat)),.d (dM S),.d B,.d W]) (fun i rs=>[.d x0,.d x1,.d x2,.d x3,.d (il d),.d (d9 o),.d (il (o.getD []).length),.d (il (i:Nat)),.r rs,.n rs.length,.n rs.length,.d (dM S),.d B,.d W]) [x0,x1,x2,x3,il d,dM S,B,W] (fun rs=>[.d x0,.d x1,.d x2,.d x3,.d (il d),.r rs,.n rs.length,.n rs.length,.d (dM S),.d B,.d W]) ?_ ?_ ?_ ?_
 ·simpa using this
 ·intro q;simp [rp,hlen]
 ·intro rs q;simp [rm,hlen]
 ·intro i t q hi hlt hw
  obtain ⟨e,he,rfl⟩:=iT hi
  rw [hlen] at hlt
  simp only [rp,ac,ag,aC,aa,hlt,T8,T6,ct he,r9,ak,ar,ah,C0 n S _ e i rfl,C1 n e,ab,bj,aI,aM,aR,aU,Tb,Td,Tg,Tq,bT,bc,ae,ay,hw]
  rw [T1 (by simp)]
  rfl
 ·intro i t rs q hi hlt hw hrs
  obtain ⟨e,he,rfl⟩:=iT hi
  rw [hlen] at hlt
  simp only [rm,ac,ag,b8,aZ,aN,b9,aC,aa,hlt,T8,T6,ct he,r9,ak,ar,ah,C0 n S _ e i rfl,C1 n e,ab,bj,aI,aM,aR,aU,Tb,Td,Tg,Tq,bc,ae,ay,hw,bV,cX,Tp]
  rw [T1 (by simp;omega)]
  rfl
theorem Mf (x0 x1 x2 x3 ta S0 W:D) :
  ax [rl (RP (n+1)),rh (RP (n+1))] M0 0 [x0,x1,x2,x3,il d,d9 o,il (o.getD []).length,il 0,ta,S0,dM S,W] =
  ff [x0,x1,x2,x3,il d,ta,S0,dM S,W] (fun rs=>[.d x0,.d x1,.d x2,.d x3,.d (il d),.r rs,.d ta,.n rs.length,.n rs.length,.d S0,.d (dM S),.d W]) ((aS d (bM S) (o.getD [])).map rT):=by
 have hlen:=l7 d (bM S) (o.getD [])
 have:=cq (aS d (bM S) (o.getD [])) (by omega) (fun t=>some (rT t)) (rl (RP (n+1))) (rh (RP (n+1))) (fun i=>[.d x0,.d x1,.d x2,.d x3,.d (il d),.d (d9 o),.d (il (o.getD []).length),.d (il (i:Nat)),.d ta,.d S0,.d (dM S),.d W]) (fun i rs=>[.d x0,.d x1,.d x2,.d x3,.d (il d),.d (d9 o),.d (il (o.getD []).length),.d (il (i:Nat)),.r rs,.d ta,.n rs.length,.n rs.length,.d S0,.d (dM S),.d W]) [x0,x1,x2,x3,il d,ta,S0,dM S,W] (fun rs=>[.d x0,.d x1,.d x2,.d x3,.d (il d),.r rs,.d ta,.n rs.length,.n rs.length,.d S0,.d (dM S),.d W]) ?_ ?_ ?_ ?_
 ·simpa using this
 ·intro q;simp [rl,hlen]
 ·intro rs q;simp [rh,hlen]
 ·intro i t q hi hlt hw
  obtain ⟨e,he,rfl⟩:=iT hi
  rw [hlen] at hlt
  simp only [rl,ac,ag,aC,aa,hlt,T8,T6,ct he,r9,ak,ar,ah,C0 n S _ e i rfl,C1 n e,ab,bj,aI,aM,aR,aU,Tb,Td,Tg,Tq,bT,bc,ae,ay,hw]
  rw [T1 (by simp)]
  rfl
 ·intro i t rs q hi hlt hw hrs
  obtain ⟨e,he,rfl⟩:=iT hi
  rw [hlen] at hlt
  simp only [rh,ac,ag,b8,aZ,aN,b9,aC,aa,hlt,T8,T6,ct he,r9,ak,ar,ah,C0 n S _ e i rfl,C1 n e,ab,bj,aI,aM,aR,aU,Tb,Td,Tg,Tq,bc,ae,ay,hw,bV,cX,Tp]
  rw [T1 (by simp;omega)]
  rfl
theorem Me (ta tb S0 B:D) :
  ax [rg (RP (n+1)),rf (RP (n+1))] M0 0 [il d,d9 o,il (o.getD []).length,il 0,ta,tb,S0,B,dM S] =
  ff [ta,tb] (fun rs=>[.r rs,.d ta,.d tb,.n rs.length,.n rs.length]) ((aS d (bM S) (o.getD [])).map rT):=by
 have hlen:=l7 d (bM S) (o.getD [])
 have:=cq (aS d (bM S) (o.getD [])) (by omega) (fun t=>some (rT t)) (rg (RP (n+1))) (rf (RP (n+1))) (fun i=>[.d (il d),.d (d9 o),.d (il (o.getD []).length),.d (il (i:Nat)),.d ta,.d tb,.d S0,.d B,.d (dM S)]) (fun i rs=>[.d (il d),.d (d9 o),.d (il (o.getD []).length),.d (il (i:Nat)),.r rs,.d ta,.d tb,.n rs.length,.n rs.length,.d S0,.d B,.d (dM S)]) [ta,tb] (fun rs=>[.r rs,.d ta,.d tb,.n rs.length,.n rs.length]) ?_ ?_ ?_ ?_
 ·simpa using this
 ·intro q;simp [rg,hlen]
 ·intro rs q;simp [rf,hlen]
 ·intro i t q hi hlt hw
  obtain ⟨e,he,rfl⟩:=iT hi
  rw [hlen] at hlt
  simp only [rg,ac,ag,aC,aa,hlt,T8,T6,ct he,r9,ak,ar,ah,C0 n S _ e i rfl,C1 n e,ab,bj,aI,aM,aR,aU,Tb,Td,Tg,Tq,bT,bc,ae,ay,hw]
  rw [T1 (by simp)]
  rfl
 ·intro i t rs q hi hlt hw hrs
  obtain ⟨e,he,rfl⟩:=iT hi
  rw [hlen] at hlt
  simp only [rf,ac,ag,b8,aZ,aN,b9,aC,aa,hlt,T8,T6,ct he,r9,ak,ar,ah,C0 n S _ e i rfl,C1 n e,ab,bj,aI,aM,aR,aU,Tb,Td,Tg,Tq,bc,ae,ay,hw,bV,cX,Tp]
  rw [T1 (by simp;omega)]
  rfl
end
theorem s148 (n:Nat) (d:Int) (S B W:cT) (a b c:Option (List E9)) (o:Option (List E5)) (ha:(a.getD []).length≤60) (hb:(b.getD []).length≤60) (hc:(c.getD []).length≤60) :
  FN (n+2) 148 [d9 a,d9 b,d9 c,d5 o,dM S,dM B,dM W,il d]=some (0,[.d (dT (bx (aS d (bM S) (a.getD [])))),.d (dT (bx (aS d (bM B) (b.getD [])))),.d (dT (bx (aS d (bM W) (c.getD []))))]):=by
 rw [FS,Im]
 simp only [G148,ab,ac,ag,cS,ae,aD]
 rw [Mg n d S a ha,EX (R:=fun t=>some (0,[.d (d9 a),.d (d9 b),.d (d9 c),.d (d5 o),.d (il d),.d t,.d (dM S),.d (dM B),.d (dM W)])) (by simp) (by intros;simp)]
 simp only [ab,ac,ag,cS]
 rw [Mf n d B b hb,EX (R:=fun t=>some (0,[.d (d9 a),.d (d9 b),.d (d9 c),.d (d5 o),.d (il d),.d (dT (bx (aS d (bM S) (a.getD [])))),.d t,.d (dM S),.d (dM B),.d (dM W)])) (by simp) (by intros;simp)]
 simp only [ab,ac,ag,cS]
 rw [Me n d W c hc,EX (R:=fun t=>some (0,[.d (dT (bx (aS d (bM S) (a.getD [])))),.d (dT (bx (aS d (bM B) (b.getD [])))),.d t])) (by simp) (by intros;simp)]
end
section
def vK (W:Int→Bool×Bool) (most:Bool):Option Int→Int
 | none=>if most=true then 2 else 0
 | some z=>if most=true then (if (ba W (some z)).1=true then 1 else 0) else (if (ba W (some z)).2=true then 2 else 1)
theorem s147 (n:Nat) (a b c:Option (List E9)) (o:Option (List E5)) (j z d:Int) (most:Bool) (hd:0≤d∧d≤4166) (ha:(a.getD []).length≤1000000) (hc:(c.getD []).length≤1000000) (ho:(o.getD []).length≤1000000) :
  FN (n+7) 147 [d9 a,d9 b,d9 c,d5 o,il j,il z,il d,bl most]=some (0,[.d (il (vK (bm (a.getD []) (c.getD []) (o.getD []) d) most (if j < 0 then none else some z)))]):=by
 rw [FS,In]
 have h:=Ls n a b c o d z hd ha hc ho
 simp only [G147,ae,aC,aa,ao,T4]
 by_cases hj:j < 0
 ·rw [T1 hj,T1 hj]
  cases most<;>rfl
 ·rw [T5 hj,T5 hj]
  simp only [aL,aa,T4,ah,h,ab,ac,ag,ao,aK]
  by_cases hz:z=0
  ·subst hz
   cases most<;>simp [vK,ba]
  ·simp only [X5,hz,Xf,T6,ab,ac,ag,vK,ba,T5 hz,aa,aP]
   rcases bm (a.getD []) (c.getD []) (o.getD []) d z with ⟨y,w⟩
   cases most<;>cases y<;>cases w<;>rfl
def Fs (L:Int→List Int) (f:Int) (most:Bool) (z:Int):Int :=
 if z=0 then (if most=true then 0 else 2) else if most=true then (if f∈L z then 2 else 1) else (if L z=[f] then 0 else 1)
def mz (L:Int→List Int) (f:Int) (most:Bool) (g:Int) (x:Option Int):Int :=
 if most=true then (if f∈(match x with | none=>[g] | some w=>L w) then 1 else 0) else (if (match x with | none=>[g] | some w=>L w)=[f] then 0 else 1)
theorem Gp {L:List Int} {f:Int} (hne:∃ z,z∈L):(f∈L∧¬ 1 < L.length)↔L=[f]:=by
 constructor
 ·rintro ⟨h1,h2⟩
  match L,h1,h2 with
  | [x],h1,_=>rw [Tw] at h1;rw [h1]
  | _::_::_,_,h2=>simp at h2
 ·rintro rfl;simp
section
variable (n:Nat) (a b c:Option (List E9)) (o:Option (List E5)) (d f:Int) (most:Bool) (hb:dh (b.getD [])) (hl:(b.getD []).length≤1000000)
include hb hl
theorem vo (j z:Int) (hz:z=0∨(1≤z∧z≤99)) (q:Mr) (hq:ci d (b.getD []) q) :
  ∃ q':Mr,ci d (b.getD []) q'∧FN (n+106) 1000144 [an a b c o,il d,.mp false q.1 q.2,il j,il z,il f,an a b c o,il d,bl most]=some (0,[.d (il (Fs (aj d (b.getD [])) f most z)),.d (an a b c o),.d (il d),.d (.mp false q'.1 q'.2)]):=by
 by_cases h0:z=0
 ·subst h0
  refine ⟨q,hq,?_⟩
  rw [FS,p8]
  simp only [rF,cd,ae,aV,T8,aa,T6,ca,ao,Fs]
  cases most<;>rfl
 ·have hz:1≤z∧z≤99:=hz.resolve_left h0
  obtain ⟨q',hq',h161⟩:=C2 a b c o d hb hl 100 n z q hz.1 (by omega) hz.2 hq
  refine ⟨q',hq',?_⟩
  obtain ⟨y,hy⟩:=eK hb (d:=d) _ z (Tf _) hz.1
  have hlen:(aj d (b.getD []) z).length≤1000000:=by
   have:=gD (gE d (b.getD []) z) fun x hx=>by
    have:=bK hb _ z x (Tf _) hz.1 hx
    omega
   omega
  have h149:=C4 (n+103) (some (aj d (b.getD []) z)) f (by simp only [T7];omega)
  simp only [T7] at h149
  have h1:=Gp (f:=f) ⟨y,hy⟩
  rw [FS,p8]
  have h161':FN (n+105) 1000161 [an a b c o,il d,.mp false q.1 q.2,il z,an a b c o,il d]=some (0,[.d (dI (some (aj d (b.getD []) z))),.d (an a b c o),.d (il d),.d (.mp false q'.1 q'.2)]):=h161
  simp only [rF,cd,ae,aV,h0,Tk,aa,T0,T9,ca,ah,h161',ab,ac,ag,h149,ao,aK]
  simp only [Fs,T5 h0]
  cases most with
  | true =>
   simp only [T6,ab,ac,ag,bu,bt,aa,ao,ca,T4]
   split<;>rfl
  | false =>
   simp only [T0,T9,ab,ac,ag,bu,bt,aa,aP,ao,ca,cA,T7,ck,Wl,W4,T4]
   by_cases hf:f∈aj d (b.getD []) z
   ·rw [T5 (by simpa using hf)]
    by_cases h2:1 < (aj d (b.getD []) z).length
    ·rw [T1 (by omega),T5 (fun e=>(h1.2 e).2 h2)]
    ·rw [T5 (by omega),T1 (h1.1 ⟨hf,h2⟩)]
   ·rw [T1 (by simpa using hf),T5 (fun e=>hf (h1.2 e).1)]
theorem mJ (j z g:Int) (hz:j < 0∨(1≤z∧z≤99)) (q:Mr) (hq:ci d (b.getD []) q) (K:D) :
  ∃ q':Mr,ci d (b.getD []) q'∧FN (n+106) 1000141 [an a b c o,il d,.mp false q.1 q.2,K,il j,il z,il g,il f,an a b c o,il d,bl most]=some (0,[.d (il (mz (aj d (b.getD [])) f most g (if j < 0 then none else some z))),.d (an a b c o),.d (il d),.d (.mp false q'.1 q'.2)]):=by
 rw [FS,xH]
 by_cases hj:j < 0
 ·refine ⟨q,hq,?_⟩
  have h149:=C4 (n+103) (some [g]) f (by simp)
  simp only [T7,Tw] at h149
  have h149':FN (n+105) 149 [.sl 1 [[il g]],il f]=some (0,[.d (bl (decide (f=g)))]):=h149
  simp only [rG,cd,ae,bQ,aa,T4]
  rw [T5 (by omega),T1 hj]
  simp only [ao,cI,ab,b8,aZ,aN,b9,ac,ag,bu,bt,bj,aM,aI,Tb,Td,aR,T6,aU,Tg,Tq,bL,ah,h149',e7,Vi,Wg,D4,Wj,aP,aa,lT,ck,ca]
  cases most with
  | true =>
   simp only [Tu,T0,T9,ao,mz,T6,Tw,T4]
   split<;>rfl
  | false =>
   have hi:∀ k:Nat→aq,(RP (n+105)).inx (il 0) 1 k=k 0:=fun k=>by rw [k8 _ _ _ (by simp)];rfl
   have hr:∀ k:List D→aq,(RP (n+105)).rowAt 1 [[il g]] 0 k=k [il g]:=fun k=>eX _ _ _ _ _ rfl rfl
   simp only [V1,T6,T4]
   rw [T5 (by simp)]
   simp only [hi,hr,ak,aL,aa,T4,ao,mz,T0,T9]
   by_cases hg:g=f
   ·subst hg;simp
   ·simp [hg]
 ·have hz:1≤z∧z≤99:=hz.resolve_left hj
  obtain ⟨q',hq',h161⟩:=C2 a b c o d hb hl 100 n z q hz.1 (by omega) hz.2 hq
  refine ⟨q',hq',?_⟩
  obtain ⟨y,hy⟩:=eK hb (d:=d) _ z (Tf _) hz.1
  have hlen:(aj d (b.getD []) z).length≤1000000:=by
   have:=gD (gE d (b.getD []) z) fun x hx=>by
    have:=bK hb _ z x (Tf _) hz.1 hx
    omega
   omega
  have h149:=C4 (n+103) (some (aj d (b.getD []) z)) f (by simp only [T7];omega)
  simp only [T7] at h149
  have h161':FN (n+105) 1000161 [an a b c o,il d,.mp false q.1 q.2,il z,an a b c o,il d]=some (0,[.d (dI (some (aj d (b.getD []) z))),.d (an a b c o),.d (il d),.d (.mp false q'.1 q'.2)]):=h161
  simp only [rG,cd,ae,bQ,aa,T4]
  rw [T1 (by omega),T5 hj]
  simp only [ca,ah,h161',ab,ac,ag,bu,bt,cd,ao,h149,aP,aa,cA,T7,ck]
  cases most with
  | true =>
   simp only [Tu,T0,T9,ao,mz,T6,T4]
   split<;>rfl
  | false =>
   simp only [V1,T6,T4,mz,T0,T9]
   obtain ⟨x,r,hL⟩:∃ x r,aj d (b.getD []) z=x::r:=by
    cases hL:aj d (b.getD []) z with
    | nil=>rw [hL] at hy;cases hy
    | cons x r=>exact ⟨x,r,rfl⟩
   have hrow:∀ k:List D→aq,(RP (n+105)).rowD 1 (dI (some (x::r))) (il 0) k=k [il x]:=fun k=>cQ (o:=some (x::r)) (i:=0) rfl k
   simp only [hL]
   cases r with
   | nil =>
    rw [T5 (by simp)]
    simp only [hrow,ak,aL,aa,T4,ao]
    by_cases hg:x=f
    ·subst hg;simp
    ·simp [hg]
   | cons y r =>
    rw [T1 (by simp only [Tb];omega),T5 (by simp)]
end
end
section
def bX (l:List E9) (m:Nat):List (E9×Nat):=((l.take m).zipIdx).reverse
theorem N1 (l:List E9):bX l l.length=jc l:=by rw [bX,Vf,jc]
theorem Hj {l:List E9} {m:Nat} {e:E9} (h:l[m]?=some e):bX l (m+1)=(e,m)::bX l m:=by
 have hm:m < l.length:=(Tn.1 h).1
 unfold bX
 rw [Wn,h,Option.toList_some,List.zipIdx_append,List.reverse_append]
 simp [Vo,Nat.min_eq_left (Nat.le_of_lt hm)]
theorem mS {σ:Type} (l:List E9) (hl:l.length≤1000000) (d who:Int) (bs:List ((Nat→List Yr→aq)→List Yr→aq)) (en:Nat→σ→Nat×List Yr) (I:Nat→σ→Prop) (Q:List (Int×Option Int)→σ→aq→Prop)
  (h0:∀ s k,I 0 s→∃ b,bs[(en 0 s).1]?=some b∧Q [(-1,none)] s (b k (en 0 s).2))
  (h1:∀ (m:Nat) e s (k:Nat→List Yr→aq),l[m]?=some e→m < l.length→IntKind.i64.wrap (((m:Nat):Int) - 1)=((m:Nat):Int) - 1→(((m+1:Nat):Int) - 1)=((m:Nat):Int)→I (m+1) s →
   ∃ b,bs[(en (m+1) s).1]?=some b ∧
   ((e.a=who∧bh e.f1 e.t2 d=true)→(∀ os,Q ((((m:Nat):Int),some e.b)::os) s (b k (en (m+1) s).2))∨∃ s',I m s'∧(∀ os r,Q os s' r→Q ((((m:Nat):Int),some e.b)::os) s r)∧(bq e.f2 e.t1 d=true→Q [] s' (b k (en (m+1) s).2))∧(¬ bq e.f2 e.t1 d=true→b k (en (m+1) s).2=k (en m s').1 (en m s').2)) ∧
   (¬ (e.a=who∧bh e.f1 e.t2 d=true)→I m s∧b k (en (m+1) s).2=k (en m s).1 (en m s).2))
  (s:σ) (hs:I l.length s):Q (bF d who (jc l)) s (ax bs M0 (en l.length s).1 (en l.length s).2):=by
 refine eZ (σ:=Nat×σ) bs (fun s=>en s.1 s.2) (fun s=>s.1) (fun t=>t.1≤l.length∧I t.1 t.2∧∀ r,Q (bF d who (bX l t.1)) t.2 r→Q (bF d who (jc l)) s r) (Q (bF d who (jc l)) s) ?_ M0 (l.length,s) ⟨Tf _,hs,fun r h=>by rw [N1] at h;exact h⟩ (by unfold M0;simp only;omega)
 rintro ⟨m,t⟩ k ⟨g1,g2,g3⟩ ih
 simp only at g1 g2 g3 ih ⊢
 cases m with
 | zero =>
  obtain ⟨b,hb,hq⟩:=h0 t k g2
  exact ⟨b,hb,g3 _ hq⟩
 | succ m =>
  obtain ⟨e,he⟩:∃ e,l[m]?=some e:=⟨_,Tc (by omega)⟩
  obtain ⟨b,hb,ha,hn⟩:=h1 m e t k he (by omega) (aE (by omega) (by omega)) (by omega) g2
  refine ⟨b,hb,?_⟩
  rw [Hj he] at g3
  simp only [bF] at g3
  by_cases hc:e.a=who∧bh e.f1 e.t2 d=true
  ·rw [T1 hc] at g3
   rcases ha hc with hx | ⟨s',i1,i2,i3,i4⟩
   ·exact g3 _ (hx _)
   by_cases hsu:bq e.f2 e.t1 d=true
   ·rw [T1 hsu] at g3
    exact g3 _ (i2 _ _ (i3 hsu))
   ·rw [T5 hsu] at g3
    rw [i4 hsu]
    exact ih (m,s') ⟨by simp only;omega,i1,fun r h=>g3 r (i2 _ _ h)⟩ (by simp only;omega)
  ·rw [T5 hc] at g3
   obtain ⟨i1,i2⟩:=hn hc
   rw [i2]
   exact ih (m,t) ⟨by simp only;omega,i1,g3⟩ (by simp only;omega)
def B6 (rate:Option Int→Int):Int×Int×Int→List (Int×Option Int)→Int×Int×Int
 | s,[]=>s
 | s,(j,x)::os=>B6 rate (if s.2.2 < rate x then (j,f0 x,rate x) else s) os
theorem F3 (rate:Option Int→Int):∀ (os:List (Int×Option Int)) (s:Int×Int×Int),s.2.2≤(B6 rate s os).2.2∧∀ p∈os,rate p.2≤(B6 rate s os).2.2
 | [],s=>⟨Xz _,fun p hp=>by cases hp⟩
 | (j,x)::os,s=>by
  rw [B6]
  obtain ⟨h1,h2⟩:=F3 rate os (if s.2.2 < rate x then (j,f0 x,rate x) else s)
  have h3:s.2.2≤(if s.2.2 < rate x then (j,f0 x,rate x) else s).2.2∧rate x≤(if s.2.2 < rate x then (j,f0 x,rate x) else s).2.2:=by
   split
   ·rename_i h;exact ⟨Int.le_of_lt h,Xz _⟩
   ·rename_i h;exact ⟨Xz _,Int.not_lt.1 h⟩
  exact ⟨Int.le_trans h3.1 h1,fun p hp=>by
   rcases Ti.1 hp with rfl | hp
   ·exact Int.le_trans h3.2 h1
   ·exact h2 p hp⟩
theorem B5 (rate:Option Int→Int):∀ (os:List (Int×Option Int)) (s:Int×Int×Int),B6 rate s os=s∨∃ p∈os,B6 rate s os=(p.1,f0 p.2,rate p.2)
 | [],s=>.inl rfl
 | (j,x)::os,s=>by
  rw [B6]
  rcases B5 rate os (if s.2.2 < rate x then (j,f0 x,rate x) else s) with h | ⟨p,hp,h⟩
  ·by_cases hx:s.2.2 < rate x
   ·rw [T1 hx] at h ⊢
    exact .inr ⟨(j,x),by simp,h⟩
   ·rw [T5 hx] at h ⊢
    exact .inl h
  ·exact .inr ⟨p,by simp [hp],h⟩
def sV (rate:Option Int→Int) (os:List (Int×Option Int)):Int:=(B6 rate (0,0,-1) os).1
theorem Hi {rate:Option Int→Int} {os:List (Int×Option Int)} (h0:∀ x,0≤rate x) (hne:os≠[]):∃ x,(sV rate os,x)∈os∧∀ p∈os,rate p.2≤rate x:=by
 have h1:=F3 rate os (0,0,-1)
 rcases B5 rate os (0,0,-1) with h | ⟨p,hp,h⟩
 ·exfalso
  match os,hne with
  | p::r,_ =>
   have:=h1.2 p (by simp)
   have h2:=h0 p.2
   rw [h] at this
   simp only at this
   omega
 ·refine ⟨p.2,by unfold sV;rw [h];exact hp,fun q hq=>?_⟩
  have:=h1.2 q hq
  rw [h] at this
  exact this
theorem vQ (d who:Int):∀ l:List (E9×Nat),bF d who l≠[]
 | []=>by simp [bF]
 | (e,i)::r=>by
  simp only [bF]
  split
  ·simp
  ·exact vQ d who r
end
section
def rP (rate:Option Int→Int) (s:Int×Int×Int) (p:Int×Option Int):Int×Int×Int:=if s.2.2 < rate p.2 then (p.1,f0 p.2,rate p.2) else s
def QB {τ:Type} (J:τ→Prop) (rate:Option Int→Int) (e0 e1:τ→Int×Int×Int→aq) (os:List (Int×Option Int)) (s:Int×Int×Int) (r:aq):Prop :=
 ∃ q,J q∧(r=e0 q (B6 rate s os)∨∃ s',r=e1 q s'∧rP rate s' (-1,none)=B6 rate s os)
theorem ns {τ:Type} (l:List E9) (hl:l.length≤1000000) (d who:Int) (bs:List ((Nat→List Yr→aq)→List Yr→aq)) (en:Nat→τ→Int×Int×Int→Nat×List Yr) (J:τ→Prop) (rate:Option Int→Int) (e0 e1:τ→Int×Int×Int→aq)
  (h0:∀ q s k,J q→∃ b,bs[(en 0 q s).1]?=some b∧b k (en 0 q s).2=e1 q s)
  (h1:∀ (m:Nat) e q s (k:Nat→List Yr→aq),l[m]?=some e→IntKind.i64.wrap (((m:Nat):Int) - 1)=((m:Nat):Int) - 1→(((m+1:Nat):Int) - 1)=((m:Nat):Int)→J q →
   ∃ b,bs[(en (m+1) q s).1]?=some b ∧
   ((e.a=who∧bh e.f1 e.t2 d=true)→∃ q',J q'∧b k (en (m+1) q s).2=if bq e.f2 e.t1 d=true then e0 q' (rP rate s ((m:Nat),some e.b)) else k (en m q' (rP rate s ((m:Nat),some e.b))).1 (en m q' (rP rate s ((m:Nat),some e.b))).2) ∧
   (¬ (e.a=who∧bh e.f1 e.t2 d=true)→b k (en (m+1) q s).2=k (en m q s).1 (en m q s).2))
  (q:τ) (hq:J q) (s:Int×Int×Int):QB J rate e0 e1 (bF d who (jc l)) s (ax bs M0 (en l.length q s).1 (en l.length q s).2):=by
 refine mS (σ:=τ×Int×Int×Int) l hl d who bs (fun m t=>en m t.1 t.2) (fun _ t=>J t.1) (fun os t r=>QB J rate e0 e1 os t.2 r) ?_ ?_ (q,s) hq
 ·rintro ⟨q,s⟩ k hJ
  obtain ⟨b,hb,hr⟩:=h0 q s k hJ
  exact ⟨b,hb,q,hJ,.inr ⟨s,hr,rfl⟩⟩
 ·rintro m e ⟨q,s⟩ k he _ hw hm hJ
  obtain ⟨b,hb,ha,hn⟩:=h1 m e q s k he hw hm hJ
  refine ⟨b,hb,fun hc=>?_,fun hc=>⟨hJ,hn hc⟩⟩
  obtain ⟨q',hJ',hr⟩:=ha hc
  refine .inr ⟨(q',rP rate s ((m:Nat),some e.b)),hJ',fun os r h=>h,fun hs=>?_,fun hs=>?_⟩
  ·rw [T1 hs] at hr
   exact ⟨q',hJ',.inl hr⟩
  ·rw [T5 hs] at hr
   exact hr
def t3 (s:Int×Int×Int):List Yr:=[.d (il s.1),.d (il s.2.1),.d (il s.2.2)]
theorem tz (rate:Option Int→Int) (s:Int×Int×Int) (p:Int×Option Int):t3 (rP rate s p)=if s.2.2 < rate p.2 then [.d (il p.1),.d (il (f0 p.2)),.d (il (rate p.2))] else t3 s:=by
 unfold rP t3;split<;>rfl
theorem l66_5 (n:Nat) (a b c:Option (List E9)) (o:Option (List E5)) (d who:Int) (most:Bool) (hd:0≤d∧d≤4166) (ha:(a.getD []).length≤1000000) (hc:(c.getD []).length≤1000000) (ho:(o.getD []).length≤1000000) (x7 x8:D) (s:Int×Int×Int) :
  QB (fun _:Unit=>True) (vK (bm (a.getD []) (c.getD []) (o.getD []) d) most)
   (fun _ s=>some (0,[.d (an a b c o),.d (il who),.d (an a b c o),.d (il d),.d (bl most),.d x7,.d x8]++t3 s))
   (fun _ s=>some (1,[.d (an a b c o),.d (il who),.d (an a b c o),.d (il d),.d (bl most),.d x7,.d x8]++t3 s)) (bF d who (jc (c.getD []))) s
   (ax [xl (RP (n+7))] M0 0 ([.d (il d),.d (il (((c.getD []).length:Int) - 1)),.d (an a b c o),.d (il who),.d (an a b c o),.d (il d),.d (bl most),.d x7,.d x8]++t3 s)):=by
 refine ns (τ:=Unit) (c.getD []) hc d who [xl (RP (n+7))] (fun m _ s=>(0,[.d (il d),.d (il ((m:Int) - 1)),.d (an a b c o),.d (il who),.d (an a b c o),.d (il d),.d (bl most),.d x7,.d x8]++t3 s)) (fun _=>True) _ _ _ ?_ ?_ () trivial s
 ·intro _ s k _
  exact ⟨_,rfl,by simp [xl,t3]⟩
 ·intro m e _ s k he hw hm1 _
  refine ⟨_,rfl,?_⟩
  have h195:=G2 (n+6) a b c o m e who he
  have h147:=s147 n a b c o m e.b d most hd ha hc ho
  rw [T5 (by omega)] at h147
  have hp:∀ k:List D→aq,(RP (n+7)).ptrW 4 (an a b c o) k=k [d9 a,d9 b,d9 c,d5 o]:=fun k=>bP _ 4 k rfl
  simp only [tz]
  simp only [hm1,xl,t3,Tr,V5,ac,ag,ae,bQ,aa]
  rw [T1 (by simp)]
  simp only [ah,h195,ab,ac,ag,aP,aa,br,hw,jN,aK,ao,hp,h147,ck]
  refine ⟨fun hc=>⟨(),trivial,?_⟩,fun hc=>?_⟩
  ·obtain ⟨h1,h2⟩:=hc
   by_cases hx:s.2.2 < vK (bm (a.getD []) (c.getD []) (o.getD []) d) most (some e.b)
   ·cases hq:bq e.f2 e.t1 d<;>simp [h1,h2,dV,hq,hp,h147,hx,f0]
   ·cases hq:bq e.f2 e.t1 d<;>simp [h1,h2,dV,hq,hp,h147,hx]
  ·by_cases h1:e.a=who
   ·have h2:¬ bh e.f1 e.t2 d=true:=fun h=>hc ⟨h1,h⟩
    simp [h1,h2]
   ·simp [h1]
end
section
abbrev rH (L:Int→List Int) (f:Int) (most:Bool) (x:Option Int):Int:=Fs L f most (f0 x)
section
variable (n:Nat) (a b c:Option (List E9)) (o:Option (List E5)) (d f:Int) (most:Bool) (hb:dh (b.getD [])) (hl:(b.getD []).length≤1000000)
include hb hl
theorem l66_4 (hf:my (a.getD [])) (hx:(a.getD []).length≤1000000) (who:Int) (x y:D) (s:Int×Int×Int) (q:Mr) (hq:ci d (b.getD []) q) :
  QB (ci d (b.getD [])) (rH (aj d (b.getD [])) f most)
   (fun q s=>some (1,[.d (an a b c o),.d (il who),.d (an a b c o),.d (il d),.d (an a b c o),.d (il d),.m q,.d (il f),.d (bl most),.d x,.d y]++t3 s))
   (fun q s=>some (0,[.d (an a b c o),.d (il who),.d (an a b c o),.d (il d),.d (an a b c o),.d (il d),.m q,.d (il f),.d (bl most),.d x,.d y]++t3 s)) (bF d who (jc (a.getD []))) s
   (ax [xm (RP (n+106))] M0 0 ([.d (il d),.d (il (((a.getD []).length:Int) - 1)),.d (an a b c o),.d (il who),.d (an a b c o),.d (il d),.d (an a b c o),.d (il d),.m q,.d (il f),.d (bl most),.d x,.d y]++t3 s)):=by
 refine ns (τ:=Mr) (a.getD []) hx d who [xm (RP (n+106))] (fun m q s=>(0,[.d (il d),.d (il ((m:Int) - 1)),.d (an a b c o),.d (il who),.d (an a b c o),.d (il d),.d (an a b c o),.d (il d),.m q,.d (il f),.d (bl most),.d x,.d y]++t3 s)) (ci d (b.getD [])) _ _ _ ?_ ?_ q hq s
 ·intro q s k _
  exact ⟨_,rfl,by simp [xm,t3]⟩
 ·intro m e q s k he hw hm1 hq
  refine ⟨_,rfl,?_⟩
  have ho:=vm (n+105) a b c o m e who he
  have hf:=hf e (Vb he)
  obtain ⟨q',hq',h1⟩:=vo n a b c o d f most hb hl m e.b (.inr hf) q hq
  simp only [tz,rH,f0,T7]
  simp only [hm1,xm,t3,Tr,V5,ac,ag,bu,bt,ae,bQ,aa]
  rw [T1 (by simp)]
  simp only [ah,ho,ab,ac,ag,aP,aa,br,hw,jN,aK,ao,h1,ck,ca,cd]
  refine ⟨fun hc=>⟨q',hq',?_⟩,fun hc=>?_⟩
  ·obtain ⟨h2,h3⟩:=hc
   by_cases hx:s.2.2 < Fs (aj d (b.getD [])) f most e.b
   ·cases hs:bq e.f2 e.t1 d<;>simp [h2,h3,dV,hs,h1,hx,ca,cd]
   ·cases hs:bq e.f2 e.t1 d<;>simp [h2,h3,dV,hs,h1,hx,ca,cd]
  ·by_cases h2:e.a=who
   ·have h3:¬ bh e.f1 e.t2 d=true:=fun h=>hc ⟨h2,h⟩
    simp [h2,h3]
   ·simp [h2]
theorem l66_0  (g:Int) (hg:g≤100) (m5 m6 m7:Mr) (x y z:D) (s:Int×Int×Int) (q:Mr) (hq:ci d (b.getD []) q) :
  QB (ci d (b.getD [])) (mz (aj d (b.getD [])) f most g)
   (fun q s=>some (1,[.m q,.d (an a b c o),.d (il d),.m m5,.m m6,.m m7,.d (il g),.d (an a b c o),.d (il d),.d x,.d (an a b c o),.d (il g),.d (il f),.d (bl most),.d y,.d z]++t3 s))
   (fun q s=>some (0,[.m q,.d (an a b c o),.d (il d),.m m5,.m m6,.m m7,.d (il g),.d (an a b c o),.d (il d),.d x,.d (an a b c o),.d (il g),.d (il f),.d (bl most),.d y,.d z]++t3 s)) (bF d g (jc (b.getD []))) s
   (ax [xo (RP (n+106))] M0 0 ([.d (il d),.d (il (((b.getD []).length:Int) - 1)),.m q,.d (an a b c o),.d (il d),.m m5,.m m6,.m m7,.d (il g),.d (an a b c o),.d (il d),.d x,.d (an a b c o),.d (il g),.d (il f),.d (bl most),.d y,.d z]++t3 s)):=by
 refine ns (τ:=Mr) (b.getD []) hl d g [xo (RP (n+106))] (fun m q s=>(0,[.d (il d),.d (il ((m:Int) - 1)),.m q,.d (an a b c o),.d (il d),.m m5,.m m6,.m m7,.d (il g),.d (an a b c o),.d (il d),.d x,.d (an a b c o),.d (il g),.d (il f),.d (bl most),.d y,.d z]++t3 s)) (ci d (b.getD [])) _ _ _ ?_ ?_ q hq s
 ·intro q s k _
  exact ⟨_,rfl,by simp [xo,t3]⟩
 ·intro m e q s k he hw hm1 hq
  refine ⟨_,rfl,?_⟩
  have ho:=G3 (n+105) a b c o m e g he
  have hbe:=hb e (Vb he)
  obtain ⟨q',hq',h1⟩:=mJ n a b c o d f most hb hl m e.b g (.inr ⟨hbe.1,by omega⟩) q hq x
  rw [T5 (by omega)] at h1
  simp only [tz,rH,f0,T7]
  simp only [hm1,xo,t3,Tr,V5,ac,ag,bu,bt,ae,bQ,aa]
  rw [T1 (by simp)]
  simp only [ah,ho,ab,ac,ag,aP,aa,br,hw,jN,aK,ao,h1,ck,ca,cd]
  refine ⟨fun hc=>⟨q',hq',?_⟩,fun hc=>?_⟩
  ·obtain ⟨h2,h3⟩:=hc
   by_cases hx:s.2.2 < mz (aj d (b.getD [])) f most g (some e.b)
   ·cases hs:bq e.f2 e.t1 d<;>simp [h2,h3,dV,hs,h1,hx,ca,cd]
   ·cases hs:bq e.f2 e.t1 d<;>simp [h2,h3,dV,hs,h1,hx,ca,cd]
  ·by_cases h2:e.a=g
   ·have h3:¬ bh e.f1 e.t2 d=true:=fun h=>hc ⟨h2,h⟩
    simp [h2,h3]
   ·simp [h2]
theorem l66_2  (g:Int) (hg:g≤100) (m5 m6 m7:Mr) (x y z:D) (s:Int×Int×Int) (q:Mr) (hq:ci d (b.getD []) q) :
  QB (ci d (b.getD [])) (mz (aj d (b.getD [])) f most g)
   (fun q s=>some (0,[.m q,.d (an a b c o),.d (il d),.m m5,.m m6,.m m7,.d (il g),.d (an a b c o),.d (il d),.d x,.d (an a b c o),.d (il g),.d (il f),.d (bl most),.d y,.d z]++t3 s))
   (fun q s=>some (1,[.m q,.d (an a b c o),.d (il d),.m m5,.m m6,.m m7,.d (il g),.d (an a b c o),.d (il d),.d x,.d (an a b c o),.d (il g),.d (il f),.d (bl most),.d y,.d z]++t3 s)) (bF d g (jc (b.getD []))) s
   (ax [xn (RP (n+106))] M0 0 ([.d (il d),.d (il (((b.getD []).length:Int) - 1)),.m q,.d (an a b c o),.d (il d),.m m5,.m m6,.m m7,.d (il g),.d (an a b c o),.d (il d),.d x,.d (an a b c o),.d (il g),.d (il f),.d (bl most),.d y,.d z]++t3 s)):=by
 refine ns (τ:=Mr) (b.getD []) hl d g [xn (RP (n+106))] (fun m q s=>(0,[.d (il d),.d (il ((m:Int) - 1)),.m q,.d (an a b c o),.d (il d),.m m5,.m m6,.m m7,.d (il g),.d (an a b c o),.d (il d),.d x,.d (an a b c o),.d (il g),.d (il f),.d (bl most),.d y,.d z]++t3 s)) (ci d (b.getD [])) _ _ _ ?_ ?_ q hq s
 ·intro q s k _
  exact ⟨_,rfl,by simp [xn,t3]⟩
 ·intro m e q s k he hw hm1 hq
  refine ⟨_,rfl,?_⟩
  have ho:=G3 (n+105) a b c o m e g he
  have hbe:=hb e (Vb he)
  obtain ⟨q',hq',h1⟩:=mJ n a b c o d f most hb hl m e.b g (.inr ⟨hbe.1,by omega⟩) q hq x
  rw [T5 (by omega)] at h1
  simp only [tz,rH,f0,T7]
  simp only [hm1,xn,t3,Tr,V5,ac,ag,bu,bt,ae,bQ,aa]
  rw [T1 (by simp)]
  simp only [ah,ho,ab,ac,ag,aP,aa,br,hw,jN,aK,ao,h1,ck,ca,cd]
  refine ⟨fun hc=>⟨q',hq',?_⟩,fun hc=>?_⟩
  ·obtain ⟨h2,h3⟩:=hc
   by_cases hx:s.2.2 < mz (aj d (b.getD [])) f most g (some e.b)
   ·cases hs:bq e.f2 e.t1 d<;>simp [h2,h3,dV,hs,h1,hx,ca,cd]
   ·cases hs:bq e.f2 e.t1 d<;>simp [h2,h3,dV,hs,h1,hx,ca,cd]
  ·by_cases h2:e.a=g
   ·have h3:¬ bh e.f1 e.t2 d=true:=fun h=>hc ⟨h2,h⟩
    simp [h2,h3]
   ·simp [h2]
end
end
section
def bB (b:List E9) (d f:Int) (most:Bool) (g:Int):Int:=sV (mz (aj d b) f most g) (bF d g (jc b))
def bH (a b:List E9) (d f:Int) (most:Bool) (p:Int):Int:=sV (rH (aj d b) f most) (bF d p (jc a))
def bA (a c:List E9) (o:List E5) (d:Int) (most:Bool) (p:Int):Int:=sV (vK (bm a c o d) most) (bF d p (jc c))
theorem nv {rate:Option Int→Int} {s s':Int×Int×Int} (h:rP rate s' (-1,none)=s):s.1=(if s'.2.2 < rate none then -1 else s'.1)∧s.2.1=(if s'.2.2 < rate none then 0 else s'.2.1):=by
 subst h
 unfold rP
 split<;>exact ⟨rfl,rfl⟩
section
variable (n:Nat) (a b c:Option (List E9)) (o:Option (List E5)) (d f:Int) (most:Bool) (hb:dh (b.getD [])) (hl:(b.getD []).length≤1000000)
def MS (s:Nat×Bool×cT×Mr) (S W:Mr):Nat×List Yr:=(if s.2.1=true then 1 else 0,[.d (il f),.d (il d),.d (bl most),.m s.2.2.2,.d (an a b c o),.d (il d),.m S,.m (mq s.2.2.1),.m W,.d (il ((100 - s.1:Nat):Int)),.d (an a b c o),.d (il d),.d (an a b c o)])
include hb hl
theorem r66_1 (g:Int) (hg:1≤g∧g≤99) (S W:Mr) (B:cT) (q:Mr) (hq:ci d (b.getD []) q) (k:Nat→List Yr→aq):∃ q',ci d (b.getD []) q' ∧
  t8 (RP (n+106)) k [il f,il d,bl most,.m q,an a b c o,il d,.m S,.m (mq B),.m W,il g,an a b c o,il d,an a b c o]
   = k 1 [il f,il d,bl most,.m q',an a b c o,il d,.m S,.m (mq (dx B g (bB (b.getD []) d f most g))),.m W,il (g+1),an a b c o,il d,an a b c o]:=by
 obtain ⟨q1,hq1,h⟩:=l66_0 n a b c o d f most hb hl g (by omega) S (mq B) W (an a b c o) (il 0) (il 0) (0,0,-1) q hq
 have hp:∀ k:List D→aq,(RP (n+106)).ptrW 4 (an a b c o) k=k [d9 a,d9 b,d9 c,d5 o]:=fun k=>bP _ 4 k rfl
 have hi:∀ k:aq,(RP (n+106)).isPtr (an a b c o) k=k:=fun k=>cW _ _ k
 have hw0:IntKind.i64.wrap (((b.getD []).length:Int) - 1)=((b.getD []).length:Int) - 1:=aE (by omega) (by omega)
 have hw:IntKind.i64.wrap (g+1)=g+1:=aE (by omega) (by omega)
 simp only [t3,Tr,V5] at h
 have hbst:bB (b.getD []) d f most g=(B6 (mz (aj d (b.getD [])) f most g) (0,0,-1) (bF d g (jc (b.getD [])))).1:=rfl
 simp only [t8,ac,ag,bu,bt,ae,gM,aa,T4]
 rw [T1 hg.2]
 simp only [hi,hp,ak,ar,cS,br,hw0,aD]
 rcases h with h | ⟨s',h,hst⟩
 ·refine ⟨q1,hq1,?_⟩
  rw [h]
  simp only [ab,bY,ac,ag,bu,bt,cu,ay,hw,hbst]
 ·obtain ⟨q2,hq2,h1⟩:=mJ n a b c o d f most hb hl (-1) 0 g (.inl (by omega)) q1 hq1 (an a b c o)
  rw [T1 (by omega)] at h1
  refine ⟨q2,hq2,?_⟩
  rw [h,hbst,(nv hst).1]
  simp only [ab,bY,ac,ag,bu,bt,ca,ah,h1,cd,ck,aa,T4]
  split
  ·simp only [cu,ay,hw]
  ·simp only [cu,ay,hw]
theorem r66_3 (g:Int) (hg:1≤g∧g≤99) (S W:Mr) (B:cT) (q:Mr) (hq:ci d (b.getD []) q) (k:Nat→List Yr→aq):∃ q',ci d (b.getD []) q' ∧
  t7 (RP (n+106)) k [il f,il d,bl most,.m q,an a b c o,il d,.m S,.m (mq B),.m W,il g,an a b c o,il d,an a b c o]
   = k 0 [il f,il d,bl most,.m q',an a b c o,il d,.m S,.m (mq (dx B g (bB (b.getD []) d f most g))),.m W,il (g+1),an a b c o,il d,an a b c o]:=by
 obtain ⟨q1,hq1,h⟩:=l66_2 n a b c o d f most hb hl g (by omega) S (mq B) W (an a b c o) (il 0) (il 0) (0,0,-1) q hq
 have hp:∀ k:List D→aq,(RP (n+106)).ptrW 4 (an a b c o) k=k [d9 a,d9 b,d9 c,d5 o]:=fun k=>bP _ 4 k rfl
 have hi:∀ k:aq,(RP (n+106)).isPtr (an a b c o) k=k:=fun k=>cW _ _ k
 have hw0:IntKind.i64.wrap (((b.getD []).length:Int) - 1)=((b.getD []).length:Int) - 1:=aE (by omega) (by omega)
 have hw:IntKind.i64.wrap (g+1)=g+1:=aE (by omega) (by omega)
 simp only [t3,Tr,V5] at h
 have hbst:bB (b.getD []) d f most g=(B6 (mz (aj d (b.getD [])) f most g) (0,0,-1) (bF d g (jc (b.getD [])))).1:=rfl
 simp only [t7,ac,ag,bu,bt,ae,gM,aa,T4]
 rw [T1 hg.2]
 simp only [hi,hp,ak,ar,cS,br,hw0,aD]
 rcases h with h | ⟨s',h,hst⟩
 ·refine ⟨q1,hq1,?_⟩
  rw [h]
  simp only [ab,bY,ac,ag,bu,bt,cu,ay,hw,hbst]
 ·obtain ⟨q2,hq2,h1⟩:=mJ n a b c o d f most hb hl (-1) 0 g (.inl (by omega)) q1 hq1 (an a b c o)
  rw [T1 (by omega)] at h1
  refine ⟨q2,hq2,?_⟩
  rw [h,hbst,(nv hst).1]
  simp only [ab,bY,ac,ag,bu,bt,ca,ah,h1,cd,ck,aa,T4]
  split
  ·simp only [cu,ay,hw]
  ·simp only [cu,ay,hw]
theorem l66_1 (S W:Mr):∃ (B:cT) (q:Mr),ci d (b.getD []) q∧(∀ g,1≤g→g≤99→bM B g=some (bB (b.getD []) d f most g)) ∧
  ax [t8 (RP (n+106)),t7 (RP (n+106))] M0 0 [il f,il d,bl most,.m ([],[]),an a b c o,il d,.m S,.m ([],[]),.m W,il 1,an a b c o,il d,an a b c o]
   = some (0,[.d (il f),.d (il d),.d (bl most),.m q,.d (an a b c o),.d (il d),.m S,.m (mq B),.m W,.d (an a b c o),.d (il d),.d (an a b c o)]):=by
 refine eZ (σ:=Nat×Bool×cT×Mr) [t8 (RP (n+106)),t7 (RP (n+106))] (fun s=>MS a b c o d f most s S W) (fun s=>s.1) (fun s=>s.1≤99∧ci d (b.getD []) s.2.2.2∧∀ g:Int,1≤g→g < ((100 - s.1:Nat):Int)→bM s.2.2.1 g=some (bB (b.getD []) d f most g))
  (fun r=>∃ (B:cT) (q:Mr),ci d (b.getD []) q∧(∀ g,1≤g→g≤99→bM B g=some (bB (b.getD []) d f most g))∧r=some (0,[.d (il f),.d (il d),.d (bl most),.m q,.d (an a b c o),.d (il d),.m S,.m (mq B),.m W,.d (an a b c o),.d (il d),.d (an a b c o)])) ?_ M0 (99,false,[],([],[])) ⟨Tf _,kq _ _,fun g h1 h2=>by simp only at h2;omega⟩ (by unfold M0;simp only;omega)
 rintro ⟨m,fl,B,q⟩ k ⟨g1,g2,g3⟩ ih
 simp only at g1 g2 g3
 cases m with
 | zero =>
  cases fl with
  | false=>exact ⟨_,rfl,B,q,g2,fun g h1 h2=>g3 g h1 (by omega),by simp [MS,t8]⟩
  | true=>exact ⟨_,rfl,B,q,g2,fun g h1 h2=>g3 g h1 (by omega),by simp [MS,t7]⟩
 | succ m =>
  have hg:(1:Int)≤((100 - (m+1):Nat):Int)∧((100 - (m+1):Nat):Int)≤99:=by omega
  have he:((100 - m:Nat):Int)=((100 - (m+1):Nat):Int)+1:=by omega
  have hget:∀ g:Int,1≤g→g < ((100 - m:Nat):Int)→bM (dx B ((100 - (m+1):Nat):Int) (bB (b.getD []) d f most ((100 - (m+1):Nat):Int))) g=some (bB (b.getD []) d f most g):=by
   intro g h1 h2
   rw [cJ]
   split
   ·rename_i h;rw [h]
   ·exact g3 g h1 (by omega)
  cases fl with
  | false =>
   obtain ⟨q',hq',h⟩:=r66_1 n a b c o d f most hb hl _ hg S W B q g2 k
   refine ⟨_,rfl,?_⟩
   have:=ih (m,true,dx B ((100 - (m+1):Nat):Int) (bB (b.getD []) d f most ((100 - (m+1):Nat):Int)),q') ⟨by simp only;omega,hq',hget⟩ (by simp only;omega)
   simp only [MS,he,T6] at this
   simp only [MS,T0,T9]
   rw [h]
   exact this
  | true =>
   obtain ⟨q',hq',h⟩:=r66_3 n a b c o d f most hb hl _ hg S W B q g2 k
   refine ⟨_,rfl,?_⟩
   have:=ih (m,false,dx B ((100 - (m+1):Nat):Int) (bB (b.getD []) d f most ((100 - (m+1):Nat):Int)),q') ⟨by simp only;omega,hq',hget⟩ (by simp only;omega)
   simp only [MS,he,T0,T9] at this
   simp only [MS,T6]
   rw [h]
   exact this
end
end
section
theorem yL {rate:Option Int→Int} {s s':Int×Int×Int} (h:rP rate s' (-1,none)=s) (r:List Yr):(if s'.2.2 < rate none then some (0,.d (il (-1))::.d (il 0)::r) else some (0,.d (il s'.1)::.d (il s'.2.1)::r):aq)=some (0,.d (il s.1)::.d (il s.2.1)::r):=by
 rw [(nv h).1,(nv h).2]
 split<;>rfl
section
variable (n:Nat) (a b c:Option (List E9)) (o:Option (List E5)) (d f:Int) (most:Bool) (hb:dh (b.getD [])) (hl:(b.getD []).length≤1000000) (hf:my (a.getD [])) (hd:0≤d∧d≤4166) (ha:(a.getD []).length≤1000000) (hc:(c.getD []).length≤1000000) (ho:(o.getD []).length≤1000000)
include hb hl hf hd ha hc ho
theorem r66_6 (O:Option (List Int)) (i:Nat) (p:Int) (hp:(O.getD [])[i]?=some p) (hL:(O.getD []).length≤1000000) (S W:cT) (B q:Mr) (hq:ci d (b.getD []) q) (k:Nat→List Yr→aq):∃ q',ci d (b.getD []) q' ∧
  sZ (RP (n+106)) k [il f,il d,bl most,dI O,il (O.getD []).length,il i,.m q,an a b c o,il d,.m (mq W),.m B,.m (mq S),an a b c o,il d,an a b c o]
   = k 0 [il f,il d,bl most,dI O,il (O.getD []).length,il ((i:Int)+1),.m q',an a b c o,il d,.m (mq (dx W p (bA (a.getD []) (c.getD []) (o.getD []) d most p))),.m B,.m (mq (dx S p (bH (a.getD []) (b.getD []) d f most p))),an a b c o,il d,an a b c o]:=by
 have hi:i < (O.getD []).length:=(Tn.1 hp).1
 have hpp:∀ k:List D→aq,(RP (n+106)).ptrW 4 (an a b c o) k=k [d9 a,d9 b,d9 c,d5 o]:=fun k=>bP _ 4 k rfl
 have hpi:∀ k:aq,(RP (n+106)).isPtr (an a b c o) k=k:=fun k=>cW _ _ k
 have hw0:IntKind.i64.wrap (((a.getD []).length:Int) - 1)=((a.getD []).length:Int) - 1:=aE (by omega) (by omega)
 have hw1:IntKind.i64.wrap (((c.getD []).length:Int) - 1)=((c.getD []).length:Int) - 1:=aE (by omega) (by omega)
 have hw:IntKind.i64.wrap ((i:Int)+1)=(i:Int)+1:=aE (by omega) (by omega)
 have hrow:∀ k:List D→aq,(RP (n+106)).rowD 1 (dI O) (il i) k=k [il p]:=fun k=>cQ (o:=O) (i:=i) hp k
 obtain ⟨q1,hq1,h⟩:=l66_4 n a b c o d f most hb hl hf ha p (il 0) (il 0) (0,0,-1) q hq
 obtain ⟨_,_,h'⟩:=l66_5 (n+99) a b c o d p most hd ha hc ho (il 0) (il 0) (0,0,-1)
 obtain ⟨q2,hq2,h1⟩:=vo n a b c o d f most hb hl (-1) 0 (.inl rfl) q1 hq1
 have h2:=s147 (n+99) a b c o (-1) 0 d most hd ha hc ho
 rw [T1 (by omega)] at h2
 have h2':FN (n+106) 147 [d9 a,d9 b,d9 c,d5 o,il (-1),il 0,il d,bl most]=_:=h2
 have h0:Fs (aj d (b.getD [])) f most 0=rH (aj d (b.getD [])) f most none:=rfl
 rw [h0] at h1
 simp only [t3,Tr,V5] at h h'
 have hH:bH (a.getD []) (b.getD []) d f most p=(B6 (rH (aj d (b.getD [])) f most) (0,0,-1) (bF d p (jc (a.getD [])))).1:=rfl
 have hA:bA (a.getD []) (c.getD []) (o.getD []) d most p=(B6 (vK (bm (a.getD []) (c.getD []) (o.getD []) d) most) (0,0,-1) (bF d p (jc (c.getD [])))).1:=rfl
 simp only [sZ,ac,ag,bu,bt,ae,aC,aa,T4]
 rw [T1 (by omega)]
 simp only [hrow,hpi,hpp,ak,ar,cS,ao,ab,ac,ag,br,hw0,aD]
 rcases h with h | ⟨s',h,hst⟩
 ·refine ⟨q1,hq1,?_⟩
  rw [h]
  simp only [ab,bY,ac,ag,bu,bt,cu,hpi,hpp,ak,ar,cS,ao,br,hw1,aD,hH,hA]
  rcases h' with h' | ⟨s'',h',hst'⟩
  ·rw [h']
   simp only [ab,bY,ac,ag,bu,bt,cu,ao,ay,hw]
  ·rw [h']
   simp only [ab,bY,ac,ag,bu,bt,hpp,ak,ar,ah,h2',ck,aa,T4,ao,yL hst',cu,ay,hw]
 ·refine ⟨q2,hq2,?_⟩
  rw [h]
  simp only [ab,bY,ac,ag,bu,bt,ca,ah,h1,cd,ck,aa,T4,ao,yL hst,cu,hpi,hpp,ak,ar,cS,br,hw1,aD,hH,hA]
  rcases h' with h' | ⟨s'',h',hst'⟩
  ·rw [h']
   simp only [ab,bY,ac,ag,bu,bt,cu,ao,ay,hw]
  ·rw [h']
   simp only [ab,bY,ac,ag,bu,bt,hpp,ak,ar,ah,h2',ck,aa,T4,ao,yL hst',cu,ay,hw]
def en6 (O:Option (List Int)) (B:Mr) (s:Nat×cT×cT×Mr):List Yr:=[.d (il f),.d (il d),.d (bl most),.d (dI O),.d (il (O.getD []).length),.d (il s.1),.m s.2.2.2,.d (an a b c o),.d (il d),.m (mq s.2.2.1),.m B,.m (mq s.2.1),.d (an a b c o),.d (il d),.d (an a b c o)]
theorem l66_6 (O:Option (List Int)) (hL:(O.getD []).length≤1000000) (B q:Mr) (hq:ci d (b.getD []) q):∃ S W:cT,(∀ p∈O.getD [],bM S p=some (bH (a.getD []) (b.getD []) d f most p)∧bM W p=some (bA (a.getD []) (c.getD []) (o.getD []) d most p)) ∧
  ax [sZ (RP (n+106))] M0 0 [il f,il d,bl most,dI O,il (O.getD []).length,il 0,.m q,an a b c o,il d,.m ([],[]),.m B,.m ([],[]),an a b c o,il d,an a b c o]
   = some (0,[.d (il d),.m (mq W),.m B,.m (mq S),.d (an a b c o)]):=by
 refine eZ (σ:=Nat×cT×cT×Mr) [sZ (RP (n+106))] (fun s=>(0,en6 a b c o d f most O B s)) (fun s=>(O.getD []).length - s.1)
  (fun s=>s.1≤(O.getD []).length∧ci d (b.getD []) s.2.2.2∧∀ p∈(O.getD []).take s.1,bM s.2.1 p=some (bH (a.getD []) (b.getD []) d f most p)∧bM s.2.2.1 p=some (bA (a.getD []) (c.getD []) (o.getD []) d most p))
  (fun r=>∃ S W:cT,(∀ p∈O.getD [],bM S p=some (bH (a.getD []) (b.getD []) d f most p)∧bM W p=some (bA (a.getD []) (c.getD []) (o.getD []) d most p))∧r=some (0,[.d (il d),.m (mq W),.m B,.m (mq S),.d (an a b c o)])) ?_ M0 (0,[],[],q) ⟨Y5 _,hq,fun p h=>by simp at h⟩ (by unfold M0;simp only;omega)
 rintro ⟨i,S,W,q⟩ k ⟨g1,g2,g3⟩ ih
 simp only at g1 g2 g3
 refine ⟨_,rfl,?_⟩
 by_cases hi:i < (O.getD []).length
 ·obtain ⟨p,hp⟩:∃ p,(O.getD [])[i]?=some p:=⟨_,Tc hi⟩
  obtain ⟨q',hq',h⟩:=r66_6 n a b c o d f most hb hl hf hd ha hc ho O i p hp hL S W B q g2 k
  simp only [en6]
  rw [h]
  refine ih (i+1,dx S p (bH (a.getD []) (b.getD []) d f most p),dx W p (bA (a.getD []) (c.getD []) (o.getD []) d most p),q') ⟨by simp only;omega,hq',fun z hz=>?_⟩ (by simp only;omega)
  rw [Wn,hp,Option.toList_some] at hz
  simp only [cJ]
  by_cases hzp:z=p
  ·subst hzp;simp
  ·rw [T5 hzp,T5 hzp]
   refine g3 z ?_
   rcases V6.1 hz with hz | hz
   ·exact hz
   ·exact absurd (Tw.1 hz) hzp
 ·have:i=(O.getD []).length:=by omega
  subst this
  refine ⟨S,W,fun p hp=>g3 p (by rw [Vf];exact hp),?_⟩
  simp [en6,sZ]
end
end
section
def j5 (a c:List E9):List Int:=aW (cy a) (c.map (·.a))
theorem kr (a c:List E9) (p:Int):p∈j5 a c↔(∃ e∈a,e.a=p)∨∃ e∈c,e.a=p:=by
 unfold j5
 rw [ch,sx,V8]
theorem E7 (a c:List E9):(j5 a c).length≤a.length+c.length:=by
 have h1:=lZ (c.map (·.a)) (cy a)
 have h2:=eb a
 rw [Tj] at h1
 unfold j5;omega
theorem u9 {l:List E9} {i:Nat} {x:Int} (h:(l.map (·.a))[i]?=some x):∃ e,l[i]?=some e∧e.a=x:=by
 rw [Tm,Ta] at h
 exact h
theorem s142 (n:Nat) (a b c:Option (List E9)) (o:D) (hl:(a.getD []).length≤1000000) (hc:(c.getD []).length≤1000000):FN (n+6) 142 [d9 a,d9 b,d9 c,o]=some (0,[.d (dI (bx (j5 (a.getD []) (c.getD []))))]):=by
 rw [FS,Io]
 have h111:=Gc n a (d9 b) (d9 c) o hl
 have hL:((c.getD []).map (·.a)).length=(c.getD []).length:=by simp
 simp only [G142,ah,h111]
 cases hp:cy (a.getD []) with
 | nil =>
  simp only [bY,ac,ag,cS,ae,aD]
  by_cases hne:c.getD []=[]
  ·have h0:ax [oB (RP (n+5)),oA (RP (n+5))] M0 0 [dI none,d9 c,il (([]:List E9).length:Int),il 0]=some (0,[.d (dI none)]) :=
    e9 (σ:=Unit) [oB (RP (n+5)),oA (RP (n+5))] (fun _=>(0,[.d (dI none),.d (d9 c),.d (il (([]:List E9).length:Int)),.d (il 0)])) (fun _=>0) (fun _=>True) (fun _=>some (0,[.d (dI none)])) (fun s k _ _=>⟨_,rfl,by simp [oB]⟩) M0 () trivial (by unfold M0;omega)
   rw [hne,h0]
   simp only [ab,ac,ao,j5,hp]
   rfl
  ·have:=lh ((c.getD []).map (·.a)) (by simpa using hc) (by simpa using hne) (oB (RP (n+5))) (oA (RP (n+5))) (fun i=>[.d (dI none),.d (d9 c),.d (il (c.getD []).length),.d (il (i:Nat))])
    (fun i acc=>[.n acc.length,.n acc.length,.d (d9 c),.d (il (c.getD []).length),.d (il (i:Nat)),.r (acc.map rI)]) (fun acc=>some (1,[.n acc.length,.n acc.length,.r (acc.map rI)])) ?_ ?_ ?_
   ·rw [show il 0=il ((0:Nat):Int) from rfl,this]
    have he:j5 (a.getD []) (c.getD [])=aW [] ((c.getD []).map (·.a)):=by unfold j5;rw [hp]
    have hq:aW [] ((c.getD []).map (·.a))≠[]:=fx [] (by simpa using hne)
    rw [he,qe hq]
    simp only [bY,b8,aZ,aN,b9,aI,Tj,aR,T6,aU,tA,bL,ao]
    rfl
   ·intro acc k
    rw [hL]
    simp [oA]
   ·intro x k hi hlt
    rw [hL] at hlt
    obtain ⟨e,he,rfl⟩:=u9 hi
    have h9:=ct (Fn:=FN (n+5)) (FnD:=c6 Tryz.prog (di tb Tryz.prog) (FN (n+5))) (m:=M0) he
    simp only [oB,ac,ag,aC,aa,V9,hlt,T8,T6]
    rw [show ((il 0):D)=il ((0:Nat):Int) from rfl,h9]
    have hnil:FN (n+5) 158 [dI none,il e.a]=_:=tS e.a (n+2)
    have hn:∀ k:aq,(RP (n+5)).nilD (dI none) k=k:=fun _=>rfl
    simp only [r9,ak,ar,ah,hnil,ab,ac,ag,aa,T0,T9,hn]
    rw [Cc]
    simp only [ae,ay,bj,aM,aI,aU,Tb,Td,Tg,Tq,V9]
    rw [show IntKind.i64.wrap (0+1)=((1:Nat):Int) from rfl]
   ·intro i x acc k hi hlt hw hu hal
    rw [hL] at hlt
    obtain ⟨e,he,rfl⟩:=u9 hi
    have hput:=cG (n+1) acc e.a (by omega) hu
    simp only [oA,ac,ag,b8,aZ,aN,b9,aC,aa,hlt,T8,T6,ct he,r9,ak,ar,aI,aR,Tj,bL,ah]
    simp only [hput,ab,ac,bR,ae,ay,hw,Tj]
 | cons y r =>
  simp only [ab,aN,aI,cS,ae,aD,Tj]
  have:=jz ((c.getD []).map (·.a)) (by simpa using hc) (uD (RP (n+5))) (fun i acc=>[.n acc.length,.n acc.length,.d (d9 c),.d (il (c.getD []).length),.d (il (i:Nat)),.r (acc.map rI)]) (fun acc=>some (0,[.n acc.length,.n acc.length,.r (acc.map rI)])) 1000000 ?_ ?_ (y::r) (by rw [←hp];exact Dc _) (by rw [←hp];exact Vn (eb _) hl)
  ·rw [show il 0=il ((0:Nat):Int) from rfl,this]
   have he:j5 (a.getD []) (c.getD [])=aW (y::r) ((c.getD []).map (·.a)):=by unfold j5;rw [hp]
   have hq:j5 (a.getD []) (c.getD [])≠[]:=fun h=>by
    have:=(kr (a.getD []) (c.getD []) y).2 (.inl ((sx _ _).1 (by rw [hp];simp)))
    rw [h] at this;cases this
   rw [qe hq,he]
   simp only [ab,b8,aZ,aN,b9,aI,Tj,aR,T6,aU,tA,bL,ao]
   rfl
  ·intro acc k
   rw [hL]
   simp [uD]
  ·intro i x acc k hi hlt hw hu hal
   rw [hL] at hlt
   obtain ⟨e,he,rfl⟩:=u9 hi
   have hput:=cG (n+1) acc e.a (by omega) hu
   simp only [uD,ac,ag,b8,aZ,aN,b9,aC,aa,hlt,T8,T6,ct he,r9,ak,ar,aI,aR,Tj,bL,ah]
   simp only [hput,ab,ac,bR,ae,ay,hw,Tj]
end
end Go.VE
