/- BellEnds: the evaluator of the program's functions, its proof, and the law. -/
import Derived.Test.YtaagapoglhndjaaDoorMg9
import Derived.Test.YtaagapoglhndjaaDoorMh
import Derived.Test.YtaagapoglhndjaaDoorCards
import Derived.Test.YtaagapoglhndjaaDoorTie
import Derived.SevenTiedAt
import Derived.ProofKit
import Derived.LaidMore
import Derived.Stop.Joined
namespace Go.VE
open Go.RowKit Go.Proofs
section
set_option maxRecDepth 100000
def bK (ws:List W4) (x:Nat×Nat):P3:=((x.1:Int),(x.2:Int),lV (fk x.1 (bk x.1) (match ws[x.1]? with | some w=>bnd w | none=>[]) x.2))
theorem pw {ws:List W4} {a b:Nat} {w:W4} (h:ws[a]?=some w):bK ws (a,b)=((a:Int),(b:Int),lV (fk a (bk a) (bnd w) b)):=by
 simp only [bK,h]
def wR (a j:Nat):List (Nat×Nat):=((List.range j).filter fun b=>decide (b≠a)).map fun b=>(a,b)
def ju (i:Nat):List (Nat×Nat):=(List.range i).flatMap fun a=>wR a 6
theorem Dz (a j:Nat):wR a (j+1)=wR a j++if j=a then [] else [(a,j)]:=by
 unfold wR
 rw [List.range_succ,V2,M6]
 by_cases h:j=a<;>simp [h]
theorem CK (i:Nat):ju (i+1)=ju i++wR i 6:=by
 unfold ju
 rw [List.range_succ,List.flatMap_append]
 simp
theorem zb:∀ x∈ju 6,x.1 < 6∧x.2 < 6∧x.2≠x.1:=by decide
theorem F7:∀ a,a < 6→∀ b,b < 6→b≠a→(a,b)∈ju 6:=fun a ha b hb hab=>List.mem_flatMap.2 ⟨a,Mg.2 ha,Kw.2 ⟨b,Kj.2 ⟨Mg.2 hb,by simpa using hab⟩,rfl⟩⟩
theorem B0:(ju 6).Nodup:=by decide
theorem F6:∀ k,k < 6→(ju 6).countP (fun x=>decide (x.2=k))≤5:=by decide
theorem GoodX.less {N:Int} {ws:List W4} {ps l:List P3} (h:GoodX N ws (ps++l)):GoodX N ws ps:=by
 refine ⟨⟨h.len,h.wat,h.tal,fun p hp=>h.pl p (Kz _ hp)⟩,fun e g hc=>(h.inv e g hc).said fun b a n v _ _ hs=>.inl ?_⟩
 rcases hs with ⟨p,hp,h⟩ | h
 ·exact .inl ⟨p,Kz _ hp,h⟩
 ·exact .inr h
theorem GoodX.tells {ws:List W4}:∀ (l:List (Nat×Nat)) {N:Int} {ps:List P3},GoodX N ws ps→(∀ x∈l,x.1 < 6∧x.2 < 6∧x.2≠x.1)→GoodX (N+l.length) ws (ps++l.map (bK ws))
 | [],_,_,h,_=>by simpa using h
 | (a,b)::r,N,ps,h,hl=>by
  obtain ⟨h1,h2,h3⟩:=hl (a,b) (by simp)
  have hlt:a < ws.length:=by rw [h.len];exact h1
  have hw:=Jo hlt
  have:=GoodX.tells r (h.tell hw h2 (Ne.symm h3)) (fun x hx=>hl x (by simp [hx]))
  rw [←pw hw] at this
  rw [Jz,show ps++bK ws (a,b)::r.map (bK ws)=(ps++[bK ws (a,b)])++r.map (bK ws) by simp]
  refine this.mono ?_
  simp only [Jx]
  omega
theorem l60_0 (n:Nat) {ws:List W4} {ps:List P3} (hG:GoodW ws ps) {a:Nat} (ha:a < 6) (acc:List P3) (hacc:acc.length≤40) (O:D) :
  bm [sL (RP (n+6))] M0 0 [.n acc.length,.d (il a),.d (il 0),.r (ws.map cg),.r (acc.map rP),.n 6,.n 6,.d O]=some (0,[.n (acc++(wR a 6).map (bK ws)).length,.d (il a),.r (ws.map cg),.r ((acc++(wR a 6).map (bK ws)).map rP),.n 6,.n 6,.d O]):=by
 have hlt:a < ws.length:=by rw [hG.len];exact ha
 have hw:=Jo hlt
 generalize ws[a]=w at hw
 have:=dm (β:=Unit) 6 (by omega) (sL (RP (n+6))) (fun j _=>[.n (acc++(wR a j).map (bK ws)).length,.d (il a),.d (il j),.r (ws.map cg),.r ((acc++(wR a j).map (bK ws)).map rP),.n 6,.n 6,.d O]) (fun _ _=>True)
  (fun _ _=>some (0,[.n (acc++(wR a 6).map (bK ws)).length,.d (il a),.r (ws.map cg),.r ((acc++(wR a 6).map (bK ws)).map rP),.n 6,.n 6,.d O])) ?_ ?_ () trivial
 ·simpa [wR] using this
 ·intro _ k _
  simp [sL]
 ·intro j _ k hj _ hwr ih
  have ih0:=ih () trivial
  rw [Dz] at ih0
  by_cases hja:j=a
  ·subst hja
   simp only [Js,Kh] at ih0
   rw [bn] at ih0
   simp only [sL,ah,aj,aq,av,ao,aw,ak,aU,show (j:Int) < 6 by omega,Jr,ag,Js,bo,b7,hwr]
   exact ih0
  ·rw [Kc hja,M6,Jz,Ky,← Kb,pw hw] at ih0
   have hne:¬ ((a:Int)=(j:Int)):=by omega
   have hrow:(ws.map cg)[a]?=some (cg w):=by rw [K9,hw];rfl
   have hrl:(cg w).length=4:=rfl
   have hin:(0:Int)≤(a:Int)∧(a:Int) < ((6:Nat):Int):=by omega
   have h43:=c43 hG hw n (b:=j) hj hja
   have hfl:(acc++(wR a j).map (bK ws)).length≤50:=by
    have:(wR a j).length≤6:=by
     unfold wR
     rw [Jp]
     exact T6 (Td _ _) (by rw [Tw];omega)
    rw [K0,Jp]
    omega
   generalize acc++(wR a j).map (bK ws)=q at ih0 hfl ⊢
   have hfit:(q.length+1)*40≤140737488355328∧q.length+1≤9223372036854775807:=by omega
   rw [K0,M6] at ih0
   simp only [Jx,Jy,Jz,Ky,rP,Jv] at ih0
   rw [bn] at ih0
   simp only [sL,ah,aj,aq,av,ao,aw,ak,aU,show (j:Int) < 6 by omega,Jr,ag,Js,bo,hne,Jt,Jl,Ju,aO,Jp,hG.len,b6,bS,hin,Kt,K4,cU,hrow,hrl,lX,lW,mR,mQ,aC,h43,ae,bP,T3,Mk,aD,aR,Jx,Jy,Jv,be,List.take,aN,bp,hfit,bh,b7,hwr]
   exact ih0
theorem l60_1 (n:Nat) {ws:List W4} {ps:List P3} (hG:GoodW ws ps) (O:D) :
  bm [wi (RP (n+6))] M0 0 [.n 0,.d (il 0),.r (ws.map cg),.r [],.n 6,.n 6,.d O]=some (0,[.n ((ju 6).map (bK ws)).length,.r (ws.map cg),.r (((ju 6).map (bK ws)).map rP),.n 6,.n 6,.d O]):=by
 have:=dm (β:=Unit) 6 (by omega) (wi (RP (n+6))) (fun i _=>[.n ((ju i).map (bK ws)).length,.d (il i),.r (ws.map cg),.r (((ju i).map (bK ws)).map rP),.n 6,.n 6,.d O]) (fun _ _=>True)
  (fun _ _=>some (0,[.n ((ju 6).map (bK ws)).length,.r (ws.map cg),.r (((ju 6).map (bK ws)).map rP),.n 6,.n 6,.d O])) ?_ ?_ () trivial
 ·exact this
 ·intro _ k _
  simp [wi]
 ·intro i _ k hi _ hwr ih
  have ih0:=ih () trivial
  rw [bn,CK,M6] at ih0
  have hpl:((ju i).map (bK ws)).length≤40:=by
   rw [Jp]
   have:∀ i,i < 6→(ju i).length≤40:=by decide
   exact this i hi
  have hl:=l60_0 n hG hi ((ju i).map (bK ws)) hpl O
  simp only [wi,ah,aj,aq,av,ao,aw,ak,aU,show (i:Int) < 6 by omega,Jr,ag,Js,br]
  rw [hl]
  simp only [ae,ah,aj,aq,av,ao,aw,b7,hwr]
  exact ih0
theorem eHear {ws:List W4} {ps:List P3} (hG:GoodW ws ps) {b:Nat} {w:W4} (hw:ws[b]?=some w) {vs:List W4} {a:Nat} {v:W4} (hv:vs[a]?=some v) (hb:bnd v=aG v) (hab:b≠a) (ha:a < 6) {e:aJ} (he:e∈bk b) (ho:(rf b e (aG w)).opn=false) :
  let f:=rf b e (aG w);let f':=rf b e (aG (wL w (hearX b a (bk b) (aG w) ((bK vs (a,b)).2.2.getD []))));let n:=(ff vs e a).no b;let x:=(ff vs e a).wants
  (e∈bk a→f'={ f with ask:=if f.ask a < x then bv f.ask a x else f.ask,no:=if f.no a < n∧aK b a n=true then bv f.no a n else f.no,af:=if f.no a < n∧aK b a n=true then bv f.af a true else f.af })∧(e∉bk a→f'=f):=by
 intro f f' n x
 have a3:=(hG.wat b w hw).2.2
 have hfb:rf b e (aG w)=(ay b e fd0 (aG w)).1:=rfl
 have htell:(bK vs (a,b)).2.2.getD []=fk a (bk a) (aG v) b:=by rw [pw hv,hb];exact dC _
 have hf':f'=(ay b e f (hearX b a (bk b) (aG w) ((bK vs (a,b)).2.2.getD []))).1:=vH hG hw he _
 rw [htell] at hf'
 have hlt:∀ t∈fk a (bk a) (aG v) b,∃ e'∈bk a,t.1=e'.1:=fun t ht=>by
  obtain ⟨e',he',ht⟩:=List.mem_filterMap.1 ht
  unfold jt at ht
  split at ht
  ·simp only [Jm] at ht
   exact ⟨e',he',by rw [←ht]⟩
  ·cases ht
 refine ⟨fun hea=>?_,fun hea=>?_⟩
 ·have hP:cE e.2 (a:Int)=true:=jk ha (qE hea)
  have hPb:cE e.2 (b:Int)=true:=jk (oB he) (qE he)
  have hmem:((e.1,n,x):j8)∈fk a (bk a) (aG v) b:=by
   refine List.mem_filterMap.2 ⟨e,hea,?_⟩
   unfold jt
   rw [K1 hPb,K4]
   show some (e.1,(rf a e (aG v)).no b,(rf a e (aG v)).wants)=some (e.1,(ff vs e a).no b,(ff vs e a).wants)
   rw [i6 hv]
  have hpw:(fk a (bk a) (aG v) b).Pairwise fun s t:j8=>s.1≠t.1:=by
   have hr:=mf (bw (mS a ha))
   refine List.Pairwise.filterMap _ (R:=fun a b:aJ=>a.1≠b.1) (fun c d hcd s hs t ht=>?_) hr
   unfold jt at hs ht
   split at hs
   ·split at ht
    ·simp only [Jm] at hs ht
     rw [←hs,← ht]
     exact hcd
    ·cases ht
   ·cases hs
  rw [hf']
  unfold hearX
  rw [fb (key:=fun t:j8=>t.1) (fun x s hs=>(eZ s hs).1) hpw hmem rfl]
  obtain ⟨_,j,hx,hj⟩:=fF a3 he
  unfold mH
  simp only [hx,hj,hP,Js,i3]
  show (ay b e f (iu b a (e.1,n,x) f)).1=_
  rw [Bo rfl (by omega) hP]
  have ho':f.opn=false:=ho
  simp only [K4,ho',Ve]
 ·rw [hf']
  unfold hearX
  rw [fa]
  intro s hs
  obtain ⟨t,ht,hs⟩:=List.mem_flatMap.1 hs
  rw [(eZ s hs).1]
  obtain ⟨e',he',hte⟩:=hlt t ht
  intro h
  have:=(DV he he' (by rw [←hte,h])).1
  exact hea (this ▸ he')
end
section
set_option maxRecDepth 100000
theorem rP_0 {n:Nat} (x:P3):(RP n).cell (rP x) 0=il x.1:=rfl
theorem rP_1 {n:Nat} (x:P3):(RP n).cell (rP x) 1=il x.2.1:=rfl
theorem rP_2 {n:Nat} (x:P3):(RP n).cell (rP x) 2=dT x.2.2:=rfl
def Hset (ws:List W4) (e:aJ) (k:Nat) (L:List (Nat×Nat)) (f:Fld):Prop:=f.wants=(ff ws e k).wants∧f.opn=false∧∀ o,e∈bk o→o≠k→((o,k)∈L→Hrd k o (ff ws e k) f ((ff ws e o).no k) (ff ws e o).wants)∧((o,k)∉L→f.no o=(ff ws e k).no o∧f.ask o=(ff ws e k).ask o∧aT k o f=aT k o (ff ws e k))
theorem Hset.step {ws:List W4} {e:aJ} {k:Nat} {L:List (Nat×Nat)} {f f':Fld} (h:Hset ws e k L f) {a:Nat} (hka:k≠a) (hL:(a,k)∉L)
  (h1:e∈bk a→f'={ f with ask:=if f.ask a < (ff ws e a).wants then bv f.ask a (ff ws e a).wants else f.ask,no:=if f.no a < (ff ws e a).no k∧aK k a ((ff ws e a).no k)=true then bv f.no a ((ff ws e a).no k) else f.no,af:=if f.no a < (ff ws e a).no k∧aK k a ((ff ws e a).no k)=true then bv f.af a true else f.af }) (h2:e∉bk a→f'=f):Hset ws e k (L++[(a,k)]) f':=by
 obtain ⟨w1,w2,w3⟩:=h
 by_cases hea:e∈bk a
 ·have hf:=h1 hea
  subst hf
  refine ⟨w1,w2,fun o heo hok=>?_⟩
  by_cases hoa:o=a
  ·subst hoa
   refine ⟨fun _=>?_,fun hn=>absurd (by simp) hn⟩
   obtain ⟨c1,c2,c3⟩:=(w3 o heo hok).2 hL
   generalize (ff ws e o).no k=n
   generalize (ff ws e o).wants=x
   unfold Hrd
   rw [←c1,← c2,← c3,← w1]
   refine ⟨?_,fun hc=>?_,fun hc=>?_⟩
   ·simp only
    split
    ·simp only [bv,Js];omega
    ·omega
   ·simp only [hc.1,hc.2,Kt,bv,Js,aT,K4,Ki,To]
   ·simp only [Kc hc,aT,Kt]
  ·have hne:((o,k):Nat×Nat)≠(a,k):=fun h=>hoa (Prod.mk.inj h).1
   have hao:¬ a=o:=fun h=>hoa h.symm
   have:=w3 o heo hok
   simp only [Kf,Kl,hne,T1]
   generalize (ff ws e a).no k=n
   generalize (ff ws e a).wants=x
   have u1:(if f.ask a < x then bv f.ask a x else f.ask) o=f.ask o:=by split<;>simp [bv,hao]
   have u2:(if f.no a < n∧aK k a n=true then bv f.no a n else f.no) o=f.no o:=by split<;>simp [bv,hao]
   have u3:(if f.no a < n∧aK k a n=true then bv f.af a true else f.af) o=f.af o:=by split<;>simp [bv,hao]
   unfold Hrd at this ⊢
   simp only [aT,K4,u1,u2,u3] at this ⊢
   exact this
 ·rw [h2 hea]
  refine ⟨w1,w2,fun o heo hok=>?_⟩
  have hne:((o,k):Nat×Nat)≠(a,k):=fun h=>hea ((Prod.mk.inj h).1 ▸ heo)
  simp only [Kf,Kl,hne,T1]
  exact w3 o heo hok
theorem Hset.skip {ws:List W4} {e:aJ} {k:Nat} {L:List (Nat×Nat)} {f:Fld} (h:Hset ws e k L f) {x:Nat×Nat} (hx:x.2≠k):Hset ws e k (L++[x]) f:=by
 obtain ⟨w1,w2,w3⟩:=h
 refine ⟨w1,w2,fun o heo hok=>?_⟩
 have hne:(o,k)≠x:=fun h=>hx (by rw [←h])
 simp only [Kf,Kl,hne,T1]
 exact w3 o heo hok
theorem l60_2 (n:Nat) {N:Int} {ws:List W4} {ps:List P3} (hX:GoodX N ws ps) (O:D) (hopn:∀ k e,e∈bk k→(ff ws e k).opn=false) (hlen:∀ (k:Nat) w,ws[k]?=some w→(aG w).length≤80∧bnd w=aG w) :
  ∃ g,bm [wh (RP (n+6))] M0 0 [.n ((ju 6).map (bK ws)).length,.d (il 0),.r (ws.map cg),.r (((ju 6).map (bK ws)).map rP),.n 6,.n 6,.d O]=some (1,[.r (g.map cg),.n 6,.n 6,.d O])∧GoodX (N+100) g ps∧∀ e,PhD e (ff ws e) (ff g e)∧∀ k,e∈bk k→(ff g e k).opn=false:=by
 have h30:(ju 6).length=30:=by decide
 have hX0:=hX.tells (ju 6) zb
 generalize hT:(ju 6).map (bK ws)=T at hX0
 have hTl:T.length=30:=by rw [←hT,Jp,h30]
 have hinv:=iW (β:=List W4) 30 (by omega) (wh (RP (n+6))) (fun i g=>[.n T.length,.d (il i),.r (g.map cg),.r (T.map rP),.n 6,.n 6,.d O])
  (fun i g=>GoodX (N+30+i) g (ps++T)∧∀ (k:Nat) w,g[k]?=some w→(aG w).length+8*((ju 6).drop i).countP (fun x=>decide (x.2=k))≤120∧∀ e∈bk k,Hset ws e k ((ju 6).take i) (rf k e (aG w)))
  (fun g=>some (1,[.r (g.map cg),.n 6,.n 6,.d O])) ?_ ?_ ws ⟨by rw [h30] at hX0;simpa using hX0,fun k w hw=>⟨?_,fun e he=>?_⟩⟩
 ·obtain ⟨g,⟨h1,h2⟩,hloop⟩:=hinv
  refine ⟨g,hloop,h1.less.mono (by omega),fun e=>⟨fun k hk=>?_,fun k hk=>?_⟩⟩
  ·have h6:=oB hk
   have hg:=Jo (show k < g.length by rw [h1.len];exact h6)
   obtain ⟨w1,_,w3⟩:=(h2 k _ hg).2 e hk
   rw [i6 (ws:=g) hg]
   refine ⟨w1,fun o ho hok=>(w3 o ho hok).1 ?_⟩
   rw [←h30,Mb]
   exact F7 o (oB ho) k h6 (Ne.symm hok)
  ·have hg:=Jo (show k < g.length by rw [h1.len];exact oB hk)
   rw [i6 (ws:=g) hg]
   exact ((h2 k _ hg).2 e hk).2.1
 ·rintro g j _
  simp only [wh,ah,aj,aq,av,ao,aw,ci,hTl,aU,show ¬ (((30:Nat):Int) < ((30:Nat):Int)) by omega,Jt,ag,Jl,Ju,aL]
 ·rintro i g hi ⟨h1,h2⟩ hwr
  have hil:i < (ju 6).length:=by omega
  have hxi:(ju 6)[i]?=some (ju 6)[i]:=Jo hil
  have hxm:(ju 6)[i]∈ju 6:=List.getElem_mem hil
  have htk:(ju 6).take (i+1)=(ju 6).take i++[(ju 6)[i]]:=by rw [List.take_add_one,hxi];rfl
  have hdr:(ju 6).drop i=(ju 6)[i]::(ju 6).drop (i+1):=T2 hil
  have hnot:(ju 6)[i]∉(ju 6).take i:=fun h=>by
   have hnd:=B0
   rw [←Mm i (ju 6),hdr] at hnd
   exact (Tm.1 hnd).2.2 _ h _ Mj rfl
  obtain ⟨ha,hb,hab⟩:=zb _ hxm
  generalize (ju 6)[i]=x at hxi hxm htk hdr hnot ha hb hab
  obtain ⟨a,b⟩:=x
  simp only at ha hb hab
  have hTi:T[i]?=some (bK ws (a,b)):=by rw [←hT,K9,hxi];rfl
  have hal:a < ws.length:=by rw [hX.len];exact ha
  have hv:=Jo hal
  generalize ws[a]=v at hv
  have hbl:b < g.length:=by rw [h1.len];exact hb
  have hw:=Jo hbl
  generalize g[b]=w at hw
  obtain ⟨hlw,hfw⟩:=h2 b w hw
  rw [hdr,List.countP_cons_of_pos (by simp)] at hlw
  have hp:bK ws (a,b)∈ps++T:=M2 _ (K2 hTi)
  have hq1:(bK ws (a,b)).1=(a:Int):=rfl
  have hq2:(bK ws (a,b)).2.1=(b:Int):=rfl
  have hpl:=(h1.pl _ hp).1
  have h4:((bK ws (a,b)).2.2.getD []).length≤4:=by
   simp only [l8,Jn,Jq] at hpl
   exact hpl.2.2.2.1
  have h8:=sm (b:Int) (bK ws (a,b)).1 (bk b) (aG w) ((bK ws (a,b)).2.2.getD [])
  have h27:=c27 h1.toGoodW hw n hp hq2 (by omega)
  have hg:=sj h1 hw hp hq2 (by omega)
  have eh:=fun e he=>eHear h1.toGoodW hw hv (hlen a v hv).2 hab ha (e:=e) he (hfw e he).2.1
  have hl1:=sX w (hearX b (bK ws (a,b)).1 (bk b) (aG w) ((bK ws (a,b)).2.2.getD []))
  rw [hq1] at h8 h27 hg hl1
  generalize wL w (hearX b a (bk b) (aG w) ((bK ws (a,b)).2.2.getD []))=w1 at h27 hg hl1 eh
  refine ⟨g.set b w1,⟨hg.mono (by omega),fun k u hu=>?_⟩,fun j=>?_⟩
  ·rw [htk]
   rcases jm hu with ⟨rfl,rfl,_⟩ | ⟨hne,hu⟩
   ·refine ⟨by omega,fun e he=>?_⟩
    obtain ⟨e1,e2⟩:=eh e he
    exact (hfw e he).step hab hnot e1 e2
   ·obtain ⟨u1,u2⟩:=h2 k u hu
    rw [hdr,List.countP_cons] at u1
    exact ⟨by omega,fun e he=>(u2 e he).skip (Ne.symm hne)⟩
  ·have hset:(g.map cg).set b [il w1.1,dB w1.2.1,dS w1.2.2.1,il w1.2.2.2]=(g.set b w1).map cg:=by rw [Tg];rfl
   have hrow:(g.map cg)[b]?=some (cg w):=by rw [K9,hw];rfl
   have hrl:(cg w).length=4:=rfl
   have hrowT:(T.map rP)[i]?=some (rP (bK ws (a,b))):=by rw [K9,hTi];rfl
   have hrT:(rP (bK ws (a,b))).length=3:=rfl
   have hinT:(0:Int)≤(i:Int)∧(i:Int) < ((30:Nat):Int):=by omega
   have hin:(0:Int)≤(b:Int)∧(b:Int) < ((6:Nat):Int):=by omega
   have hlt:(i:Int) < ((30:Nat):Int):=by omega
   have hb0:¬ ((b:Int) < 0):=by omega
   have hb6:¬ ((b:Int)≥6):=by omega
   rw [hq2] at h27
   simp only [bn i]
   simp only [wh,ah,aj,aq,av,ao,aw,ci,hTl,aU,hlt,Jr,ag,Js,aO,Jp,h1.len,b6,bS,hinT,hin,Kt,K4,cU,hrowT,hrT,rP_0,rP_1,rP_2,hq1,hq2,ak,hb0,rU,hb6,Jt,Jl,Ju,hrow,hrl,lX,lW,mR,mQ,aC,h27,aW,ae,bP,T3,Mk,b7,hwr,nn,hset]
 ·have h0:=(hlen k w hw).1
  have hk:k < 6:=by rw [←hX.len];exact (K5.1 hw).1
  have:=F6 k hk
  rw [Ts]
  omega
 ·rw [List.take_zero,← i6 hw]
  exact ⟨rfl,hopn k e he,fun o _ _=>⟨fun h=>(by cases h),fun _=>⟨rfl,rfl,rfl⟩⟩⟩
theorem s60 (n:Nat) {N:Int} {ws:List W4} {o:Option (List P3)} (hX:GoodX N ws (o.getD [])) (hopn:∀ k e,e∈bk k→(ff ws e k).opn=false) (hlen:∀ (k:Nat) w,ws[k]?=some w→(aG w).length≤80∧bnd w=aG w) :
  ∃ ws',FN (n+7) 60 [dW (some ws),dP o]=some (0,[.d (dW (some ws')),.d (dP o),.d (bl true)])∧GoodX (N+100) ws' (o.getD [])∧∀ e,PhD e (ff ws e) (ff ws' e):=by
 obtain ⟨g,hl,hg,hf⟩:=l60_2 n hX (dP o) hopn hlen
 have h1:=l60_1 n hX.toGoodW (dP o)
 refine ⟨g,?_,hg,fun e=>(hf e).1⟩
 have f6:6*64≤140737488355328∧6≤9223372036854775807:=by omega
 have ht:(g.map cg).take 6=g.map cg:=Kd (by rw [Jp,hg.len];omega)
 rw [FS,IG]
 simp only [G60,dW,iO,M4,aD,aR,aO,Jy,b6,Js,Jp,hX.len,aN,Jv,bp,f6,Kt,bh,Ke,ak,br]
 rw [h1]
 simp only [ae,ah,aj,aq,av,ao,aw]
 rw [hl]
 simp only [bf,ah,aj,aq,ao,aw,Jp,hg.len,Js,be,ht,cS,aZ,aL]
 rfl
end
section
set_option maxRecDepth 100000
structure Rnd (o:Option (List P3)) (r:Nat) (ws:List W4) (l:List wd):Prop where
 good:GoodX (200+400*r) ws (o.getD [])
 sub:l.Sublist allW
 want:∀ k e,e∈bk k→(((k:Int),e.1)∈l↔fe (ff ws e k).wants=true)
 calm:1≤r→∀ e,Gm e (ff ws e)
 kept:2≤r→∀ e,Is e (ff ws e)
 cnt:2≤r→∀ e∈allB,l.countP (fun x=>decide (x.2=e.1))≤8 - r
theorem E3:∀ e∈allB,allW.countP (fun x=>decide (x.2=e.1))≤6:=by decide
theorem Am {e:aJ} {k:Nat} (h:e∈bk k):e∈allB:=(Kj.1 h).1
theorem DN {α:Type} {p q:α→Bool}:∀ {l:List α} {x:α},x∈l→p x=true→q x=false→(l.filter q).countP p < l.countP p
 | [],_,h,_,_=>by cases h
 | a::t,x,h,hp,hq=>by
  have hle:(t.filter q).countP p≤t.countP p:=List.filter_sublist.countP_le
  rcases Ka.1 h with rfl | h
  ·rw [Mo,hq,List.countP_cons,hp]
   simp only [Jl,Ju,Js]
   omega
  ·have ih:=DN (q:=q) h hp hq
   rw [Mo]
   split
   ·rw [List.countP_cons,List.countP_cons];omega
   ·rw [List.countP_cons];omega
theorem CY {x:Int} (h0:0≤x) (h:fe x=true):fe (x+1)=false:=by
 have h1:=(gA h0).1 h
 cases h2:fe (x+1) with
 | false=>rfl
 | true=>have:=(gA (show 0≤x+1 by omega)).1 h2;omega
theorem DF {N:Int} {ws:List W4} {ps:List P3} (hX:GoodX N ws ps) {e:aJ} {k:Nat} (he:e∈bk k):md (ff ws e k):=by
 have hg:=Jo (show k < ws.length by rw [hX.len];exact oB he)
 rw [i6 hg]
 exact nj (hX.wat k _ hg).2.2 he
theorem Cr (n:Nat) {o:Option (List P3)} {r:Nat} {ws:List W4} {oi:Option (List wd)} (h:Rnd o r ws (oi.getD [])) (hr:r < 24):∃ ws1 ws2 ws3 oi',FN (n+7) 58 [dW (some ws),dP o]=some (0,[.d (dW (some ws1)),.d (dP o),.d (bl true)])∧FN (n+7) 59 [dW (some ws1),dP o,dI oi]=some (0,[.d (dW (some ws2)),.d (dP o),.d (dI oi'),.d (bl true)])∧FN (n+7) 60 [dW (some ws2),dP o]=some (0,[.d (dW (some ws3)),.d (dP o),.d (bl true)])∧FN (n+7) 57 [dW (some ws3),dP o]=some (0,[.d (bl true)])∧Rnd o (r+1) ws3 (oi'.getD []):=by
 obtain ⟨hX,hsub,hwant,hcalm,hkept,hcnt⟩:=h
 obtain ⟨ws1,f58,hX1,hA,hl1⟩:=s58 n hX
 have w1:∀ {k e},e∈bk k→(ff ws1 e k).wants=(ff ws e k).wants:=fun {k e} he=>(hA e k he).1.2.2.1
 obtain ⟨ws2,f,f59,hX2,hB,hl2⟩:=s59 n hX1 (by omega) oi hsub (fun k e he=>by rw [w1 he];exact hwant k e he) (fun k e he=>(hA e k he).2) hl1
 obtain ⟨ws3,f60,hX3,hD⟩:=s60 n hX2 (fun k e he=>((hB e).2.2 k he).2) hl2
 refine ⟨ws1,ws2,ws3,_,f58,f59,f60,s57 hX3.toGoodW o n,?_⟩
 rw [dC]
 have hI1:=fun e=>hX1.full e
 have w3:∀ {k e},e∈bk k→(ff ws3 e k).wants=(f e k).wants:=fun {k e} he=>((hD e) k he).1.trans ((hB e).2.2 k he).1
 have hlk:∀ {k e},e∈bk k→ft ws1 ((k:Int),e.1)=!(bQ k e.2 (ff ws1 e k)).isEmpty:=fun he=>nE he
 refine ⟨hX3.mono (by omega),(List.filter_sublist).trans hsub,fun k e he=>?_,fun _ e=>FX (hX2.full e) (hD e),fun h2 e=>?_,fun h2 e he=>?_⟩
 ·rw [Kj,hwant k e he,hlk he,w3 he]
  obtain ⟨b1,b2⟩:=(hB e).1 k he
  by_cases hea:qC k e (ff ws1 e k)
  ·rw [b1 hea,hea.2]
   have:=CY (DF hX1 he).1.1 hea.1
   simp only [yy,this]
   simp
  ·rw [b2 hea,w1 he]
   refine ⟨fun h=>h.1,fun h=>⟨h,?_⟩⟩
   cases hm:bQ k e.2 (ff ws1 e k) with
   | nil=>exact absurd ⟨by rw [w1 he];exact h,hm⟩ hea
   | cons=>rfl
 ·refine Fm (hcalm (by omega) e) (hA e) (hB e).1 (hB e).2.1 (hD e) (fun k hk=>DF hX hk) fun a b ha hb=>?_
  have:=((hX.full e).nb a ha).2 b hb
  omega
 ·by_cases hr1:r=1
  ·subst hr1
   exact T6 (((List.filter_sublist).trans hsub).countP_le) (E3 e he)
  ·have hc:=hcnt (by omega) e he
   by_cases h0:(oi.getD []).countP (fun x=>decide (x.2=e.1))=0
   ·have:=(List.filter_sublist (p:=ft ws1) (l:=oi.getD [])).countP_le (p:=fun x=>decide (x.2=e.1))
    omega
   ·obtain ⟨x,hx,hxe⟩:=List.countP_pos_iff.1 (Nat.pos_of_ne_zero h0)
    obtain ⟨k,e',he',rfl⟩:=qG (hsub.mem hx)
    have hee:e'.1=e.1:=by simpa using hxe
    have:e'=e:=by
     have h3:=Am he'
     simp only [Ka,M5,T1] at h3 he
     rcases h3 with rfl | rfl | rfl | rfl<;>rcases he with rfl | rfl | rfl | rfl<;>first | rfl | (simp at hee)
    subst this
    obtain ⟨k2,hk2,hea⟩:=yh (hI1 e') (hcalm (by omega) e') (hkept (by omega) e') (hA e') ⟨k,he',(hwant k e' he').1 hx⟩
    have hm:((k2:Int),e'.1)∈oi.getD []:=(hwant k2 e' hk2).2 (by rw [←w1 hk2];exact hea.1)
    have:=DN (p:=fun x=>decide (x.2=e'.1)) (q:=ft ws1) hm (by simp) (by rw [hlk hk2,hea.2];rfl)
    omega
theorem Rnd.done {o:Option (List P3)} {r:Nat} {ws:List W4} {l:List wd} (h:Rnd o r ws l) (hr:8≤r):l=[]:=by
 cases hl:l with
 | nil=>rfl
 | cons x t =>
  obtain ⟨k,e,he,rfl⟩:=qG (h.sub.mem (show x∈l by rw [hl];simp))
  have:=h.cnt (by omega) e (Am he)
  rw [hl,List.countP_cons_of_pos (by simp)] at this
  omega
end
section
set_option maxRecDepth 100000
def sW (ws:List W4) (k:Nat):List wd:=((bk k).filter fun e=>fe (ff ws e k).wants).map fun e=>((k:Int),e.1)
def dw (ws:List W4) (i:Nat):List wd:=(List.range i).flatMap (sW ws)
theorem nY (ws:List W4) (i:Nat):dw ws (i+1)=dw ws i++sW ws i:=by
 unfold dw
 rw [List.range_succ,List.flatMap_append]
 simp
theorem wY (ws:List W4):(dw ws 6).Sublist allW:=by
 have:∀ l:List Nat,(l.flatMap (sW ws)).Sublist (l.flatMap fun k=>(bk k).map fun e=>((k:Int),e.1)):=fun l=>by
  induction l with
  | nil=>exact .slnil
  | cons k r ih =>
   rw [List.flatMap_cons,List.flatMap_cons]
   exact List.Sublist.append (List.filter_sublist.map _) ih
 exact this _
theorem wZ {ws:List W4} {k:Nat} {e:aJ} (he:e∈bk k):((k:Int),e.1)∈dw ws 6↔fe (ff ws e k).wants=true:=by
 refine ⟨fun h=>?_,fun h=>List.mem_flatMap.2 ⟨k,Mg.2 (oB he),Kw.2 ⟨e,Kj.2 ⟨he,h⟩,rfl⟩⟩⟩
 obtain ⟨k',_,h⟩:=List.mem_flatMap.1 h
 obtain ⟨e',he',hx⟩:=Kw.1 h
 obtain ⟨h1,h2⟩:=Kj.1 he'
 have hk:k'=k:=by have:=(Prod.mk.inj hx).1;omega
 subst hk
 have:=lR (oB he) h1 he (Prod.mk.inj hx).2
 subst this
 exact h2
section
variable {Fn:Nat→List D→az} {FnD:D→List Sh→List D→az}
theorem l8_1 {ws:List W4} {ps:List P3} (hG:GoodW ws ps) (h37:∀ {k:Nat} {w:W4} {e:aJ},ws[k]?=some w→e∈bk k→Fn 37 [il w.1,dB w.2.1,dS w.2.2.1,il w.2.2.2,il e.1]=some (0,[.d (bl (fe (rf k e (aG w)).wants)),.d (il 0)])) {k:Nat} (hk:k < 6) (acc:List wd) (hacc:acc.length≤50) (O:D) :
  bm [BT (aa Fn FnD M0)] M0 0 [.n acc.length,.d (il k),.d (il 0),.r (acc.map uU),.d (dW (some ws)),.d O]=some (1,[.n (acc++sW ws k).length,.d (il k),.r ((acc++sW ws k).map uU),.d (dW (some ws)),.d O]):=by
 have hlt:k < ws.length:=by rw [hG.len];exact hk
 have hw:=Jo hlt
 generalize ws[k]=w at hw
 have hb:=(hG.wat k w hw).2.1
 have h4:=iC (mS k hk)
 have hw':((some ws).getD [])[k]?=some w:=hw
 have:=dm (β:=Unit) (bk k).length (by omega) (BT (aa Fn FnD M0)) (fun i _=>[.n (acc++(((bk k).take i).filter fun e=>fe (ff ws e k).wants).map fun e=>((k:Int),e.1)).length,.d (il k),.d (il i),.r ((acc++(((bk k).take i).filter fun e=>fe (ff ws e k).wants).map fun e=>((k:Int),e.1)).map uU),.d (dW (some ws)),.d O]) (fun _ _=>True)
  (fun _ _=>some (1,[.n (acc++sW ws k).length,.d (il k),.r ((acc++sW ws k).map uU),.d (dW (some ws)),.d O])) ?_ ?_ () trivial
 ·simpa using this
 ·intro _ j _
  simp only [BT,ah,aj,aq,av,ao,xt hw',lW,cX,hb,aU,Int.lt_irrefl,Jt,ag,Jl,Ju,aL,Mb]
  rfl
 ·intro i _ j hi _ hwr ih
  have ih0:=ih () trivial
  have he:(bk k)[i]∈bk k:=List.getElem_mem hi
  have hie:(bk k)[i]?=some (bk k)[i]:=Jo hi
  rw [show (bk k).take (i+1)=(bk k).take i++[(bk k)[i]] by rw [List.take_add_one,hie];rfl,V2,Mo,List.filter_nil] at ih0
  generalize (bk k)[i]=e at he hie ih0
  have hrow:(w.2.1.getD [])[i]?=some e:=by rw [hb];exact hie
  have hlt:(i:Int) < ((bk k).length:Int):=by omega
  have hc:=h37 hw he
  rw [←i6 hw] at hc
  have hll:(acc++(((bk k).take i).filter fun e=>fe (ff ws e k).wants).map fun e=>((k:Int),e.1)).length≤60:=by
   have h1:=Td (fun e=>fe (ff ws e k).wants) ((bk k).take i)
   have h2:=List.length_take_le i (bk k)
   rw [K0,Jp]
   omega
  cases ho:fe (ff ws e k).wants with
  | false =>
   rw [ho] at hc ih0
   simp only [Jl,Ju,Kh] at ih0
   rw [bn] at ih0
   simp only [BT,ah,aj,aq,av,ao,xt hw',lX,lW,mR,mQ,cX,hb,aU,hlt,Jr,ag,Js,eK hrow,lj,aC,hc,ae,ak,bP,T3,Mk,Jt,Jl,Ju,b7,hwr]
   exact ih0
  | true =>
   rw [ho] at hc ih0
   rw [K1 rfl,M6,Jz,Ky,← Kb] at ih0
   generalize acc++(((bk k).take i).filter fun e=>fe (ff ws e k).wants).map (fun e=>((k:Int),e.1))=q at ih0 hll ⊢
   have hfit:(q.length+1)*16≤140737488355328∧q.length+1≤9223372036854775807:=by omega
   rw [K0,M6] at ih0
   simp only [Jx,Jy,Jz,Ky,uU,Jv] at ih0
   rw [bn] at ih0
   simp only [BT,ah,aj,aq,av,ao,xt hw',lX,lW,mR,mQ,cX,hb,aU,hlt,Jr,ag,Js,eK hrow,lj,aC,hc,ae,ak,bP,T3,Mk,Jt,Jl,Ju,aD,aR,aO,Jx,Jy,Jp,Jv,b6,be,List.take,aN,bp,hfit,Kt,bh,b7,hwr]
   exact ih0
theorem l8_2 {ws:List W4} {ps:List P3} (hG:GoodW ws ps) (h37:∀ {k:Nat} {w:W4} {e:aJ},ws[k]?=some w→e∈bk k→Fn 37 [il w.1,dB w.2.1,dS w.2.2.1,il w.2.2.2,il e.1]=some (0,[.d (bl (fe (rf k e (aG w)).wants)),.d (il 0)])) (O:D) :
  bm [Eb (aa Fn FnD M0)] M0 0 [.n 0,.d (il 0),.r [],.d (dW (some ws)),.d O]=some (0,[.n (dw ws 6).length,.r ((dw ws 6).map uU),.d (dW (some ws)),.d O]):=by
 have:=dm (β:=Unit) 6 (by omega) (Eb (aa Fn FnD M0)) (fun i _=>[.n (dw ws i).length,.d (il i),.r ((dw ws i).map uU),.d (dW (some ws)),.d O]) (fun _ _=>True)
  (fun _ _=>some (0,[.n (dw ws 6).length,.r ((dw ws 6).map uU),.d (dW (some ws)),.d O])) ?_ ?_ () trivial
 ·exact this
 ·intro _ k _
  simp [Eb]
 ·intro i _ k hi _ hwr ih
  have ih0:=ih () trivial
  rw [bn,nY] at ih0
  have hl:∀ i,(dw ws i).length≤4*i:=fun i=>by
   induction i with
   | zero=>simp [dw]
   | succ i ih =>
    have h1:(sW ws i).length≤4:=by
     unfold sW
     rw [Jp]
     exact T6 (Td _ _) (Td _ _)
    rw [nY,K0]
    omega
  have hl:=hl i
  have hlo:=l8_1 (FnD:=FnD) hG h37 hi (dw ws i) (by omega) O
  simp only [Eb,ah,aj,aq,av,ao,ak,aU,show (i:Int) < 6 by omega,Jr,ag,Js,br]
  rw [hlo]
  simp only [bf,ah,aj,aq,av,ao,b7,hwr]
  exact ih0
theorem l8_3 {o:Option (List P3)} (hrd:∀ {r:Nat} {ws:List W4} {oi:Option (List wd)},Rnd o r ws (oi.getD [])→r < 24→∃ ws1 ws2 ws3 oi',Fn 58 [dW (some ws),dP o]=some (0,[.d (dW (some ws1)),.d (dP o),.d (bl true)])∧Fn 59 [dW (some ws1),dP o,dI oi]=some (0,[.d (dW (some ws2)),.d (dP o),.d (dI oi'),.d (bl true)])∧Fn 60 [dW (some ws2),dP o]=some (0,[.d (dW (some ws3)),.d (dP o),.d (bl true)])∧Fn 57 [dW (some ws3),dP o]=some (0,[.d (bl true)])∧Rnd o (r+1) ws3 (oi'.getD [])) :
  ∀ (d r n:Nat) (ws:List W4) (oi:Option (List wd)),r+d=24→d < n→Rnd o r ws (oi.getD [])→∃ oi',bm [Ea (aa Fn FnD M0)] n 0 [.d (dI oi),.d (il r),.d (dW (some ws)),.d (dP o)]=some (1,[.d (dI oi')])∧oi'.getD []=[]:=by
 intro d
 induction d with
 | zero =>
  intro r n ws oi hr hn h
  obtain ⟨n,rfl⟩:∃ m,n=m+1:=⟨n - 1,by omega⟩
  refine ⟨oi,?_,h.done (by omega)⟩
  have:¬ ((r:Int) < 24):=by omega
  simp only [bm,Kx,Ea,ah,aj,ak,aU,this,Jt,ag,Jl,Ju,aL]
 | succ d ih =>
  intro r n ws oi hr hn h
  obtain ⟨n,rfl⟩:∃ m,n=m+1:=⟨n - 1,by omega⟩
  have hlt:(r:Int) < 24:=by omega
  by_cases hl:oi.getD []=[]
  ·refine ⟨oi,?_,hl⟩
   simp only [bm,Kx,Ea,ah,aj,ak,aU,hlt,Jr,Js,cX,hl,Jy,cN,T4,Int.lt_irrefl,Jt,ag,Jl,Ju,aL]
  ·have hpos:(0:Int) < ((oi.getD []).length:Int):=by have:=Tx.2 hl;omega
   obtain ⟨ws1,ws2,ws3,oi',h58,h59,h60,h57,hn'⟩:=hrd h (by omega)
   obtain ⟨oi'',h1,h2⟩:=ih (r+1) n ws3 oi' (by omega) (by omega) hn'
   refine ⟨oi'',?_,h2⟩
   rw [bn] at h1
   have hwr:IntKind.i64.wrap ((r:Int)+1)=(r:Int)+1:=fD (show r < 24 by omega) (by omega)
   simp only [bm,Kx,Ea,ah,aj,ak,aU,hlt,Jr,Js,cX,cN,hpos,ag,aC,h58,h59,h60,h57,ae,aY,K7,Jl,Ju,b7,hwr]
   exact h1
end
theorem Fj {Fn:Nat→List D→az} {FnD:D→List Sh→List D→az} (h18:Fn 18 []=some (0,[.d (bl true)])) (hF:∀ {f xs y},FN 22 f xs=y→f≠18→Fn f xs=y)
  (l:Option (List A5)):G8 (aa Fn FnD M0) (dL 5 rA l)=some (0,[.d (bl true)]):=by
 have hm:min (l.getD []).length 60≤60:=Nat.min_le_right _ _
 have hm2:min (l.getD []).length 60≤(l.getD []).length:=Nat.min_le_left _ _
 have h55:=hF (s55 13) (by decide)
 have hinv:=iW (β:=List W4×Option (List P3)) (min (l.getD []).length 60) (by omega) (Gd (aa Fn FnD M0)) (fun i g=>[.d (dL 5 rA l),.d (bl true),.d (il i),.d (dW (some g.1)),.d (dP g.2)])
  (fun i g=>GoodX i g.1 (g.2.getD [])∧(g.2.getD []).length≤i) (fun g=>some (0,[.d (bl true),.d (dW (some g.1)),.d (dP g.2)])) ?_ ?_ (Hb,none) ⟨I0,by simp⟩
 ·obtain ⟨⟨ws,o⟩,⟨hG,_⟩,hloop⟩:=hinv
  simp only at hG hloop
  simp only [T4] at hloop
  have hl2:=l8_2 (Fn:=Fn) (FnD:=FnD) hG.toGoodW (fun hw he=>hF (c37 hG.toGoodW hw he 16) (by decide)) (dP o)
  have hr0:Rnd o 0 ws ((lV (dw ws 6)).getD []):=by
   rw [dC]
   exact ⟨hG.mono (by omega),wY ws,fun k e he=>wZ he,fun h=>by omega,fun h=>by omega,fun h=>by omega⟩
  obtain ⟨oi,hl3,hoi⟩:=l8_3 (Fn:=Fn) (FnD:=FnD) (o:=o) (fun h hr=>by
   obtain ⟨ws1,ws2,ws3,oi',h1,h2,h3,h4,h5⟩:=Cr 15 h hr
   exact ⟨ws1,ws2,ws3,oi',hF h1 (by decide),hF h2 (by decide),hF h3 (by decide),hF h4 (by decide),h5⟩) 24 0 M0 ws (lV (dw ws 6)) rfl (by decide) hr0
  simp only [T4] at hl3
  have hsl:(aa Fn FnD M0).slN 2 ((dw ws 6).map uU)=dI (lV (dw ws 6)):=by cases dw ws 6<;>rfl
  simp only [G8,aC,h55,ae,ah,aj,ak,aZ,br,hloop,aY,K7,ag,Jl,Ju,aD,aR,hl2,ao,aq,av,aO,Jp,b6,Js,hsl,hl3,bf,cX,hoi,Jy,T4,bo,Jr,h18,aL]
 ·intro g k _
  simp only [Gd,ah,aj,cX,ak,aU,ag,aL]
  rcases (show (((min (l.getD []).length 60:Nat):Int) < ((l.getD []).length:Int)∧¬ ((min (l.getD []).length 60:Nat):Int) < 60)∨¬ ((min (l.getD []).length 60:Nat):Int) < ((l.getD []).length:Int) by omega) with ⟨a,b⟩ | a
  ·simp only [a,b,Jr,Jt,Js,Jl,Ju]
  ·simp only [a,Jt,Jl,Ju]
 ·rintro i ⟨ws,o⟩ hi ⟨hG,ho⟩ hw
  simp only at hG ho
  have hil:i < (l.getD []).length:=by omega
  have hrow:(l.getD [])[i]?=some (l.getD [])[i]:=Jo hil
  generalize (l.getD [])[i]=a at hrow
  obtain ⟨ws',o',h1,h2,h3⟩:=Im 13 hG (by omega) a.1 a.2.1 a.2.2.1 a.2.2.2.1 a.2.2.2.2
  have h56:=hF h1 (by decide)
  refine ⟨(ws',o'),⟨by exact_mod_cast h2,by simp only;omega⟩,fun k=>?_⟩
  have c0:(aa Fn FnD M0).cell (rA a) 0=il a.1:=rfl
  have c1:(aa Fn FnD M0).cell (rA a) 1=il a.2.1:=rfl
  have c2:(aa Fn FnD M0).cell (rA a) 2=il a.2.2.1:=rfl
  have c3:(aa Fn FnD M0).cell (rA a) 3=il a.2.2.2.1:=rfl
  have c4:(aa Fn FnD M0).cell (rA a) 4=il a.2.2.2.2:=rfl
  have hlt:(i:Int) < ((l.getD []).length:Int):=by omega
  have h60:(i:Int) < 60:=by omega
  simp only [Gd,ah,aj,cX,ak,aU,hlt,h60,Jr,ag,Js,r9 hrow (show (rA a).length=5 from rfl),c0,c1,c2,c3,c4,aC,h56,ae,b7,hw,bn]
theorem vV (vds:List VD) (h:En Tryd.prog 8 [60] vds):SC Tryd.prog 8 vds (.one (.d (bl true))):=by
 obtain ⟨_,_,rfl,h1,h⟩:=E7 h
 cases Ga h
 obtain ⟨_,rfl,k1⟩:=h1.sl_ Tryd.underlying60
 obtain ⟨l,e1,_⟩:=oL (f:=rA) (c:=5) (b:=40) Tryd.underlying60 (by kernel_rfl) (by kernel_rfl) (fun _ h=>o68 h) k1
 cases e1
 refine lawSC (T:=tb) (fuel:=400) (m0:=M0) (xs:=[dL 5 rA l]) xG (Jd 22) (Gk 22) xk (by decide) (sh:=[.one]) rfl rfl rfl ?_
 exact (G8_eq _ _).trans (Fj (Je 22) (fun h hf=>Ee h hf) l)
end
end Go.VE
namespace Go.Proofs.YtaagapoglhndjaaDoor
open Go.VE Go.RowKit Go.ChangeShapes Go.WideShapes
set_option maxRecDepth 100000
theorem own:ownKnob Tryd.prog.godebug=none:=by kernel_rfl
theorem Fk:laidOutB Tryd.prog=true:=by kernel_rfl
abbrev zF:List (String×DataW Unit):=[("math/bits.deBruijn32tab",Rows.laid_math_bits_deBruijn32tab),("math/bits.deBruijn64tab",Rows.laid_math_bits_deBruijn64tab),("internal/strconv.uint64pow10",Rows.laid_internal_strconv_uint64pow10)]
theorem DL (os:Os) (args:Array Value):laidMetH Tryd.prog zF ((World.doorLaid Tryd.prog 400 os).forCall (fun _ _=>0) ⟨#[],args,[]⟩).memory :=
 laidMetH_of_parts3 (fuel:=8) (laidMet_of_run' 8 (by kernel_rfl) (by kernel_rfl)) (by kernel_rfl) (by kernel_rfl)
theorem oS (hsc:∀ vds,En Tryd.prog 8 Tryd.f8.params.toList vds→SC Tryd.prog 8 vds (.one (.d (bl true)))) (os:Os) (started:os.Started) (H:Type) (enc:TypeId×Value→H) :
  ReturnsInHanded {} Tryd.checked os 8 .any (fun w args=>(Rows.bellEndsSpec.pre enc Tryd.prog Tryd.f8 [] false w args∧laidMetH Tryd.prog zF w)∧sizedMet enc Tryd.prog Tryd.f8 (OpenSpec.ofChange Rows.bellEndsSpec) false w args) (Rows.bellEndsSpec.post enc Tryd.prog Tryd.f8 false true false false) :=
 HR (C:=Tryd.checked) (n:=8) (tb:=4) (X:=fun w _=>laidMetH Tryd.prog zF w) (fun _ _ _ hh h=>h.of_heap hh) own started (by kernel_rfl) Tryd.func8
  (ChangeSpec.witness_shaped (enc:=enc) (C:=Tryd.checked) (os:=os) (X:=fun w _=>laidMetH Tryd.prog zF w) false (World.doorLaid Tryd.prog 400 os) #[.slice none 0 0] 8 rfl (World.shaped_of_RefB (by kernel_rfl) (by kernel_rfl)) (by kernel_rfl) (by kernel_rfl) (by kernel_rfl) (DL os _))
  Fk (by kernel_rfl) (by kernel_rfl) Tryd.underlying4 rfl
  (fun ds hd=>by
   rw [show Tryd.f8.params.toList=[60] by kernel_rfl] at hd
   match ds,hd with
   | [a],_=>rfl)
  hsc
theorem ue (hsc:∀ vds,En Tryd.prog 8 Tryd.f8.params.toList vds→SC Tryd.prog 8 vds (.one (.d (bl true)))):Rows.BellEndsSaid :=
 OpenClaim.holds_of_wide 8 Tryd.f8 rfl rfl rfl rfl rfl rfl rfl ⟨rfl,rfl,rfl,rfl,rfl⟩ rfl rfl rfl rfl rfl (by kernel_rfl) Tryd.func8 (by kernel_rfl)
  (of_decide_eq_true (by kernel_rfl)) (by unfold Func.isWrapper;first | (rw [K1 (by decide +kernel)];kernel_rfl) | (rw [Kc (by decide +kernel)];exact ⟨rfl,rfl⟩))
  (fun os started H enc _=>oS hsc os started H enc)
theorem rl (hsc:∀ vds,En Tryd.prog 8 Tryd.f8.params.toList vds→SC Tryd.prog 8 vds (.one (.d (bl true)))):Rows.BellEndsCardSaid :=
 Claim7.holds_tied_plain_at .later [] [.data,.data,.data] true (true, "c63727e6b2ca268bab9231e264516db7b1e83e0cab08a551e4a85ab0b113b8db") false
  (ue hsc) (fun _ h=>by cases h) (by kernel_rfl) (fun _ h=>by cases h) bellEnds_row_tie rfl ⟨rfl,rfl⟩ (by kernel_rfl) rfl
  (fun f fn hf hfn=>by
   obtain rfl:f=8:=Option.some.inj ((show Tryd.prog.funcNamed "leazing/leazinglaw09.BellEnds" = some 8 by kernel_rfl).symm.trans hf) |>.symm
   obtain rfl:fn=Tryd.f8:=(Option.some.inj (Tryd.func8.symm.trans hfn)).symm
   exact ⟨by kernel_rfl,fun j t ht=>by
    rw [Tryd.params8] at ht
    have hm:t∈[60]:=by simpa using Array.mem_of_getElem? ht
    have hall:([60].all fun u=>!Tryd.prog.wantsStandIn u)=true:=by kernel_rfl
    exact (show Tryd.prog.wantsStandIn t=false by simpa using Kq.1 hall t hm)⟩)
  (by kernel_rfl)
theorem bellEnds_holds:Rows.BellEndsCardSaid:=rl fun vds h=>vV vds (by
 have e:Tryd.f8.params.toList=[60]:=by kernel_rfl
 rw [e] at h;exact h)
#print axioms bellEnds_holds
end Go.Proofs.YtaagapoglhndjaaDoor
