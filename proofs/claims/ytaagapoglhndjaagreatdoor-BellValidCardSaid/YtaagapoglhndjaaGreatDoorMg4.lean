/- Bell: the opening of a watch's book by the acts, where it runs in the place of its call. -/
import Derived.Test.YtaagapoglhndjaaGreatDoorMg3
import Derived.Test.YtaagapoglhndjaaGreatDoorMg2
namespace Go.VE
open Go.RowKit Go.Proofs
section
set_option maxRecDepth 100000
section
variable {Δ N R W M E Ω:Type} (p:Pr Δ N R W M E Ω)
def z8 (a0 a1 a2 a3: Δ):Ω:=(p.bnd (p.call 33 [a0]) [fun y0=>p.un .not (p.ld y0 0) fun x1=>p.cond x1 (p.out 0 [.d (p.lit (.int .i64 92)),.d (p.lit (.int .i64 0)),.d (p.lit (.int .i64 0))]) (p.bnd (p.call 81 [a0,a1]) [fun y2=>p.un .not (p.ld y2 0) fun x3=>p.cond x3 (p.out 0 [.d (p.lit (.int .i64 92)),.d (p.lit (.int .i64 0)),.d (p.lit (.int .i64 0))]) (p.lenD a2 fun x4=>p.bin .gtr false x4 (p.lit (.int .i64 120)) fun x5=>p.cond x5 (p.out 0 [.d (p.lit (.int .i64 92)),.d (p.lit (.int .i64 0)),.d (p.lit (.int .i64 0))]) (p.lenD a2 fun x6=>p.bnd (p.call 82 [a3,(p.lit (.int .i64 0)),x6]) [fun y7=>p.un .not (p.ld y7 0) fun x8=>p.cond x8 (p.out 0 [.d (p.lit (.int .i64 92)),.d (p.lit (.int .i64 0)),.d (p.lit (.int .i64 0))]) (p.bnd (p.call 83 [a1]) [fun y9=>p.lenD a2 fun x10=>p.mkN 32 x10 x10 fun n11=>p.rowsD 4 a2 fun r12=>p.eqN n11 (p.len (p.repl n11 [(p.lit (.int .i64 0)),(p.lit (.int .i64 0)),(p.lit (.int .i64 0)),(p.lit (.int .i64 0))])) (p.eqN n11 (p.len (p.repl n11 [(p.lit (.int .i64 0)),(p.lit (.int .i64 0)),(p.lit (.int .i64 0)),(p.lit (.int .i64 0))])) (p.lenD (p.ld y9 0) fun x13=>p.bnd (p.loop [(kg p)] 0 [.d (p.ld y9 0),.d x13,.d (p.lit (.int .i64 0)),.m p.emp,.d a0,.d (p.ld y9 0),.n n11,.n n11,.d a3,.d (p.lit (.int .i64 0)),.d (p.lit (.int .i64 0)),.r (p.app (p.seg r12 none n11) (p.seg (p.repl n11 [(p.lit (.int .i64 0)),(p.lit (.int .i64 0)),(p.lit (.int .i64 0)),(p.lit (.int .i64 0))]) (some (p.len r12)) n11)),.d a0,.d (p.ld y9 0),.n n11,.n n11,.d a3]) [fun y14=>p.eqN n11 (p.len (p.lr y14 8)) (p.eqN n11 (p.len (p.lr y14 8)) (p.bnd (p.call 1000035 [p.ld y14 1,p.ld y14 2,(p.natD (p.ln y14 3)),(p.natD (p.ln y14 4)),p.ld y14 5,(p.slD 4 (p.lr y14 8)),(p.mpD true (p.lm y14 0))]) [fun y15=>p.rowsD 4 (p.ld y15 6) fun r16=>p.asM true (p.ld y15 7) fun q17=>p.un .not (p.ld y15 0) fun x18=>p.cond x18 (p.out 0 [.d (p.lit (.int .i64 92)),.d (p.ld y14 6),.d (p.ld y14 7)]) (p.out 1 [.d (p.lit (.int .i64 0)),.m q17,.r r16,.d (p.ld y15 1),.d (p.ld y15 2),.n (p.dN (p.ld y15 3)),.n (p.dN (p.ld y15 4)),.d (p.ld y15 5),.d (p.ld y14 6),.d (p.ld y14 7)])]))]))])]))])])
def CN (a0 a1 a2 a3 a4 a5 a6: Δ):Ω:=(p.bnd (p.call 33 [a0]) [fun y0=>p.un .not (p.ld y0 0) fun x1=>p.cond x1 (p.out 0 [.d a4,.d a5,.d a6,.d (p.lit (.int .i64 92)),.d (p.lit (.int .i64 0)),.d (p.lit (.int .i64 0))]) (p.bnd (p.call 81 [a0,a1]) [fun y2=>p.un .not (p.ld y2 0) fun x3=>p.cond x3 (p.out 0 [.d a4,.d a5,.d a6,.d (p.lit (.int .i64 92)),.d (p.lit (.int .i64 0)),.d (p.lit (.int .i64 0))]) (p.lenD a2 fun x4=>p.bin .gtr false x4 (p.lit (.int .i64 120)) fun x5=>p.cond x5 (p.out 0 [.d a4,.d a5,.d a6,.d (p.lit (.int .i64 92)),.d (p.lit (.int .i64 0)),.d (p.lit (.int .i64 0))]) (p.lenD a2 fun x6=>p.bnd (p.call 82 [a3,(p.lit (.int .i64 0)),x6]) [fun y7=>p.un .not (p.ld y7 0) fun x8=>p.cond x8 (p.out 0 [.d a4,.d a5,.d a6,.d (p.lit (.int .i64 92)),.d (p.lit (.int .i64 0)),.d (p.lit (.int .i64 0))]) (p.bnd (p.call 83 [a1]) [fun y9=>p.lenD a2 fun x10=>p.mkN 32 x10 x10 fun n11=>p.rowsD 4 a2 fun r12=>p.eqN n11 (p.len (p.repl n11 [(p.lit (.int .i64 0)),(p.lit (.int .i64 0)),(p.lit (.int .i64 0)),(p.lit (.int .i64 0))])) (p.eqN n11 (p.len (p.repl n11 [(p.lit (.int .i64 0)),(p.lit (.int .i64 0)),(p.lit (.int .i64 0)),(p.lit (.int .i64 0))])) (p.lenD (p.ld y9 0) fun x13=>p.bnd (p.loop [(kg p)] 0 [.d (p.ld y9 0),.d x13,.d (p.lit (.int .i64 0)),.m p.emp,.d a0,.d (p.ld y9 0),.n n11,.n n11,.d a3,.d (p.lit (.int .i64 0)),.d (p.lit (.int .i64 0)),.r (p.app (p.seg r12 none n11) (p.seg (p.repl n11 [(p.lit (.int .i64 0)),(p.lit (.int .i64 0)),(p.lit (.int .i64 0)),(p.lit (.int .i64 0))]) (some (p.len r12)) n11)),.d a0,.d (p.ld y9 0),.n n11,.n n11,.d a3]) [fun y14=>p.eqN n11 (p.len (p.lr y14 8)) (p.eqN n11 (p.len (p.lr y14 8)) (p.bnd (p.call 1000035 [p.ld y14 1,p.ld y14 2,(p.natD (p.ln y14 3)),(p.natD (p.ln y14 4)),p.ld y14 5,(p.slD 4 (p.lr y14 8)),(p.mpD true (p.lm y14 0))]) [fun y15=>p.rowsD 4 (p.ld y15 6) fun r16=>p.asM true (p.ld y15 7) fun q17=>p.un .not (p.ld y15 0) fun x18=>p.cond x18 (p.out 0 [.d a4,.d a5,.d a6,.d (p.lit (.int .i64 92)),.d (p.ld y14 6),.d (p.ld y14 7)]) (p.out 1 [.d a4,.d a5,.d a6,.d (p.lit (.int .i64 0)),.m q17,.r r16,.d (p.ld y15 1),.d (p.ld y15 2),.n (p.dN (p.ld y15 3)),.n (p.dN (p.ld y15 4)),.d (p.ld y15 5),.d (p.ld y14 6),.d (p.ld y14 7)])]))]))])]))])])
end
theorem op25 (n:Nat) (me h:Int) (b:Option (List aT)) (o:Option (List aY)) (hl:(o.getD []).length≤4611686018427387904) (hb:(b.getD []).length≤4611686018427387904) :
  z8 (RP (n+4)) (il me) (dB b) (dS o) (il h)=if bS me (b.getD []) (o.getD []) h=true then some (1,[.d (il 0),.m (mapM (b.getD []) (pg me (b.getD []) (o.getD []))),.r ((o.getD []).map rS),.d (il me),.d (dB b),.n (o.getD []).length,.n (o.getD []).length,.d (il h),.d (il 0),.d (il 0)]) else some (0,[.d (il 92),.d (il 0),.d (il 0)]):=by
 simp only [z8,an,Ay,s62 _ _ _ hb,yK,b7,ab,ae,aJ,ac,au,ah,bz,bS]
 by_cases h1:dR me=true
 ·by_cases h2:cC me (b.getD [])=true
  ·have h2':=h2
   simp only [cC,Js,Ju] at h2'
   by_cases h3:(o.getD []).length≤120
   ·have h3':¬ ((120:Int) < (o.getD []).length):=by omega
    by_cases h4:eZ h 0 (o.getD []).length=true
    ·have hmk:0≤((o.getD []).length:Int)∧((32:Nat):Int)*((o.getD []).length:Int)≤140737488355328∧((o.getD []).length:Int)≤9223372036854775807:=by omega
     simp only [h1,h2,h3,h3',h4,K1,Jq,Jx,Jv,Jt,Jw,Kf,s63 _ _ h2'.2,ab,ae,lT,hmk,Kk,Km,jb,lS,aQ,List.length_replicate,aS,b7,oy,bp,aN,lR,bf,K5]
     have hseg:=j9 ((o.getD []).map rS) [il 0,il 0,il 0,il 0]
     rw [K5] at hseg
     rw [hseg,l43 _ _ hb (fx h2'.1)]
     simp only [ab,ae,aj,aP,aw,ax,av,aA,K5,Jv,dj,dt,k9,mapM]
     rw [ja _ _ hb (bK h2) _ (by omega) _ _ _ _ _ (cz _)]
     simp only [ab,ae,aj,fv,aJ,ac,tp]
     have ha:∀ (a:List Value) (b:Rr) (k:Mr→az),(RP (n+4)).asM true (.mp true a b) k=k (a,b):=fun _ _ _=>rfl
     rw [ha]
     simp only [pg]
     rw [show (b.getD []).map (fun _=>fd0)=new (b.getD []) from rfl]
     cases (bI me (b.getD []) (new (b.getD [])) (o.getD [])).2<;>rfl
    ·simp [h1,h2,h3,h3',h4]
   ·have h3':((120:Int) < (o.getD []).length):=by omega
    simp [h1,h2,h3,h3']
  ·simp [h1,h2]
 ·simp [h1]
theorem op27 (n:Nat) (me h:Int) (b:Option (List aT)) (o:Option (List aY)) (x:D) (y:D) (z:D) (hl:(o.getD []).length≤4611686018427387904) (hb:(b.getD []).length≤4611686018427387904) :
  CN (RP (n+4)) (il me) (dB b) (dS o) (il h) x y z=if bS me (b.getD []) (o.getD []) h=true then some (1,[.d x,.d y,.d z,.d (il 0),.m (mapM (b.getD []) (pg me (b.getD []) (o.getD []))),.r ((o.getD []).map rS),.d (il me),.d (dB b),.n (o.getD []).length,.n (o.getD []).length,.d (il h),.d (il 0),.d (il 0)]) else some (0,[.d x,.d y,.d z,.d (il 92),.d (il 0),.d (il 0)]):=by
 simp only [CN,an,Ay,s62 _ _ _ hb,yK,b7,ab,ae,aJ,ac,au,ah,bz,bS]
 by_cases h1:dR me=true
 ·by_cases h2:cC me (b.getD [])=true
  ·have h2':=h2
   simp only [cC,Js,Ju] at h2'
   by_cases h3:(o.getD []).length≤120
   ·have h3':¬ ((120:Int) < (o.getD []).length):=by omega
    by_cases h4:eZ h 0 (o.getD []).length=true
    ·have hmk:0≤((o.getD []).length:Int)∧((32:Nat):Int)*((o.getD []).length:Int)≤140737488355328∧((o.getD []).length:Int)≤9223372036854775807:=by omega
     simp only [h1,h2,h3,h3',h4,K1,Jq,Jx,Jv,Jt,Jw,Kf,s63 _ _ h2'.2,ab,ae,lT,hmk,Kk,Km,jb,lS,aQ,List.length_replicate,aS,b7,oy,bp,aN,lR,bf,K5]
     have hseg:=j9 ((o.getD []).map rS) [il 0,il 0,il 0,il 0]
     rw [K5] at hseg
     rw [hseg,l43 _ _ hb (fx h2'.1)]
     simp only [ab,ae,aj,aP,aw,ax,av,aA,K5,Jv,dj,dt,k9,mapM]
     rw [ja _ _ hb (bK h2) _ (by omega) _ _ _ _ _ (cz _)]
     simp only [ab,ae,aj,fv,aJ,ac,tp]
     have ha:∀ (a:List Value) (b:Rr) (k:Mr→az),(RP (n+4)).asM true (.mp true a b) k=k (a,b):=fun _ _ _=>rfl
     rw [ha]
     simp only [pg]
     rw [show (b.getD []).map (fun _=>fd0)=new (b.getD []) from rfl]
     cases (bI me (b.getD []) (new (b.getD [])) (o.getD [])).2<;>rfl
    ·simp [h1,h2,h3,h3',h4]
   ·have h3':((120:Int) < (o.getD []).length):=by omega
    simp [h1,h2,h3,h3']
  ·simp [h1,h2]
 ·simp [h1]
end
section
set_option maxRecDepth 100000
theorem eL27:@GQ=@kg:=rfl
theorem fitA {a b:Nat} (ha:a≤120000) (hb:b≤120000):(a+b)*32≤140737488355328∧a+b≤9223372036854775807:=by omega
section
variable {n:Nat}
theorem uQ (a:List Value) (b:Rr) (k:Mr→az):(RP n).asM true (.mp true a b) k=k (a,b):=rfl
end
theorem DI (l:List aY) (s:List aY):(l.map rS++s.map rS).take (l.length+s.length)=(l++s).map rS:=by
 rw [Mm];exact Kl (by simp)
theorem gY (l:List aY):dS (some l)=.sl 4 (l.map rS):=rfl
theorem du {me h:Int} {bs:List aT} {ss:List aY} (ho:bS me bs ss h=true):ss.length≤120:=by
 simp only [bS,Js,Ju] at ho
 exact ho.2.2.1
theorem fW {me h:Int} {bs:List aT} {ss:List aY} (ho:bS me bs ss h=true):∀ c∈bs,j7 c.2:=by
 simp only [bS,Js] at ho
 exact bK ho.2.1
end
section
set_option maxRecDepth 100000
theorem s9 {me:Int} {bs:List aT} {fs:List Fld} {s:aY} {j:Nat} {f g:Fld} (hs:gQ s=true) (hx:dg s.2.1 bs=some j) (hf:fs[j]?=some f) (hg:bi me (bs.getD j (0,0)).2 f s=some g):bI me bs fs [s]=(fs.set j g,true):=by
 have e:fs.getD j fd0=f:=gU _ hf
 simp only [bI,hs,Jv,hx,e,hg]
theorem lb {me h:Int} {bs:List aT} {ss:List aY} (ho:bS me bs ss h=true) {fld:Int} {j:Nat} (hx:dg fld bs=some j):eZ fld 1 99=true:=by
 obtain ⟨e,he,rfl,-,-⟩:=eg hx
 simp only [bS,cC,Js] at ho
 have:=(jS ho.2.1.1 e (Ka he)).1
 simp only [qh,Eb,Js] at this
 exact this.1.1
end
section
set_option maxRecDepth 100000
theorem Bj {me P:Int} {f:Fld} {o:Nat} (ho:o < 6) (hg:kc me P f o=true) (hr:nG f) {fld:Int} (hf:eZ fld 1 99=true):gQ (1,fld,(o:Int),f.no o+1)=true:=by
 simp only [kc,Js,Ju] at hg
 have:=(hr.2 o).1
 simp only [eZ,Js,Ju] at hf
 simp [gQ,eZ,dR]
 omega
end
section
set_option maxRecDepth 100000
end
section
set_option maxRecDepth 100000
theorem mK {α:Type} {ok:α→Bool} {src:α→Int}:∀ {l:List α} {p:Option Int},le ok src p l=true→l.Pairwise fun a b=>src a < src b
 | [],_,_=>.nil
 | b::r,p,h=>by
  simp only [le,Js] at h
  refine .cons (fun c hc=>?_) (mK h.2.2)
  simpa [tz] using (jS h.2.2 c hc).2
def gE (a:Int) (t:ge) (f:Fld):Fld:=if f.ask a.toNat < t.2.2 then { f with ask:=cd f.ask a.toNat t.2.2 } else f
def zG (me a:Int) (t:ge) (f:Fld):Fld:=if f.no a.toNat < t.2.1∧aK me a t.2.1=true∧f.opn=false then { gE a t f with no:=cd f.no a.toNat t.2.1,af:=cd f.af a.toNat true } else gE a t f
def B7 (me a:Int) (bs:List aT):List ge→List Fld→List Fld×List aY
 | [],fs=>(fs,[])
 | t::r,fs=>match dg t.1 bs with
  | none=>B7 me a bs r fs
  | some j=>if bU (bs.getD j (0,0)).2 a=true then ((B7 me a bs r (fs.set j (zG me a t (fs.getD j fd0)))).1,gq me a t (fs.getD j fd0)++(B7 me a bs r (fs.set j (zG me a t (fs.getD j fd0)))).2) else B7 me a bs r fs
theorem DF {bs:List aT} {x y:Int} {i j:Nat} (hx:dg x bs=some i) (hy:dg y bs=some j) (h:x≠y):i≠j:=by
 rintro rfl
 exact h ((ey hx).2.symm.trans (ey hy).2)
theorem tK {me a:Int} {bs:List aT} {ss:List aY}:∀ (l:List ge) (fs:List Fld),(l.Pairwise fun a b=>a.1 < b.1)→(∀ t∈l,∀ j,dg t.1 bs=some j→fs[j]?=some (fl me bs ss j))→(B7 me a bs l fs).2=bu me a bs ss l
 | [],_,_,_=>rfl
 | t::r,fs,hp,hf=>by
  obtain ⟨h1,h2⟩:=List.pairwise_cons.1 hp
  have h0:=hf t T9
  have hr:=fun q (hq:q∈r)=>hf q (Kz _ hq)
  rw [B7,bu,List.flatMap_cons,da]
  cases hx:dg t.1 bs with
  | none=>exact tK r fs h2 hr
  | some j =>
   have hj:=h0 j hx
   have hg:fs.getD j fd0=fl me bs ss j:=gU _ hj
   simp only
   by_cases hh:bU (bs.getD j (0,0)).2 a=true
   ·rw [K9 hh,K9 hh,hg]
    refine congrArg _ (tK r _ h2 fun q hq i hi=>?_)
    have hlt:=h1 q hq
    rw [V7 (DF hx hi (by omega))]
    exact hr q hq i hi
   ·rw [Kg hh,Kg hh]
    exact tK r fs h2 hr
theorem Bb (me a:Int) (t:ge) (f:Fld):(gq me a t f).length≤2:=by
 unfold gq
 split<;>split<;>simp
theorem lZ {me P a:Int} {f:Fld} {t:ge} (hne:a≠me) (hP:bU P a=true) (hw:f.ask a.toNat < t.2.2) (fld:Int):bi me P f (3,fld,a,t.2.2)=some { f with ask:=cd f.ask a.toNat t.2.2 }:=by
 simp [bi,hne,hP]
 omega
theorem io {me P a:Int} {f:Fld} {x:Int} (hne:a≠me) (hP:bU P a=true) (hw:f.no a.toNat < x) (ho:f.opn=false) (fld:Int):bi me P f (1,fld,a,x)=some { f with no:=cd f.no a.toNat x,af:=cd f.af a.toNat true }:=by
 simp [bi,hne,hP,ho]
 omega
theorem mV {k fld a x:Int} (hk:k=1∨k=3) (hf:eZ fld 1 99=true) (hp:dR a=true) (h1:1≤x) (h2:x≤99999):gQ (k,fld,a,x)=true:=by
 simp only [gQ,hf,hp,hk,Jv,Kf]
 simp only [eZ,Js,Ju]
 exact ⟨h1,h2⟩
theorem C8 {fs:List Fld} {j:Nat} {f:Fld} (h:fs[j]?=some f):fs.set j f=fs:=by
 apply Mp
 intro i
 rw [List.getElem?_set]
 split
 ·subst_vars;split<;>simp_all
 ·rfl
theorem xS (a:Int) (t:ge) (f:Fld):(gE a t f).no=f.no∧(gE a t f).af=f.af∧(gE a t f).opn=f.opn:=by
 unfold gE;split<;>exact ⟨rfl,rfl,rfl⟩
theorem l27 (n:Nat) {me h a to:Int} (b:Option (List aT)) {ss:List aY} (h1:bS me (b.getD []) ss h=true) (o:Option (List ge)) (hpl:gm a to (o.getD [])=true) (hto:to=me) (z1 z2:D) :
  bh [wD (RP (n+5))] M0 0 [.d (il a),.d (il to),.d (dT o),.d (dT o),.d (il (o.getD []).length),.d (il 0),.m (mapM (b.getD []) (pg me (b.getD []) ss)),.r (ss.map rS),.d (il me),.d (dB b),.n ss.length,.n ss.length,.d (il h),.d z1,.d z2] =
   some (0,[.m (mapM (b.getD []) (B7 me a (b.getD []) (o.getD []) (pg me (b.getD []) ss)).1),.r ((ss++bu me a (b.getD []) ss (o.getD [])).map rS),.d (il me),.d (dB b),.n (ss++bu me a (b.getD []) ss (o.getD [])).length,.n (ss++bu me a (b.getD []) ss (o.getD [])).length,.d (il h),.d z1,.d z2]):=by
 have hb4:(b.getD []).length≤4:=by
  simp only [bS,cC,Js,Ju] at h1
  exact h1.2.1.2
 have hl:=du h1
 have hr:=cN h1
 have h66:=fW h1
 simp only [gm,Js,Ju,Md,Mk] at hpl
 obtain ⟨hpa,-,hne,hl4,hpl⟩:=hpl
 have hne':a≠me:=hto ▸ hne
 have hlt:=bP hpa
 have hpair:=mK hpl
 have:=aZ (β:=List Fld×List aY) (o.getD []) (by omega) (wD (RP (n+5))) (fun i g=>[.d (il a),.d (il to),.d (dT o),.d (dT o),.d (il (o.getD []).length),.d (il i),.m (mapM (b.getD []) g.1),.r (g.2.map rS),.d (il me),.d (dB b),.n g.2.length,.n g.2.length,.d (il h),.d z1,.d z2])
  (fun i g=>g.1.length=(b.getD []).length∧(∀ t∈(o.getD []).drop i,∀ j,dg t.1 (b.getD [])=some j→g.1[j]?=some (fl me (b.getD []) ss j))∧g.2.length≤120+2*i)
  (fun _ r g=>some (0,[.m (mapM (b.getD []) (B7 me a (b.getD []) r g.1).1),.r ((g.2++(B7 me a (b.getD []) r g.1).2).map rS),.d (il me),.d (dB b),.n (g.2++(B7 me a (b.getD []) r g.1).2).length,.n (g.2++(B7 me a (b.getD []) r g.1).2).length,.d (il h),.d z1,.d z2])) ?_ ?_ M0 (pg me (b.getD []) ss,ss) ⟨xy hr ss,fun t _ j hj=>mH h1 (ey hj).1,by omega⟩ (cc (by omega))
 ·simp only [tK (ss:=ss) (o.getD []) (pg me (b.getD []) ss) hpair (fun t _ j hj=>mH h1 (ey hj).1)] at this
  exact this
 ·intro g k _
  simp [wD,B7]
 ·rintro i t r ⟨fs,l⟩ k hi hd hlti hw ⟨hlen,hfs,hll⟩ ih
  simp only at hlen hfs hll
  have hlt':(i:Int) < ((o.getD []).length:Int):=by omega
  have hdr:(o.getD []).drop (i+1)=r:=by
   have:=Ti hlti
   rw [hd] at this
   exact (List.cons.inj this).2.symm
  have hpr:∀ q∈r,t.1 < q.1:=by
   have hp2:=List.Pairwise.drop (i:=i) hpair
   rw [hd] at hp2
   exact (List.pairwise_cons.1 hp2).1
  have htd:=(jS hpl t (Ka hi)).1
  simp only [jQ,eZ,Js,Ju] at htd
  have hfs':∀ q∈(o.getD []).drop (i+1),∀ j,dg q.1 (b.getD [])=some j→fs[j]?=some (fl me (b.getD []) ss j):=fun q hq=>by
   rw [hdr] at hq
   exact hfs q (by rw [hd];exact Kz _ hq)
  have ih0:=ih (fs,l) ⟨hlen,hfs',by simp only;omega⟩
  simp only [b5] at ih0
  rw [B7]
  simp only [wD,ae,aj,aP,aU,aw,ax,av,aA,ah,aB,Jt,ac,Jv,an,ab,aC,aH,bW,cr,ck,ed,bw,K4,Kq,hlt',eh hi,kr,nr,nq,cH,lw _ _ (show (b.getD []).length≤4611686018427387904 by omega),cR,Ju,aF,hw]
  cases hx:dg t.1 (b.getD []) with
  | none=>simpa using ih0
  | some j =>
   obtain ⟨e,he,hfld,hg,hj⟩:=eg hx
   have h6:=h66 e (Ka he)
   have hfl:=lb h1 hx
   have hrng:=mc h1 j
   have hf:=hfs t (by rw [hd];exact T9) j hx
   have hgf:fs.getD j fd0=fl me (b.getD []) ss j:=gU _ hf
   have hfs2:∀ g:Fld,∀ q∈(o.getD []).drop (i+1),∀ j',dg q.1 (b.getD [])=some j'→(fs.set j g)[j']?=some (fl me (b.getD []) ss j'):=fun g q hq j' hj'=>by
    have hq':=hq
    rw [hdr] at hq'
    have hlt:=hpr q hq'
    rw [V7 (DF hx hj' (by omega))]
    exact hfs' q hq j' hj'
   generalize fl me (b.getD []) ss j=f at hf hrng hgf
   simp only [reduceCtorEq,Jx,im hx,bO he,eC,fL,ae,ac,ab,aJ,pR _ _ h6,hg,hgf]
   cases hh:bU e.2 a with
   | false=>simpa using ih0
   | true =>
    have hle0:3*a.toNat≤19:=by omega
    have hle2:3*a.toNat≤17:=by omega
    have hq1:l.length≤9223372036854775806:=by omega
    have hfit:=fitA (a:=l.length) (b:=1) (by omega) (by omega)
    simp only [K1,Jq,Jx,Jv,bo hpa,bb hf,bz,jW f hlt,ac,Jv,Nat.reduceLeDiff,hle2]
    have hc0:=uq (n+1) b (by omega) h66 [(3,t.1,a,t.2.2)] (by simp) (l.map rS) me (il h) l.length l.length fs hlen
    refine gJ (X':=some (0,[.d (il a),.d (il to),.d (dT o),.n j,.n 0,.d (dT o),.d (il (o.getD []).length),.d (il i),.r ((l++(if f.ask a.toNat < t.2.2 then [(3,t.1,a,t.2.2)] else [])).map rS),.m (mapM (b.getD []) (fs.set j (gE a t f))),.d (il t.1),.d (il t.2.1),.d (il t.2.2),.d (il me),.d (dB b),.n (l++(if f.ask a.toNat < t.2.2 then [(3,t.1,a,t.2.2)] else [])).length,.n (l++(if f.ask a.toNat < t.2.2 then [(3,t.1,a,t.2.2)] else [])).length,.d (il h),.d z1,.d z2])) ?_ ?_
    ·by_cases w1:f.ask a.toNat < t.2.2
     ·have hp:=s9 (me:=me) (bs:=b.getD []) (mV (x:=t.2.2) (.inr rfl) hfl hpa (by have:=(hrng.2 a.toNat).2;omega) (by omega)) hx hf (by rw [hg];exact lZ hne' hh w1 t.1)
      rw [hp] at hc0
      simp only [K0,Kb,rS] at hc0
      simp only [w1,Jt,Jv,mapM,dj,dt,k9,mapM,aO,fv,uQ,tp,aQ,K5,Jy,K8,aS,aL,Kk,bp,au,hc0,ae,aj,Jt,Jv,ab,K4,hfit,gE]
      simp [rS]
     ·simp only [w1,Jw,Jq,Jx,gE,C8 hf,Kj,au]
    ·generalize hl1:l++(if f.ask a.toNat < t.2.2 then [(3,t.1,a,t.2.2)] else [])=l1
     have hll1:l1.length≤l.length+1:=by rw [←hl1];split<;>simp
     obtain ⟨g1,g2,g3⟩:=xS a t f
     have hF:gq me a t f=(if f.ask a.toNat < t.2.2 then [(3,t.1,a,t.2.2)] else [])++(if f.no a.toNat < t.2.1∧aK me a t.2.1=true∧f.opn=false then [(1,t.1,a,t.2.1)] else []):=rfl
     have hG:zG me a t f=if f.no a.toNat < t.2.1∧aK me a t.2.1=true∧f.opn=false then { gE a t f with no:=cd f.no a.toNat t.2.1,af:=cd f.af a.toNat true } else gE a t f:=rfl
     generalize gE a t f=f1 at g1 g2 g3 hG ⊢
     have hf1:=fu hf f1
     have ihn:=fun hc=>ih (fs.set j f1,l1) ⟨by rw [l4];exact hlen,hfs2 f1,hc⟩
     have ih1:=ihn (by simp only;omega)
     simp only [b5] at ih1
     simp only [ae,aj,aP,aU,aw,ax,av,aA,ac,Jv,ab,aJ,ck,K4,bo hpa,bb hf1,eK _ hlt,fX,bz,g1,g3,hle0,Ko,E9]
     by_cases c1:f.no a.toNat < t.2.1
     ·cases c2:aK me a t.2.1 with
      | false =>
       have hn:¬ (f.no a.toNat < t.2.1∧aK me a t.2.1=true∧f.opn=false):=by simp [c2]
       rw [Kg hn] at hF hG
       rw [hF,hG,Kj,← Kh,hl1]
       simp only [c1,Jt,Jv,Jq,Jx,aF,hw]
       exact ih1
      | true =>
       cases c3:f.opn with
       | true =>
        have hn:¬ (f.no a.toNat < t.2.1∧aK me a t.2.1=true∧f.opn=false):=by simp [c3]
        rw [Kg hn] at hF hG
        rw [hF,hG,Kj,← Kh,hl1]
        simp only [c1,Jt,Jv,K1,Jq,Jx,aF,hw]
        exact ih1
       | false =>
        have hy:(f.no a.toNat < t.2.1∧aK me a t.2.1=true∧f.opn=false):=⟨c1,c2,c3⟩
        rw [K9 hy] at hF hG
        have hp:=s9 (me:=me) (bs:=b.getD []) (mV (x:=t.2.1) (.inl rfl) hfl hpa (by have:=(hrng.2 a.toNat).1;omega) (by omega)) hx hf1 (by rw [hg];exact io hne' hh (by rw [g1];exact c1) (by rw [g3];exact c3) t.1)
        have hc1:=uq (n+1) b (by omega) h66 [(1,t.1,a,t.2.1)] (by simp) (l1.map rS) me (il h) l1.length l1.length (fs.set j f1) (by rw [l4];exact hlen)
        rw [hp,Tv,g1,g2,← hG] at hc1
        have hq2:l1.length≤9223372036854775806:=by omega
        have hfit1:=fitA (a:=l1.length) (b:=1) (by omega) (by omega)
        have ih2:=ih (fs.set j (zG me a t f),l1++[(1,t.1,a,t.2.1)]) ⟨by rw [l4];exact hlen,hfs2 _,by simp only [Kc,Jy,K8];omega⟩
        simp only [b5,Mm,K0,Kb,rS,Kc,Jy,K8,K4,mapM] at hc1 ih2
        rw [hF,← Kh,← Kh,hl1]
        simp only [c1,Jt,Jv,M6,mapM,dj,dt,k9,mapM,aO,fv,uQ,tp,aQ,K5,Jy,K8,aS,aL,Kk,bp,hc1,ae,aj,Jt,Jv,ab,K4,hfit1,aF,hw]
        rw [ih2]
        simp [rS]
        omega
     ·have hn:¬ (f.no a.toNat < t.2.1∧aK me a t.2.1=true∧f.opn=false):=fun hh=>c1 hh.1
      rw [Kg hn] at hF hG
      rw [hF,hG,Kj,← Kh,hl1]
      simp only [c1,Jw,Jq,Jx,aF,hw]
      exact ih1
theorem s27 (n:Nat) (me h a to:Int) (b:Option (List aT)) (o:Option (List aY)) (t:Option (List ge)) (hl:(o.getD []).length≤4611686018427387904) (hb:(b.getD []).length≤4611686018427387904) (ht:(t.getD []).length≤4611686018427387904) :
  FN (n+6) 21 [il me,dB b,dS o,il h,il a,il to,dT t]=if bS me (b.getD []) (o.getD []) h=true then (if gm a to (t.getD [])=true∧to=me then et me h b (o.getD []) (0,bu me a (b.getD []) (o.getD []) (t.getD [])) else eP 93) else eP 92:=by
 rw [FS,J5]
 have hop:CN (RP (n+5)) (il me) (dB b) (dS o) (il h) (il a) (il to) (dT t)=_:=op27 (n+1) me h b o (il a) (il to) (dT t) hl hb
 unfold G21
 rw [eL27]
 refine gJ hop ?_
 have hln:∀ k:D→az,(RP (n+5)).lenD (dT t) k=k (il (t.getD []).length):=fun k=>b7 _ _ _ k
 by_cases h1:bS me (b.getD []) (o.getD []) h=true
 ·by_cases h2:gm a to (t.getD [])=true
  ·by_cases h3:to=me
   ·have h27:=l27 n b h1 t h2 h3 (il 0) (il 0)
    simp only [h1,h2,Jv,bH,ae,aj,aP,aU,aw,ax,av,aA,ah,ac,Jv,br,an,ab,s16 _ _ _ _ ht,My,Mf,Jw,Jq,Jx,hln,bf]
    simp only [h3,Mf,Jw,Jq,Jx,Kk,Jv]
    rw [h3] at h27
    rw [h27]
    generalize bu me a (b.getD []) (o.getD []) (t.getD [])=w
    have hN:((120:Int) < (((o.getD []++w).length:Nat):Int))↔120 < (o.getD []).length+w.length:=by rw [Kc];omega
    have htk:((o.getD []++w).map rS).take (o.getD []++w).length=(o.getD []++w).map rS:=Kl (by rw [K5];exact Ko _)
    simp only [ae,aj,aw,ax,av,aA,ac,Jv,ab,bz,dj,hN,Ju,aQ,K5,aS,au,aN,dt,htk,et]
    by_cases g:120 < (o.getD []).length+w.length
    ·simp [g,eP,dl]
    ·simp [g,gY]
   ·simp only [h1,h2,Jv,bH,ae,aj,aP,aU,aw,ax,av,aA,ah,ac,Jv,br,an,ab,s16 _ _ _ _ ht]
    simp [h3,eP,dl]
  ·simp only [h1,h2,Jv,bH,ae,aj,aP,aU,aw,ax,av,aA,ah,ac,Jv,br,an,ab,s16 _ _ _ _ ht]
   simp [eP,dl]
 ·simp [h1,eP,dl]
end
section
set_option maxRecDepth 100000
def gz (l:List aY):Bool:=l.any fun s=>decide (99999 < s.2.2.2)
def Dt (me h:Int) (b:Option (List aT)) (ss l:List aY):az:=et me h (some (b.getD [])) ss (if gz l=true then (2,[]) else (0,l))
theorem nV {a b c:Nat} (ha:a≤120000) (hb:b≤120000) (hc:c≤32):(a+b)*c≤140737488355328∧a+b≤9223372036854775807:=by
 have:(a+b)*c≤240000*32:=Nat.mul_le_mul (by omega) hc
 omega
theorem s81 (n:Nat) (me h:Int) (b:Option (List aT)) (o:Option (List aY)) (hb:(b.getD []).length≤120) (hl:(o.getD []).length≤120) :
  FN (n+1) 101 [il me,dB b,dS o,il h]=some (0,[.d (il me),.d (dB (some (b.getD []))),.r ((o.getD []).map rS),.d (il h)]):=by
 rw [FS,Gj]
 have f1:=nV (a:=0) (b:=(b.getD []).length) (c:=16) (by omega) (by omega) (by omega)
 have f2:=nV (a:=0) (b:=(o.getD []).length) (c:=32) (by omega) (by omega) (by omega)
 have t1:((b.getD []).map rB).take (b.getD []).length=(b.getD []).map rB:=Kl (by simp)
 have t2:((o.getD []).map rS).take (o.getD []).length=(o.getD []).map rS:=Kl (by simp)
 simp only [K4] at f1 f2
 simp only [G101,jb,aC,aO,aQ,K8,aS,Jv,aH,K4,K5,aL,f1,f2,Kk,bp,K7,cr,Ko,aN,t1,t2,dt,au]
 rfl
theorem l82 (n:Nat) (l:Option (List aY)) (hl:(l.getD []).length≤120000) (c1 c2 c3 c4 c5 c6:D) :
  bh [r8 (RP n)] M0 0 [.d (dS l),.d c1,.d c2,.d c3,.d c4,.d (il 0),.d c5,.d c6]=if gz (l.getD [])=true then some (0,[.d (il 2),.d (il 0),.d (il 0)]) else some (1,[.d (dS l),.d c1,.d c2,.d c3,.d c4,.d c5,.d c6]):=by
 have:=aZ (β:=Unit) (l.getD []) (by omega) (r8 (RP n)) (fun i _=>[.d (dS l),.d c1,.d c2,.d c3,.d c4,.d (il i),.d c5,.d c6]) (fun _ _=>True)
  (fun _ r _=>if gz r=true then some (0,[.d (il 2),.d (il 0),.d (il 0)]) else some (1,[.d (dS l),.d c1,.d c2,.d c3,.d c4,.d c5,.d c6])) ?_ ?_ M0 () trivial (cc (by omega))
 ·exact this
 ·intro _ k _
  simp [r8,b7,gz]
 ·intro i s r _ k hi hd hlt hw _ ih
  have ih':=ih () trivial
  rw [b5] at ih'
  have hlt':(i:Int) < ((l.getD []).length:Int):=by omega
  simp only [r8,b7,ae,aj,aB,hlt',Jt,ac,Jv,lx hi,vS,bz,ah,au,aF,hw]
  by_cases h1:99999 < s.2.2.2
  ·simp [h1,gz]
  ·simp only [h1,Jw,Jq,Jx]
   rw [show gz (s::r)=gz r by simp [gz,h1]]
   exact ih'
theorem s82 (n:Nat) (me h:Int) (b:Option (List aT)) (o l:Option (List aY)) (hb:(b.getD []).length≤120) (hl:(o.getD []).length≤120) (hll:(l.getD []).length≤120000) :
  FN (n+2) 102 [il me,dB b,dS o,il h,dS l]=Dt me h b (o.getD []) (l.getD []):=by
 rw [FS,Gi]
 have hw:IntKind.i64.wrap (((o.getD []).length:Int)+((l.getD []).length:Int))=((o.getD []).length:Int)+((l.getD []).length:Int):=cP (by omega) (by omega)
 have hN:((120:Int) < ((o.getD []).length:Int)+((l.getD []).length:Int))↔120 < (o.getD []).length+(l.getD []).length:=by omega
 have hfit:=nV (a:=(o.getD []).length) (b:=(l.getD []).length) (c:=32) (by omega) (by omega) (by omega)
 have hap:=DI (o.getD []) (l.getD [])
 simp only [G102,b7,aF,hw,bz,ah,hN,ac,Ju,bf,l82 _ _ hll,Dt]
 by_cases g:120 < (o.getD []).length+(l.getD []).length
 ·by_cases g2:gz (l.getD [])=true
  ·simp [g,g2,et,eP,dl]
  ·simp [g,g2,et,eP,dl]
 ·by_cases g2:gz (l.getD [])=true
  ·simp [g,g2,et,eP,dl]
  ·simp only [g,g2,Jq,Jx,bH,ae,aj,an,s81 _ _ _ _ _ hb hl,ab,av,aA,jb,aQ,K5,aS,Jv,aH,aL,hfit,Kk,bp,Kc,aN,hap,dt,au,et]
   rfl
theorem cU {me h:Int} {bs:List aT} {ss:List aY} (h1:bS me bs ss h=true):bs.length≤4:=by
 simp only [bS,cC,Js,Ju] at h1
 exact h1.2.1.2
theorem jR {me h:Int} {bs:List aT} {ss:List aY} (h1:bS me bs ss h=true):dR me=true:=by
 simp only [bS,Js] at h1
 exact h1.1
theorem kQ {me h:Int} {b:Option (List aT)} {ss l:List aY} (hl:gz l=false):Dt me h b ss l=et me h (some (b.getD [])) ss (0,l):=by simp [Dt,hl]
theorem s20 (n:Nat) (me h:Int) (b:Option (List aT)) (o:Option (List aY)) (fld:Int) (hl:(o.getD []).length≤4611686018427387904) (hb:(b.getD []).length≤4611686018427387904) :
  FN (n+9) 71 [il me,dB b,dS o,il h,il fld]=nl me (b.getD []) (o.getD []) h fld eP fun j=>et me h (some (b.getD [])) (o.getD []) (lB fld (fl me (b.getD []) (o.getD []) j)):=by
 rw [FS,IQ]
 simp only [G71,an,s80 _ _ _ _ _ _ hl hb]
 unfold nl
 by_cases h1:bS me (b.getD []) (o.getD []) h=true
 ·have hp:=jR h1
  have hb4:=cU h1
  have hl4:=du h1
  simp only [h1,Jv]
  cases hx:dg fld (b.getD []) with
  | none=>simp [nd,z21,eP,dl]
  | some j =>
   have hr:=mc h1 j
   simp only
   generalize fl me (b.getD []) (o.getD []) j=f at hr ⊢
   have hw:IntKind.i64.wrap (f.wants+1)=f.wants+1:=by have:=hr.1;exact cP (by omega) (by omega)
   simp only [dY,K2,K7,K0,Kb,ab,ae,aj,ah,br,My,Mf,Jw,ac,Jq,Jx,au,aC,bo hp,aH,bC (bP hp),be,dh _ (bP hp),jH hp,eF _ _ _ _ (show (2:Int)≠0 by decide),ba,s81 _ _ _ _ _ (show (b.getD []).length≤120 by omega) hl4,av,aA,aQ,aS,Jv,aN,T1,dt,aF,hw,aO]
   have hc:=s82 (n+6) me h b o (some [(2,fld,0,f.wants+1)]) (by omega) hl4 (by simp)
   simp only [M1,gY,K0,Kb,rS] at hc
   by_cases g1:f.opn=true
   ·simp [g1,lB,et,eP,dl]
   ·have g1':f.opn=false:=by simpa using g1
    by_cases g2:f.wants.tmod 2=1
    ·have g3:gR f.wants=true:=by simp [gR,g2]
     have g5:¬ (120 < (o.getD []).length):=by omega
     simp [g1',g2,g3,lB,et,g5,gY]
    ·have g3:gR f.wants=false:=by simp [gR,g2]
     have g6:gz [(2,fld,0,f.wants+1)]=false:=by
      have:f.wants≠99999:=by rintro hh;rw [hh] at g2;exact g2 rfl
      have:=hr.1
      simp [gz];omega
     rw [kQ g6] at hc
     simp only [g1',g2,g3,Jw,Jq,Jx,lB,hc]
     unfold et
     by_cases g4:120 < (o.getD []).length+1
     ·simp [g4,eP]
     ·simp [g4]
 ·simp [h1,nd,z21,eP,dl]
theorem s24 (n:Nat) (me h:Int) (b:Option (List aT)) (o:Option (List aY)) (fld:Int) (hl:(o.getD []).length≤4611686018427387904) (hb:(b.getD []).length≤4611686018427387904) :
  FN (n+9) 74 [il me,dB b,dS o,il h,il fld]=nl me (b.getD []) (o.getD []) h fld eP fun j=>et me h (some (b.getD [])) (o.getD []) (my fld (fl me (b.getD []) (o.getD []) j)):=by
 rw [FS,IN]
 simp only [G74,an,s80 _ _ _ _ _ _ hl hb]
 unfold nl
 by_cases h1:bS me (b.getD []) (o.getD []) h=true
 ·have hb4:=cU h1
  have hl4:=du h1
  simp only [h1,Jv]
  cases hx:dg fld (b.getD []) with
  | none=>simp [nd,z21,eP,dl]
  | some j =>
   simp only
   generalize fl me (b.getD []) (o.getD []) j=f
   simp only [dY,K2,K7,K0,Kb,ab,ae,aj,ah,br,My,Mf,Jw,ac,Jq,Jx,au,aJ,dt,aO]
   have hc:=s82 (n+6) me h b o (some [(4,fld,0,0)]) (by omega) hl4 (by simp)
   rw [M1,kQ (show gz [(4,fld,0,0)]=false by simp [gz])] at hc
   simp only [gY,K0,Kb,rS] at hc
   cases g1:f.opn with
   | false=>simp [g1,my,eP,et,dl]
   | true =>
    simp only [g1,my,K1,Jq,Jx,Jv,hc]
    unfold et
    by_cases g4:120 < (o.getD []).length+1
    ·simp [g4,eP]
    ·simp [g4]
 ·simp [h1,nd,z21,eP,dl]
theorem s22 (n:Nat) (me h:Int) (b:Option (List aT)) (o:Option (List aY)) (fld:Int) (hl:(o.getD []).length≤4611686018427387904) (hb:(b.getD []).length≤4611686018427387904) :
  FN (n+9) 73 [il me,dB b,dS o,il h,il fld]=nl me (b.getD []) (o.getD []) h fld eP fun j=>et me h (some (b.getD [])) (o.getD []) (k8 me ((b.getD []).getD j (0,0)).2 fld (fl me (b.getD []) (o.getD []) j)):=by
 rw [FS,IO]
 simp only [G73,an,s80 _ _ _ _ _ _ hl hb]
 unfold nl
 by_cases h1:bS me (b.getD []) (o.getD []) h=true
 ·have hp:=jR h1
  have hb4:=cU h1
  have hl4:=du h1
  simp only [h1,Jv]
  cases hx:dg fld (b.getD []) with
  | none=>simp [nd,z21,eP,dl]
  | some j =>
   obtain ⟨e,he,-,hg,hj⟩:=eg hx
   have h6:=fW h1 e (Ka he)
   have hr:=mc h1 j
   simp only [hg]
   generalize fl me (b.getD []) (o.getD []) j=f at hr ⊢
   have h84:=s84 (n+4) e h6 me f
   have hw:IntKind.i64.wrap (f.wants+1)=f.wants+1:=by have:=hr.1;exact cP (by omega) (by omega)
   have hf2:=nV (a:=1) (b:=1) (c:=32) (by omega) (by omega) (by omega)
   simp only [dY,K2,K7] at h84
   simp only [dY,K2,K7,K0,Kb,ab,ae,aj,ah,br,My,Mf,Jw,ac,Jq,Jx,au,aC,bo hp,aH,bC (bP hp),be,dh _ (bP hp),jH hp,eF _ _ _ _ (show (2:Int)≠0 by decide),ba,h84,aJ,aQ,Jy,K8,K4,aS,Jv,aN,List.take,dt,aF,hw,aO,aL,hf2,Kk,bp]
   by_cases g1:f.opn=true
   ·simp [g1,k8,et,eP,dl]
   ·have g1':f.opn=false:=by simpa using g1
    cases hm:(dC me e.2 f).isEmpty with
    | false=>simp [g1',hm,k8,et,eP,dl]
    | true =>
     by_cases g2:f.wants.tmod 2=1
     ·have g3:gR f.wants=true:=by simp [gR,g2]
      have hc:=s82 (n+6) me h b o (some [(4,fld,0,1),(2,fld,0,f.wants+1)]) (by omega) hl4 (by simp)
      by_cases g4:f.wants=99999
      ·have g6:gz [(4,fld,0,1),(2,fld,0,f.wants+1)]=true:=by simp [gz,g4]
       rw [M1,Dt,K9 g6] at hc
       simp only [gY,K0,Kb,rS] at hc
       simp only [g1',g2,hm,k8,Jt,K1,Jq,Jx,Jv,ab,ae,aj,hc]
       simp [g4,et,eP]
      ·have g6:gz [(4,fld,0,1),(2,fld,0,f.wants+1)]=false:=by
        have:=hr.1
        simp [gz];omega
       rw [M1,kQ g6] at hc
       simp only [gY,K0,Kb,rS] at hc
       simp only [g1',g2,hm,hc,k8,g4,g3,ab,ae,aj,Jt,K1,Jq,Jx,Jv]
       unfold et
       by_cases g5:120 < (o.getD []).length+2
       ·simp [g5,eP]
       ·simp [g5]
     ·have g3:gR f.wants=false:=by simp [gR,g2]
      have g4:f.wants≠99999:=by rintro hh;rw [hh] at g2;exact g2 rfl
      have hc:=s82 (n+6) me h b o (some [(4,fld,0,1)]) (by omega) hl4 (by simp)
      rw [M1,kQ (show gz [(4,fld,0,1)]=false by simp [gz])] at hc
      simp only [gY,K0,Kb,rS] at hc
      simp only [g1',g2,hm,hc,k8,g4,g3,ab,ae,aj,Jw,K1,Jq,Jx,Jv]
      unfold et
      by_cases g5:120 < (o.getD []).length+1
      ·simp [g5,eP]
      ·simp [g5]
 ·simp [h1,nd,z21,eP,dl]
end
section
set_option maxRecDepth 100000
theorem Hh {x:Int} (h:0≤x):x.tmod 2=0∨x.tmod 2=1:=by
 have:=Int.tmod_eq_emod_of_nonneg h (b:=2)
 omega
theorem BH (N K:Nat) (hN:N≤4611686018427387904) (rows:Nat→Rr) (hK:∀ i,(rows i).length≤K) (b0 b1:(Nat→List Yr→az)→List Yr→az) (en0:Nat→List Yr) (en1:Nat→Rr→List Yr) (o0:az) (o1:Rr→az)
  (h0:∀ k,b0 k (en0 N)=o0) (h1:∀ k a t,(a::t).length≤N*K→b1 k (en1 N (a::t))=o1 (a::t))
  (s0:∀ i k,i < N→IntKind.i64.wrap ((i:Int)+1)=(i:Int)+1→b0 k (en0 i)=k (kW en0 en1 (i+1) (rows i)).1 (kW en0 en1 (i+1) (rows i)).2)
  (s1:∀ i k a t,i < N→(a::t).length≤i*K→IntKind.i64.wrap ((i:Int)+1)=(i:Int)+1→b1 k (en1 i (a::t))=k 1 (en1 (i+1) (a::t++rows i))) :
  bh [b0,b1] M0 0 (en0 0)=eD o0 o1 ((List.range N).flatMap rows):=by
 have:=iN (σ:=Nat×Rr) [b0,b1] (fun s=>kW en0 en1 s.1 s.2) (fun s=>N - s.1) (fun s=>s.1≤N∧s.2.length≤s.1*K)
  (fun s=>eD o0 o1 (s.2++(List.range' s.1 (N - s.1)).flatMap rows)) ?_ M0 (0,[]) ⟨by simp,by simp⟩ (by simp only [M0];omega)
 ·simpa [kW,List.range_eq_range'] using this
 ·rintro ⟨i,acc⟩ k ⟨hi,ha⟩ ih
  simp only at hi ha
  by_cases hN':i=N
  ·subst hN'
   cases acc with
   | nil=>exact ⟨b0,rfl,by simp [kW,eD,h0]⟩
   | cons a t=>exact ⟨b1,rfl,by simp [kW,eD,h1 k a t ha]⟩
  ·have hi':i < N:=by omega
   have hw:=dX hi' hN
   have ih1:=ih (i+1,acc++rows i) ⟨hi',by have:=hK i;rw [Kc,Nat.succ_mul];omega⟩ (by simp only;omega)
   simp only [Kh] at ih1
   have e:List.range' i (N - i)=i::List.range' (i+1) (N - (i+1)):=by
    rw [show N - i=(N - (i+1))+1 by omega,List.range'_succ]
   rw [e]
   simp only [List.flatMap_cons]
   cases acc with
   | nil =>
    refine ⟨b0,rfl,?_⟩
    simp only [kW,K7] at ih1 ⊢
    rw [s0 i k hi' hw]
    exact ih1
   | cons a t =>
    refine ⟨b1,rfl,?_⟩
    simp only [kW] at ih1 ⊢
    rw [s1 i k a t hi' ha hw]
    exact ih1
def uB (me:Int) (e:aT) (f:Fld):Nat→Option (List D):=jZ (fun (o:Nat)=>!f.opn&&kc me e.2 f o) (fun (o:Nat)=>[il 1,il e.1,il o,il (f.no o+1)])
theorem uA (me:Int) (e:aT) (f:Fld):(List.range 6).filterMap (uB me e f)=(eX me e f).map rS:=by
 rw [uB,gG]
 unfold eX
 cases f.opn with
 | true=>simp
 | false =>
  simp only [M6,Kf,Jq,Jx,Mn]
  rfl
theorem l26_0 (n:Nat) (e:aT) (hb:j7 e.2) {me:Int} (hm:dR me=true) (f:Fld) (hr:nG f) (c1 c2 c3 c4 z1 z2:D) :
  bh [wx (RP (n+5)),wv (RP (n+5))] M0 0 (.d (il me)::.d c1::.d c2::.d c3::.d c4::.d (il 0)::((dY e me f).map .d++[.d z1,.d z2]))=eD (some (0,[.d (il me),.d c1,.d c2,.d c3,.d c4,.d z1,.d z2])) (fun acc=>some (1,[.d (il me),.d c1,.d c2,.d c3,.n acc.length,.n acc.length,.d c4,.r acc,.d z1,.d z2])) ((eX me e f).map rS):=by
 have:=iD 6 (by omega) (uB me e f) (wx (RP (n+5))) (wv (RP (n+5))) (fun i=>.d (il me)::.d c1::.d c2::.d c3::.d c4::.d (il i)::((dY e me f).map .d++[.d z1,.d z2]))
  (fun i acc=>.d (il me)::.d c1::.d c2::.d c3::.n acc.length::.n acc.length::.d c4::.d (il i)::((dY e me f).map .d++[.r acc,.d z1,.d z2])) (some (0,[.d (il me),.d c1,.d c2,.d c3,.d c4,.d z1,.d z2])) (fun acc=>some (1,[.d (il me),.d c1,.d c2,.d c3,.n acc.length,.n acc.length,.d c4,.r acc,.d z1,.d z2])) ?_ ?_ ?_ ?_
 ·rw [uA] at this
  exact this
 ·intro k;simp [wx,dY]
 ·intro k a t _;simp [wv,dY]
 ·intro i k hi hw
  have hfit:=nV (a:=0) (b:=1) (c:=32) (by omega) (by omega) (by omega)
  have h88:=Gv (n+4) e me f hi
  have h89:=s89 (n+3) e me hm f (o:=(i:Int)) (bn.2 ⟨by omega,by omega⟩)
  have hask:=(hr.2 i).2.1
  have hwn:IntKind.i64.wrap (f.no i+1)=f.no i+1:=by have:=(hr.2 i).1;exact cP (by omega) (by omega)
  simp only [dY,K0,Kb,K2,K7] at h88 h89 ⊢
  simp only [wx,cl,ae,aj,ah,aB,show ((i:Int) < 6) by omega,Jt,ac,Jv,ba,an,jE _ _ hb,h88,h89,ab,bM hi,aJ,aC,cQ hi,aH,bC hi,be,dh _ hi,eF _ _ _ _ (show (2:Int)≠0 by decide),ox,aO,aQ,Jy,K8,K4,aS,aN,List.take,aL,hfit,Kk,aF,hw,hwn,b5,uB,jZ]
  have hgd:kc me e.2 f i=(!decide ((i:Int)=me)&&(e.2.toNat.testBit i&&(gR (f.ask i)&&(aK me i (f.no i)&&(!cq me i f&&decide (f.no i < 99999)))))):=rfl
  by_cases h1:(i:Int)=me
  ·simp [h1,hgd]
  ·by_cases h2:e.2.toNat.testBit i=true
   ·cases h3:f.opn with
    | true=>simp [h1,h2]
    | false =>
     have hwan:gK me f i=f.ask i:=by simp [gK,h1]
     rcases Hh hask with h4 | h4
     ·have h4':gR (f.ask i)=false:=by simp [gR,h4]
      simp [h1,h2,hwan,h4,h4',hgd]
     ·have h4':gR (f.ask i)=true:=by simp [gR,h4]
      cases h5:aK me i (f.no i) with
      | false=>simp [h1,h2,hwan,h4,h4',h5,hgd]
      | true =>
       cases h6:cq me i f with
       | true=>simp [h1,h2,hwan,h4,h4',h5,h6,hgd]
       | false =>
        by_cases h7:f.no i < 99999
        ·have h7':¬ (99999≤f.no i):=by omega
         simp [h1,h2,hwan,h4,h4',h5,h6,h7,h7',hgd]
        ·have h7':99999≤f.no i:=by omega
         simp [h1,h2,hwan,h4,h4',h5,h6,h7,h7',hgd]
   ·simp [h1,h2,hgd]
 ·intro i k a t hi ha hw
  simp only [Jy] at ha
  have hfit:=tY (n:=t.length) 32 (by decide) (by omega)
  have hq:t.length≤9223372036854775805:=by omega
  have h88:=Gv (n+4) e me f hi
  have h89:=s89 (n+3) e me hm f (o:=(i:Int)) (bn.2 ⟨by omega,by omega⟩)
  have hask:=(hr.2 i).2.1
  have hwn:IntKind.i64.wrap (f.no i+1)=f.no i+1:=by have:=(hr.2 i).1;exact cP (by omega) (by omega)
  simp only [dY,K0,Kb,K2,K7] at h88 h89 ⊢
  simp only [wv,bp,ae,aj,aw,ax,av,aA,ah,aB,show ((i:Int) < 6) by omega,Jt,ac,Jv,ba,an,jE _ _ hb,h88,h89,ab,bM hi,aJ,aC,cQ hi,aH,bC hi,be,dh _ hi,eF _ _ _ _ (show (2:Int)≠0 by decide),ox,aO,aQ,Jy,K8,K4,aS,aN,List.take,aL,hfit,Kk,aF,hw,hwn,b5,uB,jZ]
  have hgd:kc me e.2 f i=(!decide ((i:Int)=me)&&(e.2.toNat.testBit i&&(gR (f.ask i)&&(aK me i (f.no i)&&(!cq me i f&&decide (f.no i < 99999)))))):=rfl
  by_cases h1:(i:Int)=me
  ·simp [h1,hgd]
  ·by_cases h2:e.2.toNat.testBit i=true
   ·cases h3:f.opn with
    | true=>simp [h1,h2]
    | false =>
     have hwan:gK me f i=f.ask i:=by simp [gK,h1]
     rcases Hh hask with h4 | h4
     ·have h4':gR (f.ask i)=false:=by simp [gR,h4]
      simp [h1,h2,hwan,h4,h4',hgd]
     ·have h4':gR (f.ask i)=true:=by simp [gR,h4]
      cases h5:aK me i (f.no i) with
      | false=>simp [h1,h2,hwan,h4,h4',h5,hgd]
      | true =>
       cases h6:cq me i f with
       | true=>simp [h1,h2,hwan,h4,h4',h5,h6,hgd]
       | false =>
        by_cases h7:f.no i < 99999
        ·have h7':¬ (99999≤f.no i):=by omega
         simp [h1,h2,hwan,h4,h4',h5,h6,h7,h7',hgd]
        ·have h7':99999≤f.no i:=by omega
         simp [h1,h2,hwan,h4,h4',h5,h6,h7,h7',hgd]
   ·simp [h1,h2,hgd]
theorem l26_3 (n:Nat) (e:aT) (hb:j7 e.2) {me:Int} (hm:dR me=true) (f:Fld) (hr:nG f) (c1 c2 c3 c4 z1 z2:D) (acc0:Rr) (hl0:acc0.length≤60000) :
  bh [wt (RP (n+5))] M0 0 (.d (il me)::.d c1::.d c2::.d c3::.n acc0.length::.n acc0.length::.d c4::.d (il 0)::((dY e me f).map .d++[.r acc0,.d z1,.d z2]))=(fun (acc:Rr)=>some (0,[.d (il me),.d c1,.d c2,.d c3,.n acc.length,.n acc.length,.d c4,.r acc,.d z1,.d z2])) (acc0++(eX me e f).map rS):=by
 have:=ew (β:=Rr) 6 (by omega) (wt (RP (n+5))) (fun i acc=>.d (il me)::.d c1::.d c2::.d c3::.n acc.length::.n acc.length::.d c4::.d (il i)::((dY e me f).map .d++[.r acc,.d z1,.d z2])) (fun i acc=>acc.length≤60000+i)
  (fun i acc=>(fun (acc:Rr)=>some (0,[.d (il me),.d c1,.d c2,.d c3,.n acc.length,.n acc.length,.d c4,.r acc,.d z1,.d z2])) (acc++(rg i).filterMap (uB me e f))) ?_ ?_ acc0 hl0
 ·rw [←yO,uA] at this
  exact this
 ·intro acc k _
  simp [wt,dY,rg]
 ·intro i acc k hi ha hw ih
  have ih0:=ih acc (by omega)
  have ih1:=ih (acc++[[il 1,il e.1,il i,il (f.no i+1)]]) (by simp;omega)
  rw [p8 hi,List.filterMap_cons]
  generalize (rg (i+1)).filterMap (uB me e f)=T at ih0 ih1 ⊢
  have hfit:=nV (a:=acc.length) (b:=1) (c:=32) (by omega) (by omega) (by omega)
  have hq:acc.length≤9223372036854775806:=by omega
  have h88:=Gv (n+4) e me f hi
  have h89:=s89 (n+3) e me hm f (o:=(i:Int)) (bn.2 ⟨by omega,by omega⟩)
  have hask:=(hr.2 i).2.1
  have hwn:IntKind.i64.wrap (f.no i+1)=f.no i+1:=by have:=(hr.2 i).1;exact cP (by omega) (by omega)
  simp only [dY,K0,Kb,K2,K7] at h88 h89 ih0 ih1 ⊢
  simp only [b5,Kc,Jy,K8,K4,Kh,K2,K7] at ih0 ih1
  simp only [wt,bp,ae,aj,aw,ax,av,aA,ah,aB,show ((i:Int) < 6) by omega,Jt,ac,Jv,ba,an,jE _ _ hb,h88,h89,ab,bM hi,aJ,aC,cQ hi,aH,bC hi,be,dh _ hi,eF _ _ _ _ (show (2:Int)≠0 by decide),ox,aO,aQ,Jy,K8,K4,aS,aN,List.take,aL,hfit,Kk,aF,hw,hwn,uB,jZ]
  have hgd:kc me e.2 f i=(!decide ((i:Int)=me)&&(e.2.toNat.testBit i&&(gR (f.ask i)&&(aK me i (f.no i)&&(!cq me i f&&decide (f.no i < 99999)))))):=rfl
  by_cases h1:(i:Int)=me
  ·subst h1
   simp [hgd]
   simpa using ih0
  ·by_cases h2:e.2.toNat.testBit i=true
   ·cases h3:f.opn with
    | true=>simp [h1,h2];simpa [h3] using ih0
    | false =>
     have hwan:gK me f i=f.ask i:=by simp [gK,h1]
     rcases Hh hask with h4 | h4
     ·have h4':gR (f.ask i)=false:=by simp [gR,h4]
      simp [h1,h2,hwan,h4,h4',hgd];simpa [h3] using ih0
     ·have h4':gR (f.ask i)=true:=by simp [gR,h4]
      cases h5:aK me i (f.no i) with
      | false=>simp [h1,h2,hwan,h4,h4',h5,hgd];simpa [h3] using ih0
      | true =>
       cases h6:cq me i f with
       | true=>simp [h1,h2,hwan,h4,h4',h5,h6,hgd];simpa [h3] using ih0
       | false =>
        by_cases h7:f.no i < 99999
        ·have h7':¬ (99999≤f.no i):=by omega
         simp [h1,h2,hwan,h4,h4',h5,h6,h7,h7',hgd];simpa [h3] using ih1
        ·have h7':99999≤f.no i:=by omega
         simp [h1,h2,hwan,h4,h4',h5,h6,h7,h7',hgd];simpa [h3] using ih0
   ·simp [h1,h2,hgd];simpa using ih0
end
end Go.VE
