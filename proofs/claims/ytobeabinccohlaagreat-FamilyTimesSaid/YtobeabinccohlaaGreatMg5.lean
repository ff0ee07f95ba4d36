/- Family: the types of the arguments: what data of them are. -/
import Derived.Test.YtobeabinccohlaaGreatMh
import Derived.Test.YtobeabinccohlaaGreatMg4
import Derived.Test.YtobeabinccohlaaGreatRows
set_option maxRecDepth 20000
namespace Go.VE
open Go.RowKit Go.Proofs Go.Proofs.YtobeabinccohlaaGreat
section
set_option maxRecDepth 100000
theorem M2:Tryz.prog.follows .mixedOrders=true:=lays21.mixed
theorem FN_ok (n:Nat):nG Tryz.prog (di tb Tryz.prog) (FN n):=Ow M2 Lk n
theorem Oy (n:Nat):pj Tryz.prog (di tb Tryz.prog) (FN n):=IT M2 Lk n
theorem own:ownKnob Tryz.prog.godebug=none:=by kernel_rfl
theorem GB:laidOutB Tryz.prog=true:=by kernel_rfl
theorem o3 {n:Nat} {ds:List D} (h:HasT Tryz.prog (n+1) 3 ds):∃ z,ds=[il z]∧-9223372036854775808≤z∧z≤9223372036854775807:=h.int Tryz.underlying3
theorem o47 {n:Nat} {ds:List D} (h:HasT Tryz.prog (n+2) 47 ds):∃ a b,ds=[il a,il b]:=by
 obtain ⟨a,b,rfl,h1,c,d,rfl,h2,rfl⟩:=h.struct Tryz.underlying47 rfl
 obtain ⟨x,rfl,_⟩:=o3 h1
 obtain ⟨y,rfl,_⟩:=o3 h2
 exact ⟨x,y,rfl⟩
theorem oE9 {n:Nat} {ds:List D} (h:gm (HasT Tryz.prog (n+2)) [3,3,3,47,47,3,3] ds):∃ e:E9,ds=r9 e:=by
 obtain ⟨a1,b1,rfl,h1,a2,b2,rfl,h2,a3,b3,rfl,h3,a4,b4,rfl,h4,a5,b5,rfl,h5,a6,b6,rfl,h6,a7,b7,rfl,h7,rfl⟩:=h
 obtain ⟨x1,rfl,_⟩:=o3 h1
 obtain ⟨x2,rfl,_⟩:=o3 h2
 obtain ⟨x3,rfl,_⟩:=o3 h3
 obtain ⟨y1,y2,rfl⟩:=o47 h4
 obtain ⟨z1,z2,rfl⟩:=o47 h5
 obtain ⟨x6,rfl,_⟩:=o3 h6
 obtain ⟨x7,rfl,_⟩:=o3 h7
 exact ⟨⟨x1,x2,x3,y1,y2,z1,z2,x6,x7⟩,rfl⟩
theorem o82 {n:Nat} {ds:List D} (h:HasT Tryz.prog (n+3) 82 ds):∃ e:E5,ds=r5 e:=by
 obtain ⟨a1,b1,rfl,h1,a2,b2,rfl,h2,a3,b3,rfl,h3,a4,b4,rfl,h4,a5,b5,rfl,h5,rfl⟩:=h.struct Tryz.underlying82 rfl
 obtain ⟨x1,rfl,_⟩:=o3 h1
 obtain ⟨x2,rfl,_⟩:=o3 h2
 obtain ⟨x3,rfl,_⟩:=o3 h3
 obtain ⟨x4,rfl,_⟩:=o3 h4
 obtain ⟨x5,rfl,_⟩:=o3 h5
 exact ⟨⟨x1,x2,x3,x4,x5⟩,rfl⟩
theorem qb {α:Type} {f:α→List D}:∀ {o:Option Rr},(∀ r∈o.getD [],∃ c,r=f c)→∃ q:Option (List α),o=q.map (·.map f)
 | none,_=>⟨none,rfl⟩
 | some rows,h=>by
  obtain ⟨l,hl⟩:=vw (f:=f) (rows:=rows) h
  exact ⟨some l,by rw [hl];rfl⟩
theorem yw {n t e:Nat} {ds:List D} (hu:Tryz.prog.underlying t=some (.slice e)) (hc:Tryz.prog.cellsOf e=9) (hb:Tryz.prog.bytesOf e=72) (he:∀ r,HasT Tryz.prog (n+3) e r→∃ x:E9,r=r9 x) (h:HasT Tryz.prog (n+4) t ds):∃ o:Option (List E9),ds=[d9 o]∧(o.getD []).length*72≤140737488351232:=by
 obtain ⟨o,rfl,h1,h2⟩:=h.sl hu hc hb
 obtain ⟨q,rfl⟩:=qb (f:=r9) fun r hr=>he r (h2 r hr)
 refine ⟨q,rfl,?_⟩
 cases q with
 | none=>simp
 | some l=>simpa using h1
theorem o50 {n:Nat} {r:List D} (h:HasT Tryz.prog (n+3) 50 r):∃ x:E9,r=r9 x:=oE9 (h.struct Tryz.underlying50 rfl)
theorem o52 {n:Nat} {r:List D} (h:HasT Tryz.prog (n+3) 52 r):∃ x:E9,r=r9 x:=oE9 (h.struct Tryz.underlying52 rfl)
theorem o54 {n:Nat} {r:List D} (h:HasT Tryz.prog (n+3) 54 r):∃ x:E9,r=r9 x:=oE9 (h.struct Tryz.underlying54 rfl)
theorem o25 {n:Nat} {ds:List D} (h:HasT Tryz.prog (n+4) 25 ds):∃ o:Option (List E5),ds=[d5 o]∧(o.getD []).length*40≤140737488351232:=by
 obtain ⟨o,rfl,h1,h2⟩:=h.sl (c:=5) (b:=40) Tryz.underlying25 (by kernel_rfl) (by kernel_rfl)
 obtain ⟨q,rfl⟩:=qb (f:=r5) fun r hr=>o82 (h2 r hr)
 refine ⟨q,rfl,?_⟩
 cases q with
 | none=>simp
 | some l=>simpa using h1
theorem o27 {n:Nat} {ds:List D} (h:HasT Tryz.prog (n+5) 27 ds):∃ (a b c:Option (List E9)) (o:Option (List E5)),ds=[d9 a,d9 b,d9 c,d5 o]∧(a.getD []).length*72≤140737488351232∧(b.getD []).length*72≤140737488351232∧(c.getD []).length*72≤140737488351232∧(o.getD []).length*40≤140737488351232:=by
 obtain ⟨a1,b1,rfl,h1,a2,b2,rfl,h2,a3,b3,rfl,h3,a4,b4,rfl,h4,rfl⟩:=h.struct Tryz.underlying27 rfl
 obtain ⟨a,rfl,ha⟩:=yw Tryz.underlying22 (by kernel_rfl) (by kernel_rfl) (fun r hr=>o50 hr) h1
 obtain ⟨b,rfl,hb⟩:=yw Tryz.underlying23 (by kernel_rfl) (by kernel_rfl) (fun r hr=>o52 hr) h2
 obtain ⟨c,rfl,hc⟩:=yw Tryz.underlying24 (by kernel_rfl) (by kernel_rfl) (fun r hr=>o54 hr) h3
 obtain ⟨o,rfl,ho⟩:=o25 h4
 exact ⟨a,b,c,o,rfl,ha,hb,hc,ho⟩
theorem o29 {n:Nat} {ds:List D} (h:HasT Tryz.prog (n+2) 29 ds):∃ p f d k,ds=[il p,il f,il d,il k]:=by
 obtain ⟨a1,b1,rfl,h1,a2,b2,rfl,h2,a3,b3,rfl,h3,a4,b4,rfl,h4,rfl⟩:=h.struct Tryz.underlying29 rfl
 obtain ⟨x1,rfl,_⟩:=o3 h1
 obtain ⟨x2,rfl,_⟩:=o3 h2
 obtain ⟨x3,rfl,_⟩:=o3 h3
 obtain ⟨x4,rfl,_⟩:=o3 h4
 exact ⟨x1,x2,x3,x4,rfl⟩
theorem wT (ok:Bool) (f:Int) (ds:List Int):aQ ok true true 1 f ds=aQ ok false true 0 f ds:=by
 unfold aQ;simp
end
end Go.VE
namespace Go.VE
open Go.RowKit Go.Proofs
section
theorem EG {l:List Int} {f:Int} (h:d0 l f=1):l=[f]:=by
 unfold d0 at h
 split at h
 ·rename_i hm
  split at h
  ·cases h
  ·rename_i hl
   cases l with
   | nil=>simp at hm
   | cons x r =>
    cases r with
    | nil=>simp at hm;rw [hm]
    | cons y r=>simp at hl
 ·cases h
end
section
structure Nar1 (x e:E9):Prop where
 src:x.src=e.src
 a:x.a=e.a
 b:x.b=e.b
 kn:x.kn=e.kn
 un:x.un=e.un
 f:e.f1≤x.f1∧x.f1≤x.f2∧x.f2≤e.f2
 t:e.t1≤x.t1∧x.t1≤x.t2∧x.t2≤e.t2
def NarL:List E9→List E9→Prop
 | [],[]=>True
 | x::l,e::m=>Nar1 x e∧NarL l m
 | _,_=>False
theorem NarL.app:∀ {l1 m1 l2 m2:List E9},NarL l1 m1→NarL l2 m2→NarL (l1++l2) (m1++m2)
 | [],[],_,_,_,h=>h
 | _::_,_::_,_,_,h1,h2=>⟨h1.1,NarL.app h1.2 h2⟩
theorem NarL.rev:∀ {l m:List E9},NarL l m→NarL l.reverse m.reverse
 | [],[],_=>trivial
 | x::l,e::m,h=>by
  rw [Xp,Xp]
  exact NarL.app (NarL.rev h.2) ⟨h.1,trivial⟩
theorem NarL.len:∀ {l m:List E9},NarL l m→l.length=m.length
 | [],[],_=>rfl
 | x::l,e::m,h=>by simp [NarL.len h.2]
theorem j9 (l:List E9):below l l.length=l.reverse:=by simp [below]
theorem NarL.below {l m:List E9} (h:NarL l m):NarL (below l l.length) (below m m.length):=by
 rw [j9,j9];exact h.rev
theorem NarL.cnt (k:Int):∀ {l m:List E9},NarL l m→NarL (au k l) (au k m)
 | [],[],_=>trivial
 | x::l,e::m,h=>by
  have ih:=NarL.cnt k h.2
  unfold au at ih ⊢
  rw [List.filter_cons,List.filter_cons,h.1.kn,h.1.un]
  split
  ·exact ⟨h.1,ih⟩
  ·exact ih
theorem NarL.mem:∀ {l m:List E9},NarL l m→∀ x∈l,∃ e∈m,Nar1 x e
 | [],[],_,x,hx=>by simp at hx
 | y::l,e::m,h,x,hx=>by
  rcases Ti.1 hx with rfl | hx
  ·exact ⟨e,by simp,h.1⟩
  ·obtain ⟨e',h1,h2⟩:=NarL.mem h.2 x hx
   exact ⟨e',by simp [h1],h2⟩
theorem Nar1.rfl' {e:E9} (h:e.f1≤e.f2∧e.t1≤e.t2):Nar1 e e:=⟨rfl,rfl,rfl,rfl,rfl,⟨by omega,h.1,by omega⟩,⟨by omega,h.2,by omega⟩⟩
theorem NarL.rfl':∀ {l:List E9},(∀ e∈l,e.f1≤e.f2∧e.t1≤e.t2)→NarL l l
 | [],_=>trivial
 | e::l,h=>⟨Nar1.rfl' (h e (by simp)),NarL.rfl' fun e he=>h e (by simp [he])⟩
theorem NarL.set:∀ {l:List E9} {i:Nat} {x e:E9},(∀ e∈l,e.f1≤e.f2∧e.t1≤e.t2)→l[i]?=some e→Nar1 x e→NarL (l.set i x) l
 | [],i,x,e,_,h,_=>by simp at h
 | y::l,0,x,e,h,hi,hx=>by
  simp at hi;subst hi
  exact ⟨hx,NarL.rfl' fun e he=>h e (by simp [he])⟩
 | y::l,i+1,x,e,h,hi,hx=>⟨Nar1.rfl' (h y (by simp)),NarL.set (fun e he=>h e (by simp [he])) (by simpa using hi) hx⟩
theorem gQ {d who:Int} {o:Option Int}:∀ {l m:List E9},NarL l m→o∈aG d who l→o∈aG d who m
 | [],[],_,h=>h
 | x::l,e::m,hn,h=>by
  have ih:o∈aG d who l→o∈aG d who m:=gQ hn.2
  obtain ⟨h1,h2⟩:=hn
  have hf:=h1.f;have ht:=h1.t;have ha:=h1.a;have hb:=h1.b
  rw [aG] at h ⊢
  have may:bh x.f1 x.t2 d=true→bh e.f1 e.t2 d=true:=fun h=>by unfold bh at h ⊢;have:=Vw h;exact Xa (by omega)
  have sur:bq e.f2 e.t1 d=true→bq x.f2 x.t1 d=true∧bh x.f1 x.t2 d=true:=fun h=>by
   unfold bq at h;have:=Vw h
   exact ⟨by unfold bq;exact Xa (by omega),by unfold bh;exact Xa (by omega)⟩
  by_cases hc:x.a=who∧bh x.f1 x.t2 d=true
  ·rw [T1 hc] at h
   rw [T1 ⟨by rw [←ha];exact hc.1,may hc.2⟩]
   rcases Ti.1 h with h | h
   ·rw [h,hb];simp
   ·refine Ts _ ?_
    by_cases hs:bq e.f2 e.t1 d=true
    ·rw [T1 (sur hs).1] at h;simp at h
    ·rw [T5 hs]
     split at h
     ·simp at h
     ·exact ih h
  ·rw [T5 hc] at h
   by_cases hc2:e.a=who∧bh e.f1 e.t2 d=true
   ·rw [T1 hc2]
    refine Ts _ ?_
    have hs:¬ bq e.f2 e.t1 d=true:=fun hs=>hc ⟨by rw [ha];exact hc2.1,(sur hs).2⟩
    rw [T5 hs];exact ih h
   ·rw [T5 hc2];exact ih h
theorem ky {l m:List E9} (h:NarL l m) (hm:dh m):dh l:=fun x hx=>by
 obtain ⟨e,he,hn⟩:=h.mem x hx
 have:=hm e he
 rw [hn.a,hn.b];exact this
theorem Cp {d z:Int} {l m:List E9} (h:NarL l m) (hm:dh m):∀ (n:Nat) (f:Int),f.toNat≤n→1≤f→z∈aj d l f→z∈aj d m f:=by
 intro n
 induction n with
 | zero=>intro f h1 h2;omega
 | succ n ih =>
  intro f h1 h2 hz
  rcases (cv (ky h hm) h2).1 hz with ⟨h3,h4⟩ | ⟨w,hw,h3⟩
  ·exact (cv hm h2).2 (.inl ⟨gQ h.below h3,h4⟩)
  ·have hw':=gQ h.below hw
   have:=co hm hw'
   exact (cv hm h2).2 (.inr ⟨w,hw',ih w (by omega) this.1 h3⟩)
theorem sI {d p z:Int} {l m:List E9} (h:NarL l m) (hz:z∈aY d p l):z∈aY d p m:=by
 obtain ⟨x,hx,rfl⟩:=(bb ..).1 hz
 exact (bb ..).2 ⟨x,gQ h.below hx,rfl⟩
theorem lz {l m:List (Option Int)} (h:∀ x∈l,x∈m) {p q:Option Int→Bool} (hpq:∀ x∈l,p x=true→q x=true) (hl:l.any p=true):m.any q=true:=by
 obtain ⟨x,hx,hp⟩:=(cN _ _).1 hl
 exact (cN _ _).2 ⟨x,h x hx,hpq x hx hp⟩
theorem v7 {a c a' c':List E9} (o:List E5) {d:Int} (ha:NarL a' a) (hc:NarL c' c) (p:Int):((bm a' c' o d p).1=true→(bm a c o d p).1=true)∧((bm a' c' o d p).2=true→(bm a c o d p).2=true):=by
 unfold bm
 cases dJ d p o with
 | true=>exact ⟨fun h=>h,fun h=>h⟩
 | false =>
  simp only [T0,T9,Te,Vl]
  have s1:∀ x∈aG d p (below a' a'.length),x∈aG d p (below a a.length):=fun x hx=>gQ ha.below hx
  have s2:∀ x∈aG d p (below c' c'.length),x∈aG d p (below c c.length):=fun x hx=>gQ hc.below hx
  exact ⟨fun h=>⟨lz s1 (fun _ _ h=>h) h.1,lz s2 (fun _ _ h=>h) h.2⟩,fun h=>h.elim (fun h=>.inl (lz s1 (fun _ _ h=>h) h)) (fun h=>.inr (lz s2 (fun _ _ h=>h) h))⟩
theorem vj {W V:Int→Bool×Bool} (h:∀ p,((W p).1=true→(V p).1=true)∧((W p).2=true→(V p).2=true)) (x:Option Int):((ba W x).1=true→(ba V x).1=true)∧((ba W x).2=true→(ba V x).2=true):=by
 cases x with
 | none=>exact ⟨fun h=>h,fun h=>h⟩
 | some z =>
  simp only [ba]
  split
  ·exact ⟨fun h=>h,fun h=>h⟩
  ·exact h z
theorem EE {a c a' c':List E9} (o:List E5) {d:Int} (ha:NarL a' a) (hc:NarL c' c) (p:Int):((fy a' c' o d p).1=true→(fy a c o d p).1=true)∧((fy a' c' o d p).2=true→(fy a c o d p).2=true):=by
 unfold fy
 cases dJ d p o with
 | true=>exact ⟨fun h=>h,fun h=>h⟩
 | false =>
  simp only [T0,T9]
  have s2:∀ x∈aG d p (below c' c'.length),x∈aG d p (below c c.length):=fun x hx=>gQ hc.below hx
  exact ⟨lz s2 fun x _=>(vj (v7 o ha hc) x).1,lz s2 fun x _=>(vj (v7 o ha hc) x).2⟩
theorem H3 {a b c a' b' c':List E9} (o:List E5) {d p z:Int} (ha:NarL a' a) (hb:NarL b' b) (hc:NarL c' c) (hl:dh b) (hf:my a) (h:z∈bC a' b' c' o d p):z∈bC a b c o d p:=by
 rcases cz.1 h with ⟨h1,h2⟩ | ⟨h1,f,h2,h3,h4⟩
 ·exact cz.2 (.inl ⟨h1,h2.elim (fun h=>.inl (sI ha h)) (fun h=>.inr ((EE o ha hc p).2 h))⟩)
 ·have hh:=sI ha h2
  have:=cl hf hh
  exact cz.2 (.inr ⟨(EE o ha hc p).1 h1,f,hh,h3,Cp hb hl _ f (Tf _) (by omega) h4⟩)
theorem GoodK.nar {a b c a' b' c':List E9} {o:List E5} (g:GoodK a b c o) (ha:NarL a' a) (hb:NarL b' b) (hc:NarL c' c):GoodK a' b' c' o :=
 ⟨fun x hx=>by obtain ⟨e,he,hn⟩:=ha.mem x hx;rw [hn.b];exact g.fam e he,ky hb g.less,fun x hx=>by obtain ⟨e,he,hn⟩:=hc.mem x hx;rw [hn.b];exact g.by0 e he,by rw [ha.len];exact g.la,by rw [hb.len];exact g.lb,by rw [hc.len];exact g.lc,g.lo⟩
end
section
def modI (a b:Int):Int:=(a.tmod b+b).tmod b
end
section
theorem MZ {Fn:Nat→List D→aq} {FnD:D→List Sh→List D→aq} {m:Nat} {X:aq} (V:aq) {ks:List (List Yr→aq)} {R:aq} (h1:X=V) (h2:(af Fn FnD m).bnd V ks=R):(af Fn FnD m).bnd X ks=R:=by rw [h1];exact h2
theorem BX (l:List E9):(l.map r9).take l.length=l.map r9:=Vc (by simp)
end
section
section
variable {Fn:Nat→List D→aq} {FnD:D→List Sh→List D→aq} {m:Nat}
end
end
section
theorem NarL.as:∀ {l m:List E9},NarL l m→l.map (·.a)=m.map (·.a)
 | [],[],_=>rfl
 | x::l,e::m,h=>by rw [Tl,Tl,h.1.a,NarL.as h.2]
end
section
structure T2 where
 b:Int
 e:Int
def rT (t:T2):List D:=[il t.b,il t.e]
def dT (o:Option (List T2)):D:=dR 2 (o.map (·.map rT))
def Cu (t:T2) (e:E9):Bool:=decide (e.f1≤t.b∧t.b≤e.f2∧e.t1≤t.e∧t.e≤e.t2)
def qB (t:T2) (e:E9):E9:={ e with f1:=t.b,f2:=t.b,t1:=t.e,t2:=t.e }
def bi:List T2→List E9→List E9
 | t::ts,e::l=>qB t e::bi ts l
 | _,_=>[]
def gV:List T2→List E9→Bool
 | t::ts,e::l=>Cu t e&&gV ts l
 | [],[]=>true
 | _,_=>false
theorem da:∀ {ts:List T2} {l:List E9},gV ts l=true→ts.length=l.length
 | [],[],_=>rfl
 | t::ts,e::l,h=>by
  rw [gV,Te] at h
  simp [da h.2]
theorem fe:∀ {ts:List T2} {l:List E9},ts.length=l.length→(bi ts l).length=l.length
 | [],[],_=>rfl
 | t::ts,e::l,h=>by
  simp only [bi,Tb,fe (ts:=ts) (l:=l) (by simpa using h)]
theorem c9:∀ {ts:List T2} {l:List E9},gV ts l=true→NarL (bi ts l) l
 | [],[],_=>trivial
 | t::ts,e::l,h=>by
  rw [gV,Te] at h
  have:=Vw h.1
  exact ⟨⟨rfl,rfl,rfl,rfl,rfl,⟨this.1,Xz _,this.2.1⟩,⟨this.2.2.1,Xz _,this.2.2.2⟩⟩,c9 h.2⟩
def xU (l:List E9):Prop:=∀ e∈l,e.f1=e.f2∧e.t1=e.t2
theorem fc:∀ (ts:List T2) (l:List E9),xU (bi ts l)
 | t::ts,e::l=>fun x hx=>by
  rcases Ti.1 hx with rfl | hx
  ·exact ⟨rfl,rfl⟩
  ·exact fc ts l x hx
 | [],[]=>fun x hx=>by simp [bi] at hx
 | [],_::_=>fun x hx=>by simp [bi] at hx
 | _::_,[]=>fun x hx=>by simp [bi] at hx
theorem l8 (d who:Int):∀ {l:List E9},xU l→∃ x,aG d who l=[x]
 | [],_=>⟨none,rfl⟩
 | e::r,h=>by
  have h0:=h e (by simp)
  rw [aG]
  by_cases hc:e.a=who∧bh e.f1 e.t2 d=true
  ·rw [T1 hc,T1 (by rw [bq,← h0.1,h0.2];exact hc.2)]
   exact ⟨_,rfl⟩
  ·rw [T5 hc]
   exact l8 d who fun x hx=>h x (by simp [hx])
theorem k9 {l:List E9} (h:xU l) (m:Nat):xU (below l m):=fun x hx=>h x (e8 hx)
section
variable {a b c:List E9} {o:List E5} {d p:Int}
theorem zW (ha:xU a) (hc:xU c) (p:Int):(bm a c o d p).2=!(bm a c o d p).1:=by
 unfold bm
 obtain ⟨x,hx⟩:=l8 d p (k9 ha a.length)
 obtain ⟨y,hy⟩:=l8 d p (k9 hc c.length)
 rw [hx,hy]
 split
 ·rfl
 ·by_cases h:f0 x=0<;>cases y<;>simp [h]
theorem K6 (ha:xU a) (hc:xU c):(fy a c o d p).2=!(fy a c o d p).1:=by
 unfold fy
 obtain ⟨y,hy⟩:=l8 d p (k9 hc c.length)
 rw [hy]
 split
 ·rfl
 ·cases y with
  | none=>rfl
  | some z =>
   simp only [W2,List.any_nil,Bool.or_false,ba]
   split
   ·rfl
   ·exact zW ha hc z
theorem u6 (ha:xU a) {z z':Int} (h:z∈aY d p a) (h':z'∈aY d p a):z=z':=by
 obtain ⟨x,hx⟩:=l8 d p (k9 ha a.length)
 rw [bb,hx] at h h'
 obtain ⟨q,hq,rfl⟩:=h
 obtain ⟨q',hq',rfl⟩:=h'
 rw [Tw] at hq hq'
 rw [hq,hq']
theorem Gz (hb:xU b) (hl:dh b) {z z':Int}:∀ (n:Nat) (f:Int),f.toNat≤n→1≤f→z∈aj d b f→z'∈aj d b f→z=z':=by
 intro n
 induction n with
 | zero=>intro f h1 h2;omega
 | succ n ih =>
  intro f h1 h2 h h'
  obtain ⟨x,hx⟩:=l8 d f (k9 hb b.length)
  rw [cv hl h2] at h h'
  have hm:∀ w,some w∈aG d f (below b b.length)→1≤w∧w < f:=fun w hw=>⟨(co hl hw).1,(co hl hw).2.1⟩
  rw [hx] at h h' hm
  cases x with
  | none =>
   rcases h with ⟨_,h⟩ | ⟨w,hw,_⟩
   ·rcases h' with ⟨_,h'⟩ | ⟨w,hw,_⟩
    ·rw [h,h']
    ·simp at hw
   ·simp at hw
  | some y =>
   rcases h with ⟨hn,_⟩ | ⟨w,hw,h⟩
   ·simp at hn
   ·rcases h' with ⟨hn,_⟩ | ⟨w',hw',h'⟩
    ·simp at hn
    ·have h1':=hm w hw
     rw [Tw] at hw hw'
     cases hw;cases hw'
     exact ih y (by omega) h1'.1 h h'
theorem MQ (ha:xU a) (hb:xU b) (hc:xU c) (hl:dh b) (hf:my a):∃ f,bC a b c o d p=[f]:=by
 have one:∀ z z':Int,z∈bC a b c o d p→z'∈bC a b c o d p→z=z':=fun z z' h h'=>by
  have hg:=K6 (o:=o) (d:=d) (p:=p) ha hc
  rw [cz] at h h'
  rcases h with ⟨h1,h2⟩ | ⟨h1,f,h2,h3,h4⟩
  ·rcases h' with ⟨h1',h2'⟩ | ⟨h1',f',h2',h3',h4'⟩
   ·rw [h1,h1']
   ·rcases h2 with h2 | h2
    ·exact absurd (u6 ha h2' h2) h3'
    ·rw [h1'] at hg;rw [hg] at h2;cases h2
  ·rcases h' with ⟨h1',h2'⟩ | ⟨h1',f',h2',h3',h4'⟩
   ·rcases h2' with h2' | h2'
    ·exact absurd (u6 ha h2 h2') h3
    ·rw [h1] at hg;rw [hg] at h2';cases h2'
   ·have:=u6 ha h2 h2';subst this
    have hr:=cl hf h2
    exact Gz hb hl _ f (Tf _) (by omega) h4 h4'
 obtain ⟨z,hz⟩:=mn (c:=c) (o:=o) (d:=d) (p:=p) hf hl
 have hu:=dK a b c o d p
 refine ⟨z,tt hu (by simp [Up]) fun y=>?_⟩
 rw [Tw]
 exact ⟨fun h=>one _ _ h hz,fun h=>h ▸ hz⟩
end
def pb (a b c:List E9) (o:List E5) (d p:Int):Int:=(bC a b c o d p).headD 0
theorem yb {a b c:List E9} {o:List E5} {d p:Int} (ha:xU a) (hb:xU b) (hc:xU c) (hl:dh b) (hf:my a):bC a b c o d p=[pb a b c o d p]:=by
 obtain ⟨f,h⟩:=MQ (o:=o) (d:=d) (p:=p) ha hb hc hl hf
 unfold pb
 rw [h];rfl
structure TrueT (a b c:List E9) (ta tb tc:List T2):Prop where
 a:gV ta a=true
 b:gV tb b=true
 c:gV tc c=true
def jM (a b c:List E9) (o:List E5) (ta tb tc:List T2) (d p:Int):Int:=pb (bi ta a) (bi tb b) (bi tc c) o d p
section
variable {a b c:List E9} {o:List E5} {ta tb tc:List T2} {d p:Int}
theorem FY (g:GoodK a b c o) (t:TrueT a b c ta tb tc):jM a b c o ta tb tc d p∈bC a b c o d p:=by
 have na:=c9 t.a;have nb:=c9 t.b;have nc:=c9 t.c
 have g':=g.nar na nb nc
 refine H3 o na nb nc g.less g.fam ?_
 rw [yb (fc ta a) (fc tb b) (fc tc c) g'.less g'.fam]
 simp [jM]
theorem A0 (g:GoodK a b c o) (t:TrueT a b c ta tb tc) (f:Int):(d0 (bC a b c o d p) f=1→jM a b c o ta tb tc d p=f)∧(d0 (bC a b c o d p) f=0→jM a b c o ta tb tc d p≠f):=by
 have hm:=FY (d:=d) (p:=p) g t
 refine ⟨fun h=>?_,fun h hf=>?_⟩
 ·rw [EG h] at hm
  simpa using hm
 ·rw [hf] at hm
  unfold d0 at h
  rw [T1 hm] at h
  split at h<;>cases h
theorem EI:∀ {ts:List T2} {l:List E9},ts.length=l.length→(bi ts l).map (·.a)=l.map (·.a)
 | [],[],_=>rfl
 | t::ts,e::l,h=>by
  simp only [bi,Tl,EI (ts:=ts) (l:=l) (by simpa using h)]
  rfl
end
end
section
section
variable {Fn:Nat→List D→aq} {FnD:D→List Sh→List D→aq} {m:Nat}
theorem Cm (o:Option (List T2)) (k:D→aq):(af Fn FnD m).lenD (dT o) k=k (il (o.getD []).length):=by rw [dT,kZ,fT,Tj]
theorem lB {o:Option (List T2)} {i:Nat} {c:T2} (h:(o.getD [])[i]?=some c) (k:List D→aq):(af Fn FnD m).rowD 2 (dT o) (il i) k=k (rT c):=by
 rw [dT,iQ,T1 (by omega),fT,V0,Tm,h];rfl
theorem EX {l:List T2} {e0:List Yr} {e1:Rr→List Yr} {k0 k1:List Yr→aq} {R:D→aq} (h0:k0 e0=R (.lit (.slice none 0 0))) (h1:∀ w ws,(w::ws).length=l.length→k1 (e1 (w::ws))=R (.sl 2 (w::ws))) :
  (af Fn FnD m).bnd (ff e0 e1 (l.map rT)) [k0,k1]=R (dT (bx l)):=by
 cases l with
 | nil=>exact h0
 | cons w ws=>exact h1 (rT w) (ws.map rT) (by simp)
end
def pick (P:List Int) (z:Int):Int:=(P[(modI z P.length).toNat]?).getD 0
end
section
theorem Lt (n:Nat) (t:T2) (e:E9):FN (n+2) 185 [il t.b,il t.e,il e.f1,il e.f2,il e.t1,il e.t2]=some (0,[.d (bl (Cu t e))]):=by
 rw [FS,HW]
 simp only [G185,ah,vn,ab,ac,aa,aK,ao,Cu]
 by_cases h:e.f1≤t.b∧t.b≤e.f2
 ·simp [h]
 ·have:¬ (e.f1≤t.b∧t.b≤e.f2∧e.t1≤t.e∧t.e≤e.t2):=fun h'=>h ⟨h'.1,h'.2.1⟩
  simp only [h,Tk,T0,T9,this]
theorem lq {α:Type} {l:List α} {i:Nat} (h:i < l.length):∃ t,l[i]?=some t∧l.drop i=t::l.drop (i+1):=⟨l[i],Tc h,Vt h⟩
theorem Mv (n:Nat) (ts:Option (List T2)) (o:Option (List E9)) (hl:(o.getD []).length≤4611686018427387904) (he:(ts.getD []).length=(o.getD []).length) (x1 x2 x3 x5 x6:D) :
  ax [rC (RP (n+2))] M0 0 [d9 o,x1,x2,x3,dT ts,x5,x6,d9 o,il (o.getD []).length,il 0]=if gV (ts.getD []) (o.getD [])=true then some (1,[.d (d9 o),.d x1,.d x2,.d x3,.d (dT ts),.d x5,.d x6]) else some (0,[.d (bl false)]):=by
 have:=be (β:=Unit) (o.getD []) hl (rC (RP (n+2))) (fun i _=>[.d (d9 o),.d x1,.d x2,.d x3,.d (dT ts),.d x5,.d x6,.d (d9 o),.d (il (o.getD []).length),.d (il (i:Nat))]) (fun _ _=>True)
  (fun i r _=>if gV ((ts.getD []).drop i) r=true then some (1,[.d (d9 o),.d x1,.d x2,.d x3,.d (dT ts),.d x5,.d x6]) else some (0,[.d (bl false)]))
  (fun _ q _=>by rw [←he,Vp];simp [rC,gV,he]) ?_ M0 () trivial (cj hl)
 ·simpa using this
 ·intro i e r _ q hi hd hlt hw _ ih
  have ih':=ih () trivial
  have hlt':(i:Int) < ((o.getD []).length:Int):=by omega
  obtain ⟨t,ht,hdt⟩:=lq (l:=ts.getD []) (i:=i) (by omega)
  rw [hdt,gV]
  simp only [rC,ac,ag,aC,aa,hlt',T8,T6,ct hi,lB ht,rT,r9,ak,ar,ah,Lt n t e,ab,aP,aK,ao,ae,ay,hw]
  cases hq:Cu t e with
  | false=>simp
  | true =>
   simp only [Tu,T0,T9,V7]
   exact ih'
theorem Mu (n:Nat) (ts:Option (List T2)) (o:Option (List E9)) (hl:(o.getD []).length≤4611686018427387904) (he:(ts.getD []).length=(o.getD []).length) (x0 x2 x3 x4 x6:D) :
  ax [rB (RP (n+2))] M0 0 [x0,d9 o,x2,x3,x4,dT ts,x6,d9 o,il (o.getD []).length,il 0]=if gV (ts.getD []) (o.getD [])=true then some (1,[.d x0,.d (d9 o),.d x2,.d x3,.d x4,.d (dT ts),.d x6]) else some (0,[.d (bl false)]):=by
 have:=be (β:=Unit) (o.getD []) hl (rB (RP (n+2))) (fun i _=>[.d x0,.d (d9 o),.d x2,.d x3,.d x4,.d (dT ts),.d x6,.d (d9 o),.d (il (o.getD []).length),.d (il (i:Nat))]) (fun _ _=>True)
  (fun i r _=>if gV ((ts.getD []).drop i) r=true then some (1,[.d x0,.d (d9 o),.d x2,.d x3,.d x4,.d (dT ts),.d x6]) else some (0,[.d (bl false)]))
  (fun _ q _=>by rw [←he,Vp];simp [rB,gV,he]) ?_ M0 () trivial (cj hl)
 ·simpa using this
 ·intro i e r _ q hi hd hlt hw _ ih
  have ih':=ih () trivial
  have hlt':(i:Int) < ((o.getD []).length:Int):=by omega
  obtain ⟨t,ht,hdt⟩:=lq (l:=ts.getD []) (i:=i) (by omega)
  rw [hdt,gV]
  simp only [rB,ac,ag,aC,aa,hlt',T8,T6,ct hi,lB ht,rT,r9,ak,ar,ah,Lt n t e,ab,aP,aK,ao,ae,ay,hw]
  cases hq:Cu t e with
  | false=>simp
  | true =>
   simp only [Tu,T0,T9,V7]
   exact ih'
theorem Mt (n:Nat) (ts:Option (List T2)) (o:Option (List E9)) (hl:(o.getD []).length≤4611686018427387904) (he:(ts.getD []).length=(o.getD []).length) (x0 x1:D) :
  ax [rA (RP (n+2))] M0 0 [x0,x1,dT ts,d9 o,il (o.getD []).length,il 0]=if gV (ts.getD []) (o.getD [])=true then some (1,[]) else some (0,[.d (bl false)]):=by
 have:=be (β:=Unit) (o.getD []) hl (rA (RP (n+2))) (fun i _=>[.d x0,.d x1,.d (dT ts),.d (d9 o),.d (il (o.getD []).length),.d (il (i:Nat))]) (fun _ _=>True)
  (fun i r _=>if gV ((ts.getD []).drop i) r=true then some (1,[]) else some (0,[.d (bl false)]))
  (fun _ q _=>by rw [←he,Vp];simp [rA,gV,he]) ?_ M0 () trivial (cj hl)
 ·simpa using this
 ·intro i e r _ q hi hd hlt hw _ ih
  have ih':=ih () trivial
  have hlt':(i:Int) < ((o.getD []).length:Int):=by omega
  obtain ⟨t,ht,hdt⟩:=lq (l:=ts.getD []) (i:=i) (by omega)
  rw [hdt,gV]
  simp only [rA,ac,ag,aC,aa,hlt',T8,T6,ct hi,lB ht,rT,r9,ak,ar,ah,Lt n t e,ab,aP,aK,ao,ae,ay,hw]
  cases hq:Cu t e with
  | false=>simp
  | true =>
   simp only [Tu,T0,T9,V7]
   exact ih'
def zq (a b c:List E9) (ta tb tc:List T2):Bool:=gV ta a&&(gV tb b&&gV tc c)
theorem jb {a b c:List E9} {ta tb tc:List T2}:zq a b c ta tb tc=true↔TrueT a b c ta tb tc:=by
 unfold zq
 simp only [Te]
 exact ⟨fun h=>⟨h.1,h.2.1,h.2.2⟩,fun h=>⟨h.a,h.b,h.c⟩⟩
theorem o9 {ts:List T2} {l:List E9} (h:¬ ts.length=l.length):gV ts l=false:=by
 cases hq:gV ts l with
 | false=>rfl
 | true=>exact absurd (da hq) h
theorem s108 (n:Nat) (a b c:Option (List E9)) (O:D) (ta tb tc:Option (List T2)) (ha:(a.getD []).length≤4611686018427387904) (hb:(b.getD []).length≤4611686018427387904) (hc:(c.getD []).length≤4611686018427387904) :
  FN (n+3) 108 [d9 a,d9 b,d9 c,O,dT ta,dT tb,dT tc]=some (0,[.d (bl (zq (a.getD []) (b.getD []) (c.getD []) (ta.getD []) (tb.getD []) (tc.getD [])))]):=by
 rw [FS,IL]
 have nn:∀ {x y:Nat},¬ x=y→(x:Int)≠(y:Int):=fun h h'=>h (by omega)
 simp only [G108,Cm,cS,aL,aa,aK,ao,T4,zq]
 by_cases h1:(ta.getD []).length=(a.getD []).length
 ·rw [T5 (by simp [h1])]
  by_cases h2:(tb.getD []).length=(b.getD []).length
  ·rw [T5 (by simp [h2])]
   by_cases h3:(tc.getD []).length=(c.getD []).length
   ·rw [T5 (by simp [h3])]
    simp only [ae,aD,Mv n ta a ha h1]
    cases gV (ta.getD []) (a.getD []) with
    | false=>simp
    | true =>
     simp only [T6,bY,ac,ag,cS,Mu n tb b hb h2]
     cases gV (tb.getD []) (b.getD []) with
     | false=>simp
     | true =>
      simp only [T6,bY,ac,ag,cS,Mt n tc c hc h3]
      cases gV (tc.getD []) (c.getD [])<;>simp
   ·rw [T1 (nn h3),o9 h3];simp
  ·rw [T1 (nn h2),o9 h2];simp
 ·rw [T1 (nn h1),o9 h1];simp
theorem dZ (b:(Nat→List Yr→aq)→List Yr→aq) (ys:List Yr) (r:aq) (h:∀ k,b k ys=r):ax [b] M0 0 ys=r :=
 e9 (σ:=Unit) [b] (fun _=>(0,ys)) (fun _=>0) (fun _=>True) (fun _=>r) (fun _ k _ _=>⟨b,rfl,h k⟩) M0 () trivial (by unfold M0;omega)
def qA (ts:List T2) (l:List E9) (i:Nat):List E9:=bi (ts.take i) (l.take i)++l.drop i
theorem EJ {ts:List T2} {l:List E9} (h:ts.length=l.length) (i:Nat):(qA ts l i).length=l.length:=by
 unfold qA
 rw [Tp,fe (by simp [h])]
 simp;omega
theorem GY {ts:List T2} {l:List E9} (h:ts.length=l.length) {i:Nat} (hi:i < l.length):(qA ts l i)[i]?=l[i]?:=by
 unfold qA
 have:(bi (ts.take i) (l.take i)).length=i:=by rw [fe (by simp [h])];simp;omega
 rw [Vd (by omega),this];simp
theorem sM:∀ {ts:List T2} {l:List E9} (t:T2) (e:E9),ts.length=l.length→bi (ts++[t]) (l++[e])=bi ts l++[qB t e]
 | [],[],_,_,_=>rfl
 | [],_::_,_,_,h=>by simp at h
 | _::_,[],_,_,h=>by simp at h
 | _::ts,_::l,t,e,h=>by simp only [Tr,bi,sM (ts:=ts) (l:=l) t e (by simpa using h)]
theorem Cy {ts:List T2} {l:List E9} (h:ts.length=l.length) {i:Nat} {t:T2} {e:E9} (ht:ts[i]?=some t) (he:l[i]?=some e):(qA ts l i).set i (qB t e)=qA ts l (i+1):=by
 have hi:i < l.length:=(Tn.1 he).1
 have hl:(bi (ts.take i) (l.take i)).length=i:=by rw [fe (by simp [h])];simp;omega
 unfold qA
 rw [Wn,Wn,ht,he]
 simp only [Option.toList_some]
 rw [sM t e (by simp [h]),To,List.set_append_right _ _ (by omega),hl,Nat.sub_self]
 have hd:l.drop i=e::l.drop (i+1):=by
  rw [Vt hi]
  have:=(Tn.1 he).2
  rw [this]
 rw [hd];rfl
theorem gX (ts:List T2) (l:List E9) (hn:ts.length=l.length) (hl:l.length≤1000000) (body:(Nat→List Yr→aq)→List Yr→aq) (st:Nat→Rr→List Yr) (ex:Rr→aq)
  (h0:∀ k rows,rows.length=l.length→body k (st ts.length rows)=ex rows)
  (h1:∀ (i:Nat) (t:T2) (e:E9) (rows:Rr) k,ts[i]?=some t→rows[i]?=some (r9 e)→rows.length=l.length→(i:Int) < (ts.length:Int)→i < l.length→IntKind.i64.wrap ((i:Int)+1)=((i+1:Nat):Int)→body k (st i rows)=k 0 (st (i+1) (rows.set i (r9 (qB t e))))) :
  ax [body] M0 0 (st 0 (l.map r9))=ex ((bi ts l).map r9):=by
 have:=e9 (σ:=Nat) [body] (fun i=>(0,st i ((qA ts l i).map r9))) (fun i=>l.length - i) (fun i=>i≤l.length) (fun _=>ex ((bi ts l).map r9)) ?_ M0 0 (Y5 _) (by unfold M0;omega)
 ·simpa [qA,bi] using this
 ·intro i k hi ih
  refine ⟨body,rfl,?_⟩
  simp only
  by_cases h:i < l.length
  ·have ih':=ih (i+1) (by omega) (by omega)
   obtain ⟨e,he⟩:∃ e,l[i]?=some e:=⟨_,Tc h⟩
   obtain ⟨t,ht⟩:∃ t,ts[i]?=some t:=⟨_,Tc (by omega)⟩
   rw [h1 i t e _ k ht (by rw [Tm,GY hn h,he];rfl) (by rw [Tj,EJ hn]) (by omega) h (by rw [aE (by omega) (by omega)];omega),← Xe,Cy hn ht he]
   exact ih'
  ·have e:i=l.length:=by omega
   have e2:qA ts l i=bi ts l:=by
    unfold qA
    rw [e,Vp,Tt,Vf,Vc (by omega)]
   rw [e2]
   have e3:i=ts.length:=by omega
   rw [e3]
   exact h0 k _ (by rw [Tj,fe hn])
theorem jh {rows:Rr} {i:Nat} {e:E9} {w:List D} (h:rows[i]?=some (r9 e)):(rows.set i w)[i]?=some w:=by
 have:=(Tn.1 h).1
 simp [this]
theorem Mq (n:Nat) (ts:Option (List T2)) (l:List E9) (hn:(ts.getD []).length=l.length) (hl:l.length≤1000000) (x1:D) (x2:D) (x6:Rr) (x7:Rr) (x11:Nat) (x12:Nat) (x13:Nat) (x14:Nat) (x15:D):ax [rz (RP n)] M0 0 [dT ts,x1,x2,dT ts,il (ts.getD []).length,il 0,.r x6,.r x7,.r (l.map r9),.n l.length,.n l.length,.n x11,.n x12,.n x13,.n x14,x15]=some (0,[.d (dT ts),.d x1,.d x2,.r x6,.r x7,.r ((bi (ts.getD []) l).map r9),.n l.length,.n l.length,.n x11,.n x12,.n x13,.n x14,.d x15]):=by
 refine gX (ts.getD []) l hn hl (rz (RP n)) (fun i rows=>[.d (dT ts),.d x1,.d x2,.d (dT ts),.d (il (ts.getD []).length),.d (il (i:Nat)),.r x6,.r x7,.r rows,.n l.length,.n l.length,.n x11,.n x12,.n x13,.n x14,.d x15]) (fun rows=>some (0,[.d (dT ts),.d x1,.d x2,.r x6,.r x7,.r rows,.n l.length,.n l.length,.n x11,.n x12,.n x13,.n x14,.d x15])) ?_ ?_
 ·intro k rows hr;simp [rz]
 ·intro i t e rows k ht hr hrl hlt hil hw
  have h1:(0:Int)≤(i:Int)∧(i:Int) < (l.length:Int):=by omega
  have h2:=jh (w:=[il e.src,il e.a,il e.b,il t.b,il t.b,il e.t1,il e.t2,il e.kn,il e.un]) hr
  simp only [rz,ac,ag,b8,aZ,aN,b9,aC,aa,hlt,T8,T6,lB ht,rT,aI,aR,hrl,gN,h1,Vr,V0,dX,hr,r9,Tb,Td,ak,ar,ft,Wq,h2,ae,ay,hw,Xw]
  rfl
theorem Mp (n:Nat) (ts:Option (List T2)) (l:List E9) (hn:(ts.getD []).length=l.length) (hl:l.length≤1000000) (x1:D) (x2:D) (x6:Rr) (bn:Nat) (x11:Nat) (x12:D) (x13:D):ax [ry (RP n)] M0 0 [dT ts,x1,x2,dT ts,il (ts.getD []).length,il 0,.r x6,.r (l.map r9),.n l.length,.n l.length,.n bn,.n x11,x12,x13]=some (0,[.d (dT ts),.d x1,.d x2,.r x6,.r ((bi (ts.getD []) l).map r9),.n l.length,.n l.length,.n bn,.n x11,.d x12,.d x13]):=by
 refine gX (ts.getD []) l hn hl (ry (RP n)) (fun i rows=>[.d (dT ts),.d x1,.d x2,.d (dT ts),.d (il (ts.getD []).length),.d (il (i:Nat)),.r x6,.r rows,.n l.length,.n l.length,.n bn,.n x11,.d x12,.d x13]) (fun rows=>some (0,[.d (dT ts),.d x1,.d x2,.r x6,.r rows,.n l.length,.n l.length,.n bn,.n x11,.d x12,.d x13])) ?_ ?_
 ·intro k rows hr;simp [ry]
 ·intro i t e rows k ht hr hrl hlt hil hw
  have h1:(0:Int)≤(i:Int)∧(i:Int) < (l.length:Int):=by omega
  have h2:=jh (w:=[il e.src,il e.a,il e.b,il t.b,il t.b,il e.t1,il e.t2,il e.kn,il e.un]) hr
  simp only [ry,ac,ag,b8,aZ,aN,b9,aC,aa,hlt,T8,T6,lB ht,rT,aI,aR,hrl,gN,h1,Vr,V0,dX,hr,r9,Tb,Td,ak,ar,ft,Wq,h2,ae,ay,hw,Xw]
  rfl
theorem Mo (n:Nat) (ts:Option (List T2)) (h:ts.getD []=[]) (x1:D) (x2:D) (x6:Rr) (x7:Rr) (x8:D) (x9:Nat) (bn:Nat) (x11:Nat) (x12:Nat) (x13:D):ax [zD (RP n)] M0 0 [dT ts,x1,x2,dT ts,il (ts.getD []).length,il 0,.r x6,.r x7,x8,.n x9,.n bn,.n x11,.n x12,x13]=some (0,[.d (dT ts),.d x1,.d x2,.r x6,.r x7,.d x8,.n x9,.n bn,.n x11,.n x12,.d x13]) :=
 dZ _ _ _ fun k=>by rw [h];simp [zD]
theorem Mn (n:Nat) (ts:Option (List T2)) (l:List E9) (hn:(ts.getD []).length=l.length) (hl:l.length≤1000000) (x1:D) (x2:D) (x6:Rr) (bn:D) (x11:Nat) (x12:Nat) (x13:D):ax [rx (RP n)] M0 0 [dT ts,x1,x2,dT ts,il (ts.getD []).length,il 0,.r x6,.r (l.map r9),.n l.length,.n l.length,bn,.n x11,.n x12,x13]=some (0,[.d (dT ts),.d x1,.d x2,.r x6,.r ((bi (ts.getD []) l).map r9),.n l.length,.n l.length,.d bn,.n x11,.n x12,.d x13]):=by
 refine gX (ts.getD []) l hn hl (rx (RP n)) (fun i rows=>[.d (dT ts),.d x1,.d x2,.d (dT ts),.d (il (ts.getD []).length),.d (il (i:Nat)),.r x6,.r rows,.n l.length,.n l.length,.d bn,.n x11,.n x12,.d x13]) (fun rows=>some (0,[.d (dT ts),.d x1,.d x2,.r x6,.r rows,.n l.length,.n l.length,.d bn,.n x11,.n x12,.d x13])) ?_ ?_
 ·intro k rows hr;simp [rx]
 ·intro i t e rows k ht hr hrl hlt hil hw
  have h1:(0:Int)≤(i:Int)∧(i:Int) < (l.length:Int):=by omega
  have h2:=jh (w:=[il e.src,il e.a,il e.b,il t.b,il t.b,il e.t1,il e.t2,il e.kn,il e.un]) hr
  simp only [rx,ac,ag,b8,aZ,aN,b9,aC,aa,hlt,T8,T6,lB ht,rT,aI,aR,hrl,gN,h1,Vr,V0,dX,hr,r9,Tb,Td,ak,ar,ft,Wq,h2,ae,ay,hw,Xw]
  rfl
theorem Mm (n:Nat) (ts:Option (List T2)) (h:ts.getD []=[]) (x0:D) (x2:D) (x6:Rr) (x7:D) (x8:D) (x9:Nat) (bn:Nat) (x11:D):ax [zC (RP n)] M0 0 [x0,dT ts,x2,dT ts,il (ts.getD []).length,il 0,.r x6,x7,x8,.n x9,.n bn,x11]=some (0,[.d x0,.d (dT ts),.d x2,.r x6,.d x7,.d x8,.n x9,.n bn,.d x11]) :=
 dZ _ _ _ fun k=>by rw [h];simp [zC]
theorem Ml (n:Nat) (ts:Option (List T2)) (h:ts.getD []=[]) (x1:D) (x2:D) (x6:Rr) (x7:D) (x8:D) (x9:Nat) (bn:Nat) (x11:D):ax [zA (RP n)] M0 0 [dT ts,x1,x2,dT ts,il (ts.getD []).length,il 0,.r x6,x7,x8,.n x9,.n bn,x11]=some (0,[.d (dT ts),.d x1,.d x2,.r x6,.d x7,.d x8,.n x9,.n bn,.d x11]) :=
 dZ _ _ _ fun k=>by rw [h];simp [zA]
theorem Mk (n:Nat) (ts:Option (List T2)) (h:ts.getD []=[]) (x0:D) (x2:D) (x6:Rr) (x7:D) (x8:D) (x9:Nat) (bn:Nat) (x11:D):ax [zy (RP n)] M0 0 [x0,dT ts,x2,dT ts,il (ts.getD []).length,il 0,.r x6,x7,x8,.n x9,.n bn,x11]=some (0,[.d x0,.d (dT ts),.d x2,.r x6,.d x7,.d x8,.n x9,.n bn,.d x11]) :=
 dZ _ _ _ fun k=>by rw [h];simp [zy]
theorem Mj (n:Nat) (ts:Option (List T2)) (l:List E9) (hn:(ts.getD []).length=l.length) (hl:l.length≤1000000) (x1:D) (x2:D) (x9:D) (bn:D) (x11:D):ax [ru (RP n)] M0 0 [dT ts,x1,x2,dT ts,il (ts.getD []).length,il 0,.r (l.map r9),.n l.length,.n l.length,x9,bn,x11]=some (0,[.d (dT ts),.d x1,.d x2,.r ((bi (ts.getD []) l).map r9),.n l.length,.n l.length,.d x9,.d bn,.d x11]):=by
 refine gX (ts.getD []) l hn hl (ru (RP n)) (fun i rows=>[.d (dT ts),.d x1,.d x2,.d (dT ts),.d (il (ts.getD []).length),.d (il (i:Nat)),.r rows,.n l.length,.n l.length,.d x9,.d bn,.d x11]) (fun rows=>some (0,[.d (dT ts),.d x1,.d x2,.r rows,.n l.length,.n l.length,.d x9,.d bn,.d x11])) ?_ ?_
 ·intro k rows hr;simp [ru]
 ·intro i t e rows k ht hr hrl hlt hil hw
  have h1:(0:Int)≤(i:Int)∧(i:Int) < (l.length:Int):=by omega
  have h2:=jh (w:=[il e.src,il e.a,il e.b,il t.b,il t.b,il e.t1,il e.t2,il e.kn,il e.un]) hr
  simp only [ru,ac,ag,b8,aZ,aN,b9,aC,aa,hlt,T8,T6,lB ht,rT,aI,aR,hrl,gN,h1,Vr,V0,dX,hr,r9,Tb,Td,ak,ar,ft,Wq,h2,ae,ay,hw,Xw]
  rfl
theorem Mi (n:Nat) (ts:Option (List T2)) (h:ts.getD []=[]) (x0:D) (x2:D) (x6:D) (x7:D) (x8:D) (x9:D):ax [zx (RP n)] M0 0 [x0,dT ts,x2,dT ts,il (ts.getD []).length,il 0,x6,x7,x8,x9]=some (0,[.d x0,.d (dT ts),.d x2,.d x6,.d x7,.d x8,.d x9]) :=
 dZ _ _ _ fun k=>by rw [h];simp [zx]
theorem Mh (n:Nat) (ts:Option (List T2)) (h:ts.getD []=[]) (x3:D) (x4:D) (x5:D) (x6:D):ax [zt (RP n)] M0 0 [dT ts,il (ts.getD []).length,il 0,x3,x4,x5,x6]=some (0,[.d x3,.d x4,.d x5,.d x6]) :=
 dZ _ _ _ fun k=>by rw [h];simp [zt]
theorem GJ (n:Nat) (ts:Option (List T2)) (h:ts.getD []=[]) (x1:D) (x2:D) (x6:Rr) (x7:D) (x8:Nat) (x9:Nat) (bn:D) (x11:D):ax [uI (RP n)] M0 0 [dT ts,x1,x2,dT ts,il (ts.getD []).length,il 0,.r x6,x7,.n x8,.n x9,bn,x11]=some (0,[.d (dT ts),.d x1,.d x2,.r x6,.d x7,.n x8,.n x9,.d bn,.d x11]) :=
 dZ _ _ _ fun k=>by rw [h];simp [uI]
theorem GI (n:Nat) (ts:Option (List T2)) (h:ts.getD []=[]) (x1:D) (x2:D) (x6:D) (x7:D) (x8:D) (x9:D):ax [uH (RP n)] M0 0 [dT ts,x1,x2,dT ts,il (ts.getD []).length,il 0,x6,x7,x8,x9]=some (0,[.d (dT ts),.d x1,.d x2,.d x6,.d x7,.d x8,.d x9]) :=
 dZ _ _ _ fun k=>by rw [h];simp [uH]
theorem GH (n:Nat) (ts:Option (List T2)) (h:ts.getD []=[]) (x0:D) (x2:D) (x6:D) (x7:D) (x8:D) (x9:D):ax [uG (RP n)] M0 0 [x0,dT ts,x2,dT ts,il (ts.getD []).length,il 0,x6,x7,x8,x9]=some (0,[.d x0,.d (dT ts),.d x2,.d x6,.d x7,.d x8,.d x9]) :=
 dZ _ _ _ fun k=>by rw [h];simp [uG]
theorem GG (n:Nat) (ts:Option (List T2)) (h:ts.getD []=[]) (x3:D) (x4:D) (x5:D) (x6:D):ax [uF (RP n)] M0 0 [dT ts,il (ts.getD []).length,il 0,x3,x4,x5,x6]=some (0,[.d x3,.d x4,.d x5,.d x6]) :=
 dZ _ _ _ fun k=>by rw [h];simp [uF]
theorem GF (n:Nat) (ts:Option (List T2)) (l:List E9) (hn:(ts.getD []).length=l.length) (hl:l.length≤1000000) (x4:D) (x5:D) (x8:D):ax [nF (RP n)] M0 0 [dT ts,il (ts.getD []).length,il 0,.r (l.map r9),x4,x5,.n l.length,.n l.length,x8]=some (0,[.r ((bi (ts.getD []) l).map r9),.d x4,.d x5,.n l.length,.n l.length,.d x8]):=by
 refine gX (ts.getD []) l hn hl (nF (RP n)) (fun i rows=>[.d (dT ts),.d (il (ts.getD []).length),.d (il (i:Nat)),.r rows,.d x4,.d x5,.n l.length,.n l.length,.d x8]) (fun rows=>some (0,[.r rows,.d x4,.d x5,.n l.length,.n l.length,.d x8])) ?_ ?_
 ·intro k rows hr;simp [nF]
 ·intro i t e rows k ht hr hrl hlt hil hw
  have h1:(0:Int)≤(i:Int)∧(i:Int) < (l.length:Int):=by omega
  have h2:=jh (w:=[il e.src,il e.a,il e.b,il t.b,il t.b,il e.t1,il e.t2,il e.kn,il e.un]) hr
  simp only [nF,ac,ag,b8,aZ,aN,b9,aC,aa,hlt,T8,T6,lB ht,rT,aI,aR,hrl,gN,h1,Vr,V0,dX,hr,r9,Tb,Td,ak,ar,ft,Wq,h2,ae,ay,hw,Xw]
  rfl
theorem GE (n:Nat) (ts:Option (List T2)) (l:List E9) (hn:(ts.getD []).length=l.length) (hl:l.length≤1000000) (x0:D) (x2:D) (x7:D) (bn:D) (x11:D):ax [nE (RP n)] M0 0 [x0,dT ts,x2,dT ts,il (ts.getD []).length,il 0,.r (l.map r9),x7,.n l.length,.n l.length,bn,x11]=some (0,[.d x0,.d (dT ts),.d x2,.r ((bi (ts.getD []) l).map r9),.d x7,.n l.length,.n l.length,.d bn,.d x11]):=by
 refine gX (ts.getD []) l hn hl (nE (RP n)) (fun i rows=>[.d x0,.d (dT ts),.d x2,.d (dT ts),.d (il (ts.getD []).length),.d (il (i:Nat)),.r rows,.d x7,.n l.length,.n l.length,.d bn,.d x11]) (fun rows=>some (0,[.d x0,.d (dT ts),.d x2,.r rows,.d x7,.n l.length,.n l.length,.d bn,.d x11])) ?_ ?_
 ·intro k rows hr;simp [nE]
 ·intro i t e rows k ht hr hrl hlt hil hw
  have h1:(0:Int)≤(i:Int)∧(i:Int) < (l.length:Int):=by omega
  have h2:=jh (w:=[il e.src,il e.a,il e.b,il t.b,il t.b,il e.t1,il e.t2,il e.kn,il e.un]) hr
  simp only [nE,ac,ag,b8,aZ,aN,b9,aC,aa,hlt,T8,T6,lB ht,rT,aI,aR,hrl,gN,h1,Vr,V0,dX,hr,r9,Tb,Td,ak,ar,ft,Wq,h2,ae,ay,hw,Xw]
  rfl
theorem GD (n:Nat) (ts:Option (List T2)) (h:ts.getD []=[]) (x3:D) (x4:D) (x5:D) (x6:D):ax [uE (RP n)] M0 0 [dT ts,il (ts.getD []).length,il 0,x3,x4,x5,x6]=some (0,[.d x3,.d x4,.d x5,.d x6]) :=
 dZ _ _ _ fun k=>by rw [h];simp [uE]
theorem GC (n:Nat) (ts:Option (List T2)) (l:List E9) (hn:(ts.getD []).length=l.length) (hl:l.length≤1000000) (x0:D) (x2:D) (x6:Rr) (x8:D) (x11:Nat) (x12:Nat) (x13:D):ax [nD (RP n)] M0 0 [x0,dT ts,x2,dT ts,il (ts.getD []).length,il 0,.r x6,.r (l.map r9),x8,.n l.length,.n l.length,.n x11,.n x12,x13]=some (0,[.d x0,.d (dT ts),.d x2,.r x6,.r ((bi (ts.getD []) l).map r9),.d x8,.n l.length,.n l.length,.n x11,.n x12,.d x13]):=by
 refine gX (ts.getD []) l hn hl (nD (RP n)) (fun i rows=>[.d x0,.d (dT ts),.d x2,.d (dT ts),.d (il (ts.getD []).length),.d (il (i:Nat)),.r x6,.r rows,.d x8,.n l.length,.n l.length,.n x11,.n x12,.d x13]) (fun rows=>some (0,[.d x0,.d (dT ts),.d x2,.r x6,.r rows,.d x8,.n l.length,.n l.length,.n x11,.n x12,.d x13])) ?_ ?_
 ·intro k rows hr;simp [nD]
 ·intro i t e rows k ht hr hrl hlt hil hw
  have h1:(0:Int)≤(i:Int)∧(i:Int) < (l.length:Int):=by omega
  have h2:=jh (w:=[il e.src,il e.a,il e.b,il t.b,il t.b,il e.t1,il e.t2,il e.kn,il e.un]) hr
  simp only [nD,ac,ag,b8,aZ,aN,b9,aC,aa,hlt,T8,T6,lB ht,rT,aI,aR,hrl,gN,h1,Vr,V0,dX,hr,r9,Tb,Td,ak,ar,ft,Wq,h2,ae,ay,hw,Xw]
  rfl
end
section
theorem H9 (l:List E9) (n:Nat) (h:n=l.length):(.sl 9 ((l.map r9).take n):D)=d9 (some l):=by rw [h,BX];rfl
theorem Ha (l:List E5):(.sl 5 ((l.map r5).take l.length):D)=d5 (some l):=by rw [Vc (by simp)];rfl
def gY (ts:Option (List T2)) (o:Option (List E9)):Option (List E9):=o.map (bi (ts.getD []))
theorem gJ (ts:Option (List T2)) (o:Option (List E9)):(gY ts o).getD []=bi (ts.getD []) (o.getD []):=by
 cases o with
 | none=>simp [gY];cases ts.getD []<;>rfl
 | some l=>rfl
set_option maxHeartbeats 4000000 in
theorem s109 (n:Nat) (a b c:Option (List E9)) (o:Option (List E5)) (ta tb tc:Option (List T2)) (ha:(a.getD []).length≤60) (hb:(b.getD []).length≤60) (hc:(c.getD []).length≤60) (ho:(o.getD []).length≤60)
  (h1:(ta.getD []).length=(a.getD []).length) (h2:(tb.getD []).length=(b.getD []).length) (h3:(tc.getD []).length=(c.getD []).length) :
  FN (n+3) 109 [d9 a,d9 b,d9 c,d5 o,dT ta,dT tb,dT tc]=some (0,[.d (an (gY ta a) (gY tb b) (gY tc c) o)]):=by
 rw [FS,IK]
 unfold G109
 rw [ah,s96 n a b c o (by omega) (by omega) (by omega) (by omega)]
 cases a<;>cases b<;>cases c<;>cases o<;>simp only [Vu,T7,Td,List.length_eq_zero_iff] at ha hb hc ho h1 h2 h3
 all_goals
  try have g1:=(fe h1).symm
  try have g2:=(fe h2).symm
  try have g3:=(fe h3).symm
  try have k1:=Vn ha (show 60≤1000000 by omega)
  try have k2:=Vn hb (show 60≤1000000 by omega)
  try have k3:=Vn hc (show 60≤1000000 by omega)
  simp only [Option.isSome_none,Option.isSome_some,GL,lv9,lv5]
  refine MZ _ (by simp only [↓ab,↓cI,ac,ag,aN,b9,aI,aR,T6,bL,aU,Ha,Tj,ao];exact rfl) ?_
  simp only [↓ab,↓cI,Cm,ac,ag,aD,ae]
  simp (disch:=assumption) only [↓ab,ac,ag,b8,aZ,aN,b9,aI,aR,T6,bL,aU,Tj,Cm,aD,ae,uT,zU,zQ,Mq,Mp,Mo,Mn,Mm,Ml,Mk,Mj,Mi,Mh,GJ,GI,GH,GG,GF,GE,GD,GC,H9,fe,ao,gO]
  rfl
end
section
section
variable {a b c:Option (List E9)} {o:Option (List E5)}
theorem s113 (n:Nat) (d p:Int) (hd:0≤d∧d≤4166) (g:GoodK a b c o) :
  FN (n+106) 113 [d9 a,d9 b,d9 c,d5 o,il p,il d]=some (0,[.d (il (pb a b c o d p))]):=by
 rw [FS,IH]
 obtain ⟨z,hz⟩:=mn (c:=c.getD []) (o:=o.getD []) (d:=d) (p:=p) g.fam g.less
 simp only [G113,ah,k82 n d p hd g,ab,ac,pb]
 cases hl:bC a b c o d p with
 | nil=>rw [hl] at hz;simp at hz
 | cons x r =>
  have hrow:∀ q:List D→aq,(RP (n+105)).rowD 1 (dI (some (x::r))) (il 0) q=q (rI x):=fun q=>cQ (i:=0) rfl q
  simp only [ae,hrow,rI,ak,ao,List.headD_cons]
theorem s112 (n:Nat) (d f p:Int) (hd:0≤d∧d≤4166) (g:GoodK a b c o) :
  FN (n+107) 112 [il p,an a b c o,il d,il f]=some (0,[.d (bl (!decide (pb a b c o d p=f)))]):=by
 rw [FS,II]
 have hp:∀ k:List D→aq,(RP (n+106)).ptrW 4 (an a b c o) k=k [d9 a,d9 b,d9 c,d5 o]:=fun k=>bP _ 4 k rfl
 simp only [G112,hp,ak,ar,ah,s113 n d p hd g,ab,ac,aL,ao]
 simp
theorem d112 (n:Nat) (d f p:Int) (hd:0≤d∧d≤4166) (g:GoodK a b c o) :
  FD (n+107) (.fn 112 [.dp [an a b c o] 0,.dp [il d] 0,.dp [il f] 0]) [.one] (rI p)=some (0,[.d (bl (!decide (pb a b c o d p=f)))]) :=
 fj [.one,.ptr 1,.ptr 1,.ptr 1] [.one (il p)] (by decide) rfl (by kernel_rfl) rfl (by kernel_rfl) (s112 n d f p hd g)
theorem l48 (n:Nat) (d f:Int) (hd:0≤d∧d≤4166) (g:GoodK a b c o)
  (l:List Int) (hl:l.length≤4611686018427387904) (i0:Nat) (h0:i0 < l.length) (h1:(l.take (i0+1)).filter (fun p=>!(!decide (pb a b c o d p=f)))=l.take i0) :
  ∃ (i:Nat) (ks:List Int),ax [xq (RP (n+108))] M0 0 [.n l.length,.n l.length,il d,il f,il i0,il ((i0+1:Nat):Int),an a b c o,.r (l.map rI)]=some (0,[.n l.length,.n l.length,.d (il (i:Int)),.d (an a b c o),.r (ks.map rI)])∧i < l.length∧ks.length=l.length∧ks.take i=l.filter (fun p=>!(!decide (pb a b c o d p=f))):=by
 refine kH l hl (fun p=>!decide (pb a b c o d p=f)) (xq (RP (n+108))) (fun i j ks=>[.n l.length,.n l.length,.d (il d),.d (il f),.d (il (i:Nat)),.d (il (j:Nat)),.d (an a b c o),.r (ks.map rI)])
  (fun i ks=>some (0,[.n l.length,.n l.length,.d (il ((i:Nat):Int)),.d (an a b c o),.r (ks.map rI)])) ?_ ?_ i0 h0 h1
 ·intro i ks k hk
  simp [xq]
 ·intro i j ks e e2 k _ hj hi hij hjl hil hks hwj hwi
  have hkr:(ks.map rI)[j]?=some (rI e):=by rw [Tm,hj];rfl
  have hkr2:(ks.map rI)[i]?=some (rI e2):=by rw [Tm,hi];rfl
  simp only [xq,ac,ag,b8,aZ,aN,b9,lT,aC,aa,hjl,T8,T6,aI,Tj,aR,hks]
  rw [k8 _ _ _ ⟨by omega,hjl⟩,V0,eX 1 _ _ _ _ hkr rfl]
  simp only [rI,ak,ah,s112 (n+1) d f e hd g,ab,ac,e7,Vi,Wg,D4,Vx,T6,aP,aa,ae,ay,hwj,hwi]
  cases hqv:decide (pb a b c o d e=f) with
  | true =>
   simp only [Tu,V1,T6,T0,T9]
   rw [k8 _ _ _ ⟨by omega,hil⟩,V0,eX 1 _ _ _ _ hkr2 rfl]
   simp only [ft,Xe,rI]
  | false =>
   simp only [Tu,V1,T6,T0,T9]
end
theorem wi {k:Int} {a b c:Option (List E9)} {o:Option (List E5)} {ta tb tc:Option (List T2)} (g:GoodK (au k (a.getD [])) (au k (b.getD [])) (au k (c.getD [])) (dj k (o.getD []))) (t:TrueT (au k (a.getD [])) (au k (b.getD [])) (au k (c.getD [])) (ta.getD []) (tb.getD []) (tc.getD [])) :
  GoodK ((gY ta (bo k a)).getD []) ((gY tb (bo k b)).getD []) ((gY tc (bo k c)).getD []) ((f7 k o).getD []):=by
 rw [gJ,gJ,gJ,aw,aw,aw,cB]
 exact g.nar (c9 t.a) (c9 t.b) (c9 t.c)
def nQ (k:Int) (a b c:Option (List E9)) (o:Option (List E5)) (ta tb tc:Option (List T2)) (d p:Int):Int:=jM (au k (a.getD [])) (au k (b.getD [])) (au k (c.getD [])) (dj k (o.getD [])) (ta.getD []) (tb.getD []) (tc.getD []) d p
theorem tw (k:Int) (a b c:Option (List E9)) (o:Option (List E5)) (ta tb tc:Option (List T2)) (d p:Int):pb ((gY ta (bo k a)).getD []) ((gY tb (bo k b)).getD []) ((gY tc (bo k c)).getD []) ((f7 k o).getD []) d p=nQ k a b c o ta tb tc d p:=by
 rw [gJ,gJ,gJ,aw,aw,aw,cB];rfl
def kP (k:Int) (a b c:Option (List E9)) (ta tb tc:Option (List T2)):Bool:=zq (au k (a.getD [])) (au k (b.getD [])) (au k (c.getD [])) (ta.getD []) (tb.getD []) (tc.getD [])
def zb (k:Int) (a b c:Option (List E9)) (o:Option (List E5)) (ta tb tc:Option (List T2)) (d f:Int):Option (List Int):=(bx (cy (au k (a.getD [])))).map (List.filter fun p=>decide (nQ k a b c o ta tb tc d p=f))
section
variable (n:Nat) (p f d k:Int) (a b c:Option (List E9)) (o:Option (List E5)) (ta tb tc:Option (List T2)) (ha:(a.getD []).length*72≤140737488351232) (hb:(b.getD []).length*72≤140737488351232) (hc:(c.getD []).length*72≤140737488351232) (ho:(o.getD []).length*40≤140737488351232)
include ha hb hc ho
omit ho in
theorem L7:FN (n+3) 108 [d9 (bo k a),d9 (bo k b),d9 (bo k c),d5 (f7 k o),dT ta,dT tb,dT tc]=some (0,[.d (bl (kP k a b c ta tb tc))]):=by
 have la:=ey k (a.getD []);have lb:=ey k (b.getD []);have lc:=ey k (c.getD [])
 rw [s108 n (bo k a) (bo k b) (bo k c) (d5 (f7 k o)) ta tb tc (by rw [aw];omega) (by rw [aw];omega) (by rw [aw];omega),aw,aw,aw]
 rfl
omit ha hb hc ho in
theorem w109 (_:GoodK (au k (a.getD [])) (au k (b.getD [])) (au k (c.getD [])) (dj k (o.getD []))) (hg:(au k (a.getD [])).length≤60∧(au k (b.getD [])).length≤60∧(au k (c.getD [])).length≤60∧(dj k (o.getD [])).length≤60) (t:TrueT (au k (a.getD [])) (au k (b.getD [])) (au k (c.getD [])) (ta.getD []) (tb.getD []) (tc.getD [])) :
  FN (n+3) 109 [d9 (bo k a),d9 (bo k b),d9 (bo k c),d5 (f7 k o),dT ta,dT tb,dT tc]=some (0,[.d (an (gY ta (bo k a)) (gY tb (bo k b)) (gY tc (bo k c)) (f7 k o))]) :=
 s109 n (bo k a) (bo k b) (bo k c) (f7 k o) ta tb tc (by rw [aw];exact hg.1) (by rw [aw];exact hg.2.1) (by rw [aw];exact hg.2.2.1) (by rw [cB];exact hg.2.2.2) (by rw [aw];exact da t.a) (by rw [aw];exact da t.b) (by rw [aw];exact da t.c)
omit ha hb hc ho in
theorem wc {a b c:Option (List E9)} {o:Option (List E5)} (k:Int) (h:aA a b c o=true):(au k (a.getD [])).length≤60∧(au k (b.getD [])).length≤60∧(au k (c.getD [])).length≤60∧(dj k (o.getD [])).length≤60:=by
 have h0:=iY h
 have la:=ey k (a.getD []);have lb:=ey k (b.getD []);have lc:=ey k (c.getD [])
 have lo:(dj k (o.getD [])).length≤(o.getD []).length:=We _ _
 omega
theorem s47:FN (n+12) 47 [d9 a,d9 b,d9 c,d5 o,il k,dT ta,dT tb,dT tc]=some (0,[.d (il (if aQ (aA a b c o) false false 0 0 [k]=0 then (if kP k a b c ta tb tc=true then 0 else 37) else aQ (aA a b c o) false false 0 0 [k]))]):=by
 rw [FS,NZ]
 have h73:=s73 (n+1) 0 0 false false a b c o [] k (by simp) ha hb hc ho
 rw [show dI (some ([]++[k]))=.sl 1 [[il k]] from rfl,V5] at h73
 have hp:∀ q:List D→aq,(RP (n+11)).ptrW 4 (an (bo k a) (bo k b) (bo k c) (f7 k o)) q=q [d9 (bo k a),d9 (bo k b),d9 (bo k c),d5 (f7 k o)]:=fun q=>bP _ 4 q rfl
 simp only [G47,ah,ae,aK,aM,bL,h73]
 by_cases he:aQ (aA a b c o) false false 0 0 [k]=0
 ·simp only [df,he,T6,ab,ac,ag,aL,X5,Tx,Tk,aa,T0,T9,hp,ak,ar,L7 (n+8) k a b c o ta tb tc ha hb hc,aP,ao]
  cases kP k a b c ta tb tc<;>simp
 ·simp only [df,T5 he,ab,ac,ag,aL,aa,ao]
  rw [T1 (by simpa using he)]
theorem s50:FN (n+107) 50 [d9 a,d9 b,d9 c,d5 o,dT ta,dT tb,dT tc,il p,il d,il k]=if aQ (aA a b c o) true false p 0 [d,k]=0 then (if kP k a b c ta tb tc=true then some (0,[.d (il (nQ k a b c o ta tb tc d p)),.d (il 0)]) else some (0,[.d (il 0),.d (il 37)])) else some (0,[.d (il 0),.d (il (aQ (aA a b c o) true false p 0 [d,k]))]):=by
 rw [FS,NW]
 have hp:∀ q:List D→aq,(RP (n+106)).ptrW 4 (an (bo k a) (bo k b) (bo k c) (f7 k o)) q=q [d9 (bo k a),d9 (bo k b),d9 (bo k c),d5 (f7 k o)]:=fun q=>bP _ 4 q rfl
 have hp2:∀ q:List D→aq,(RP (n+106)).ptrW 4 (an (gY ta (bo k a)) (gY tb (bo k b)) (gY tc (bo k c)) (f7 k o)) q=q [d9 (gY ta (bo k a)),d9 (gY tb (bo k b)),d9 (gY tc (bo k c)),d5 (f7 k o)]:=fun q=>bP _ 4 q rfl
 simp only [G50,ah,s72,ab,ac,ag,aM,bL,ja (n+96) p 0 d k a b c o ha hb hc ho true false]
 by_cases he:aQ (aA a b c o) true false p 0 [d,k]=0
 ·rw [T1 he]
  simp only [df,he,T6,ab,ac,ag,ae,aL,X5,Tx,Tk,aa,T0,T9,hp,ak,ar,L7 (n+103) k a b c o ta tb tc ha hb hc,aP,ao]
  cases ht:kP k a b c ta tb tc with
  | false=>simp
  | true =>
   have t:=jb.1 ht
   have g:=(eC (bU he)).cnt k
   simp only [Tu,T0,T9,T6,w109 (n+103) k a b c o ta tb tc g (wc k (bU he)) t,ab,ac,hp2,ak,ar,s113 n d p (c5 he).1 (wi g t),tw]
 ·rw [T5 he]
  simp only [df,T5 he,ab,ac,ag,ae,aL,aa,ao]
  rw [T1 (by simpa using he)]
set_option maxHeartbeats 1000000 in
theorem s48:FN (n+109) 48 [d9 a,d9 b,d9 c,d5 o,dT ta,dT tb,dT tc,il f,il d,il k]=if aQ (aA a b c o) false true 0 f [d,k]=0 then (if kP k a b c ta tb tc=true then some (0,[.d (dI (zb k a b c o ta tb tc d f)),.d (il 0)]) else some (0,[.d (dI none),.d (il 37)])) else some (0,[.d (dI none),.d (il (aQ (aA a b c o) false true 0 f [d,k]))]):=by
 rw [FS,NY]
 have hp:∀ q:List D→aq,(RP (n+108)).ptrW 4 (an (bo k a) (bo k b) (bo k c) (f7 k o)) q=q [d9 (bo k a),d9 (bo k b),d9 (bo k c),d5 (f7 k o)]:=fun q=>bP _ 4 q rfl
 have hn:(dI none:D)=.lit (.slice none 0 0):=rfl
 simp only [G48,ah,s79,ab,ac,ag,aM,bL,ja (n+98) 0 f d k a b c o ha hb hc ho false true]
 by_cases he:aQ (aA a b c o) false true 0 f [d,k]=0
 ·rw [T1 he]
  simp only [df,he,T6,ab,ac,ag,ae,cc,aL,X5,Tx,Tk,aa,T0,T9,hp,ak,ar,L7 (n+105) k a b c o ta tb tc ha hb hc,aP,ao]
  cases ht:kP k a b c ta tb tc with
  | false=>simp [hn]
  | true =>
   have t:=jb.1 ht
   have g:=(eC (bU he)).cnt k
   have gf:=wi g t
   have hla:=(wc k (bU he)).1
   have hd:=(c5 he).1
   have hlp:=eb (au k (a.getD []))
   have h111:=Gc (n+103) (bo k a) (d9 (bo k b)) (d9 (bo k c)) (d5 (f7 k o)) (by rw [aw];omega)
   rw [aw] at h111
   have hdk:(.dp [d9 (bo k a),d9 (bo k b),d9 (bo k c),d5 (f7 k o)] 0:D)=an (bo k a) (bo k b) (bo k c) (f7 k o):=rfl
   have hip:∀ q:aq,(RP (n+108)).isPtr (an (bo k a) (bo k b) (bo k c) (f7 k o)) q=q:=fun q=>cW _ _ _
   simp only [Tu,T0,T9,T6,w109 (n+105) k a b c o ta tb tc g (wc k (bU he)) t,ab,ac,hip,h111,zb]
   have hi:=fun l hl=>G4 (n+107) l hl (.fn 112 [.dp [an (gY ta (bo k a)) (gY tb (bo k b)) (gY tc (bo k c)) (f7 k o)] 0,.dp [il d] 0,.dp [il f] 0]) (fun p=>!decide (nQ k a b c o ta tb tc d p=f)) (fun e _=>by rw [←tw];exact d112 n d f e hd gf)
   have hloop:=fun l hl i0 h0 h1=>l48 n d f hd gf l hl i0 h0 h1
   simp only [tw] at hloop
   generalize hl:cy (au k (a.getD []))=l at hlp ⊢
   cases l with
   | nil =>
    have:=hi none (by simp)
    simp only [cI,ab,ac,gp,gO,this,fS,gC,aV,aa,Vu]
    simp [bx,dI,dR]
   | cons y r =>
    have h2:=hi (some (y::r)) (by simp only [T7];omega)
    simp only [T7] at h2
    simp only [ab,aN,aI,aR,T6,aU,gp,gO,yq,h2,ac,e7,Vi,Wg,rN,Vx,aV,aa,T4]
    have hres:dI ((bx (y::r)).map (List.filter fun p=>decide (nQ k a b c o ta tb tc d p=f)))=dI (some ((y::r).filter fun p=>decide (nQ k a b c o ta tb tc d p=f))):=rfl
    rw [hres]
    generalize hy:(y::r)=l at *
    unfold fS
    cases hf:gC (fun p=>!decide (nQ k a b c o ta tb tc d p=f)) l with
    | none =>
     simp only [T6]
     have:=fW hf
     simp only [X6] at this
     rw [this]
    | some i0 =>
     obtain ⟨h0,h1⟩:=fV hf
     simp only
     rw [T5 (by omega),ay,aE (by omega) (by omega),aD,Tj]
     obtain ⟨i,ks,e1,e2,e3,e4⟩:=hloop l (by omega) i0 h0 h1
     rw [show ((i0:Nat):Int)+1=((i0+1:Nat):Int) by simp,e1]
     have ek:(ks.map rI).length=l.length:=by simp [e3]
     simp only [ab,ac,ag,b8,aZ,aN,b9,ek,T6]
     rw [jl _ _ _ _ e2]
     have ea:i+(l.length - i)=l.length:=by omega
     have et:((ks.map rI).take i++List.replicate (l.length - i) [il 0]).length=l.length:=by
      simp [e3];omega
     simp only [bV,ea,cX,jZ,et,T6]
     rw [jm _ _ _ _ (by omega)]
     simp only [X6] at e4
     have er:((ks.map rI).take i++List.replicate (l.length - i) [il 0]).take i=(l.filter fun p=>decide (nQ k a b c o ta tb tc d p=f)).map rI:=by
      rw [Vk (by simp [e3];omega),X8,Xv,← Wi,e4]
     rw [er]
     rfl
 ·rw [T5 he]
  simp only [df,T5 he,ab,ac,ag,ae,cc,aL,aa,ao]
  rw [T1 (by simpa using he)]
  rfl
end
end
section
def jc (l:List E9):List (E9×Nat):=l.zipIdx.reverse
def bF (d who:Int):List (E9×Nat)→List (Int×Option Int)
 | []=>[(-1,none)]
 | (e,i)::r=>if e.a=who∧bh e.f1 e.t2 d=true then ((i:Int),some e.b)::(if bq e.f2 e.t1 d=true then [] else bF d who r) else bF d who r
theorem nV (d who:Int):∀ l:List (E9×Nat),(bF d who l).map (·.2)=aG d who (l.map (·.1))
 | []=>rfl
 | (e,i)::r=>by
  simp only [bF,aG,Tl]
  by_cases h:e.a=who∧bh e.f1 e.t2 d=true
  ·rw [T1 h,T1 h]
   by_cases hs:bq e.f2 e.t1 d=true
   ·simp [hs]
   ·simp [hs,nV d who r]
  ·rw [T5 h,T5 h,nV d who r]
theorem GK (l:List E9):(jc l).map (·.1)=below l l.length:=by
 rw [j9,jc,List.map_reverse,List.zipIdx_map_fst]
theorem qa (d who:Int) (l:List E9):(bF d who (jc l)).map (·.2)=aG d who (below l l.length):=by rw [nV,GK]
theorem fv {d who:Int} {l:List E9} {j:Int} {x:Option Int} (h:(j,x)∈bF d who (jc l)):x∈aG d who (below l l.length):=by
 rw [←qa]
 exact V8.2 ⟨_,h,rfl⟩
theorem fu {d who:Int} {l:List E9} {x:Option Int} (h:x∈aG d who (below l l.length)):∃ j,(j,x)∈bF d who (jc l):=by
 rw [←qa] at h
 obtain ⟨⟨j,y⟩,h1,rfl⟩:=V8.1 h
 exact ⟨j,h1⟩
def BW (d:Int) (has:Bool) (e:E9):T2:=if has=true then ⟨e.f1,e.t2⟩ else if d < e.f2 then ⟨e.f2,e.t2⟩ else ⟨e.f1,e.t1⟩
def nl (S:Int→Option Int) (e:E9) (i:Nat):Bool:=match S e.a with
 | none=>true
 | some j=>decide (j=(i:Int))
def aS (d:Int) (S:Int→Option Int) (l:List E9):List T2:=l.zipIdx.map fun p=>BW d (nl S p.1 p.2) p.1
theorem l7 (d:Int) (S:Int→Option Int) (l:List E9):(aS d S l).length=l.length:=by simp [aS]
def pt (e:E9):Prop:=e.f1≤e.f2∧e.f2≤e.t1∧e.t1≤e.t2
theorem Lc (d:Int) (has:Bool) {e:E9} (h:pt e):Cu (BW d has e) e=true:=by
 unfold pt at h
 unfold Cu BW
 split
 ·simp only [T4];omega
 ·split<;>simp only [T4]<;>omega
theorem AF (d:Int) (S:Int→Option Int):∀ (l:List E9) (n:Nat),(∀ e∈l,pt e)→gV ((l.zipIdx n).map fun p=>BW d (nl S p.1 p.2) p.1) l=true
 | [],_,_=>rfl
 | e::l,n,h=>by
  rw [Xt,Tl,gV,Lc d _ (h e (by simp)),AF d S l (n+1) fun x hx=>h x (by simp [hx])]
  rfl
theorem mQ (d:Int) (S:Int→Option Int) {l:List E9} (h:∀ e∈l,pt e):gV (aS d S l) l=true:=AF d S l 0 h
def qz (d:Int) (S:Int→Option Int) (p:E9×Nat):E9:=qB (BW d (nl S p.1 p.2) p.1) p.1
theorem wv (d:Int) (S:Int→Option Int):∀ (l:List E9) (n:Nat),bi ((l.zipIdx n).map fun p=>BW d (nl S p.1 p.2) p.1) l=(l.zipIdx n).map (qz d S)
 | [],_=>rfl
 | e::l,n=>by
  rw [Xt,Tl,bi,wv d S l (n+1),Tl]
  rfl
theorem CK (d:Int) (S:Int→Option Int) (l:List E9):below (bi (aS d S l) l) (bi (aS d S l) l).length=(jc l).map (qz d S):=by
 rw [j9,aS,wv,jc,List.map_reverse]
theorem AP {d:Int} {has:Bool} {e:E9} (h:pt e):bh (BW d has e).b (BW d has e).e d=((has&&bh e.f1 e.t2 d)||bq e.f2 e.t1 d):=by
 unfold pt at h
 unfold BW bh bq
 rw [X2]
 cases has with
 | true =>
  simp only [T6,V7,Vl,T4]
  omega
 | false =>
  simp only [T0,T9,Xj,W8,T4]
  split<;>simp only<;>omega
theorem Dm {d:Int} {e:E9} (h:pt e) (hs:bq e.f2 e.t1 d=true):bh e.f1 e.t2 d=true:=by
 unfold pt at h
 unfold bq at hs
 unfold bh
 simp only [T4] at hs ⊢
 omega
theorem rR (d who:Int) (S:Int→Option Int) (e:E9) (i:Nat) (r:List (E9×Nat)) (h:pt e) :
  aG d who (((e,i)::r).map (qz d S))=if e.a=who∧((nl S e i&&bh e.f1 e.t2 d)||bq e.f2 e.t1 d)=true then [some e.b] else aG d who (r.map (qz d S)):=by
 rw [Tl,aG]
 have h1:(qz d S (e,i)).a=e.a:=rfl
 have h2:(qz d S (e,i)).b=e.b:=rfl
 have h3:bh (qz d S (e,i)).f1 (qz d S (e,i)).t2 d=((nl S e i&&bh e.f1 e.t2 d)||bq e.f2 e.t1 d):=AP h
 have h4:bq (qz d S (e,i)).f2 (qz d S (e,i)).t1 d=((nl S e i&&bh e.f1 e.t2 d)||bq e.f2 e.t1 d):=AP h
 rw [h1,h2,h3,h4]
 by_cases hc:e.a=who∧((nl S e i&&bh e.f1 e.t2 d)||bq e.f2 e.t1 d)=true
 ·rw [T1 hc,T1 hc,T1 hc.2]
 ·rw [T5 hc,T5 hc]
def CQ:List (E9×Nat)→Prop
 | []=>True
 | p::r=>(∀ q∈r,q.2 < p.2)∧CQ r
theorem wL:∀ {l m:List (E9×Nat)},CQ l→CQ m→(∀ p∈l,∀ q∈m,q.2 < p.2)→CQ (l++m)
 | [],_,_,h,_=>h
 | p::l,m,hl,hm,h=>⟨fun q hq=>by
   rcases V6.1 hq with hq | hq
   ·exact hl.1 q hq
   ·exact h p (by simp) q hq,wL hl.2 hm fun p hp q hq=>h p (by simp [hp]) q hq⟩
theorem wK:∀ (l:List E9) (n:Nat),CQ ((l.zipIdx n).reverse)
 | [],_=>trivial
 | e::l,n=>by
  rw [Xt,Xp]
  refine wL (wK l (n+1)) ⟨(fun q hq=>by cases hq),trivial⟩ fun p hp q hq=>?_
  rw [List.mem_reverse] at hp
  rw [Tw] at hq
  have:=List.le_snd_of_mem_zipIdx hp
  subst hq
  simp only
  omega
theorem Gv {l:List E9} {p:E9×Nat} (h:p∈jc l):p.1∈l:=by
 rw [jc,List.mem_reverse] at h
 exact List.fst_mem_of_mem_zipIdx h
theorem kg {d who:Int}:∀ {l:List (E9×Nat)} {j:Int} {x:Option Int},(j,x)∈bF d who l→j=-1∨∃ p∈l,j=(p.2:Int)
 | [],j,x,h=>by
  simp only [bF,Tw,Ty] at h
  exact .inl h.1
 | (e,i)::r,j,x,h=>by
  simp only [bF] at h
  split at h
  ·rcases Ti.1 h with h | h
   ·cases h;exact .inr ⟨(e,i),by simp,rfl⟩
   ·split at h
    ·cases h
    ·rcases kg h with h | ⟨p,hp,h⟩
     ·exact .inl h
     ·exact .inr ⟨p,by simp [hp],h⟩
  ·rcases kg h with h | ⟨p,hp,h⟩
   ·exact .inl h
   ·exact .inr ⟨p,by simp [hp],h⟩
theorem nU {d who:Int} {S:Int→Option Int}:∀ {l:List (E9×Nat)} {j:Int} {x:Option Int},CQ l→(∀ p∈l,pt p.1)→S who=some j→(j,x)∈bF d who l→aG d who (l.map (qz d S))=[x]
 | [],j,x,_,_,_,h=>by
  simp only [bF,Tw,Ty] at h
  rw [h.2];rfl
 | (e,i)::r,j,x,hd,hok,hS,h=>by
  have he:=hok (e,i) (by simp)
  rw [rR d who S e i r he]
  simp only [bF] at h
  by_cases hc:e.a=who∧bh e.f1 e.t2 d=true
  ·rw [T1 hc] at h
   have hdec:nl S e i=decide (j=(i:Int)):=by unfold nl;rw [hc.1,hS]
   rcases Ti.1 h with h | h
   ·cases h
    rw [T1 ⟨hc.1,by rw [hdec,hc.2];simp⟩]
   ·split at h
    ·cases h
    ·rename_i hs
     have hj:j≠(i:Int):=by
      rcases kg h with h1 | ⟨p,hp,h1⟩
      ·omega
      ·have:=hd.1 p hp
       omega
     rw [T5 (by rw [hdec];simp [hj,hs])]
     exact nU hd.2 (fun p hp=>hok p (by simp [hp])) hS h
  ·rw [T5 hc] at h
   have hm:¬(e.a=who∧((nl S e i&&bh e.f1 e.t2 d)||bq e.f2 e.t1 d)=true):=fun ⟨h1,h2⟩=>hc ⟨h1,by
    rw [Vl,Te] at h2
    rcases h2 with h2 | h2
    ·exact h2.2
    ·exact Dm he h2⟩
   rw [T5 hm]
   exact nU hd.2 (fun p hp=>hok p (by simp [hp])) hS h
section
variable {d who:Int} {S:Int→Option Int} {l:List E9}
theorem sm {j:Int} {x:Option Int} (hok:∀ e∈l,pt e) (hS:S who=some j) (h:(j,x)∈bF d who (jc l)):aG d who (below (bi (aS d S l) l) (bi (aS d S l) l).length)=[x]:=by
 rw [CK]
 exact nU (wK l 0) (fun p hp=>hok _ (Gv hp)) hS h
theorem Ah (h:∀ e∈l,e.a≠who):aG d who (below l l.length)=[none]:=iV d who fun e he=>h e (e8 he)
theorem Gm (S:Int→Option Int) (h:∀ e∈l,e.a≠who):aG d who (below (bi (aS d S l) l) (bi (aS d S l) l).length)=[none]:=by
 refine iV d who fun e he=>?_
 have hm:=e8 he
 have:e.a∈(bi (aS d S l) l).map (·.a):=V8.2 ⟨e,hm,rfl⟩
 rw [EI (l7 d S l)] at this
 obtain ⟨e',h1,h2⟩:=V8.1 this
 rw [←h2]
 exact h e' h1
end
end
end Go.VE
