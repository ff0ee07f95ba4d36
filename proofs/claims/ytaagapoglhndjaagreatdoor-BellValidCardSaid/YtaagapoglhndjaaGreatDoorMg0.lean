/- The functions. -/
import Derived.Test.YtaagapoglhndjaaGreatDoorMf0
import Derived.Test.YtaagapoglhndjaaGreatDoorMf1
import Derived.Test.YtaagapoglhndjaaGreatDoorMf2
import Derived.Test.YtaagapoglhndjaaGreatDoorMh
import Derived.KernelRfl
namespace Go.VE
section
abbrev aT:=Int×Int
abbrev aY:=Int×Int×Int×Int
def eZ (n lo hi:Int):Bool:=decide (lo≤n)&&decide (n≤hi)
def dR (n:Int):Bool:=eZ n 0 5
def bU (P o:Int):Bool:=dR o&&P.toNat.testBit o.toNat
def vM (P:Int):Nat:=((List.range 6).filter fun o=>P.toNat.testBit o).length
def Eb (b:aT):Bool:=eZ b.1 1 99&&(eZ b.2 0 63&&decide (2≤vM b.2))
def gQ (s:aY):Bool:=eZ s.2.1 1 99 &&
 (if s.1=1∨s.1=3 then dR s.2.2.1&&eZ s.2.2.2 1 99999
 else if s.1=2 then decide (s.2.2.1=0)&&eZ s.2.2.2 1 99999
 else if s.1=4 then decide (s.2.2.1=0)&&eZ s.2.2.2 0 1 else false)
def tz:Option Int→Int→Bool
 | none,_=>true
 | some q,x=>decide (q < x)
def le {α:Type} (ok:α→Bool) (src:α→Int):Option Int→List α→Bool
 | _,[]=>true
 | p,e::r=>ok e&&(tz p (src e)&&le ok src (some (src e)) r)
def qh (me:Int) (b:aT):Bool:=Eb b&&bU b.2 me
def cC (me:Int) (l:List aT):Bool:=le (qh me) (·.1) none l&&decide (l.length≤4)
abbrev ge:=Int×Int×Int
def jQ (t:ge):Bool:=eZ t.1 1 99&&(eZ t.2.1 0 99999&&eZ t.2.2 0 99999)
def gm (a b:Int) (l:List ge):Bool:=dR a&&(dR b&&(!decide (a=b)&&(decide (l.length≤4)&&le jQ (·.1) none l)))
structure Fld where
 no:Nat→Int
 af:Nat→Bool
 ask:Nat→Int
 wants:Int
 opn:Bool
def fd0:Fld:=⟨fun _=>0,fun _=>false,fun _=>0,0,false⟩
def cd {α:Type} (f:Nat→α) (i:Nat) (x:α):Nat→α:=fun j=>if i=j then x else f j
def aK (me o no:Int):Bool:=decide (me < o)==decide (no % 2=0)
def oth (me P:Int):List Nat:=(List.range 6).filter fun o=>!decide ((o:Int)=me)&&P.toNat.testBit o
def dC (me P:Int) (f:Fld):List Nat:=(oth me P).filter fun o=>!aK me o (f.no o)
def bi (me P:Int) (f:Fld) (s:aY):Option Fld :=
 if s.1=1 then (if decide (s.2.2.1=me)||!bU P s.2.2.1||f.opn||decide (s.2.2.2≤f.no s.2.2.1.toNat) then none
  else some { f with no:=cd f.no s.2.2.1.toNat s.2.2.2,af:=cd f.af s.2.2.1.toNat true })
 else if s.1=2 then (if s.2.2.2≤f.wants then none else some { f with wants:=s.2.2.2,af:=fun _=>false })
 else if s.1=3 then (if decide (s.2.2.1=me)||!bU P s.2.2.1||decide (s.2.2.2≤f.ask s.2.2.1.toNat) then none
  else some { f with ask:=cd f.ask s.2.2.1.toNat s.2.2.2 })
 else if (f.opn==decide (s.2.2.2=1))||(decide (s.2.2.2=1)&&!(dC me P f).isEmpty) then none else some { f with opn:=decide (s.2.2.2=1) }
def aI (me:Int) (b:aT):Fld→List aY→Fld×Bool
 | f,[]=>(f,true)
 | f,s::r=>if s.2.1=b.1 then (match bi me b.2 f s with
  | none=>(f,false)
  | some f'=>aI me b f' r) else aI me b f r
def dg (n:Int):List aT→Option Nat
 | []=>none
 | b::r=>if b.1=n then some 0 else (dg n r).map (·+1)
def bI (me:Int) (bs:List aT):List Fld→List aY→List Fld×Bool
 | fs,[]=>(fs,true)
 | fs,s::r=>if gQ s then (match dg s.2.1 bs with
  | none=>(fs,false)
  | some i=>match bi me (bs.getD i (0,0)).2 (fs.getD i fd0) s with
   | none=>(fs,false)
   | some f=>bI me bs (fs.set i f) r) else (fs,false)
theorem ey {n:Int}:∀ {bs:List aT} {i:Nat},dg n bs=some i→i < bs.length∧(bs.getD i (0,0)).1=n
 | [],i,h=>by cases h
 | b::r,i,h=>by
  unfold dg at h
  split at h
  ·cases h;rename_i h;exact ⟨by simp,h⟩
  ·cases hr:dg n r with
   | none=>simp [hr] at h
   | some j =>
    simp [hr] at h;subst h
    have:=ey hr
    exact ⟨by simp;omega,by simpa using this.2⟩
def lA (bs:List aT):Prop:=bs.Pairwise fun a b=>a.1 < b.1
theorem u6 {bs:List aT} (h:lA bs):∀ {i:Nat},(hi:i < bs.length)→dg bs[i].1 bs=some i:=by
 induction bs with
 | nil=>intro i hi;simp at hi
 | cons b r ih =>
  intro i hi
  cases h with
  | cons h1 h2 =>
   unfold dg
   cases i with
   | zero=>simp
   | succ i =>
    have hi':i < r.length:=by simpa using hi
    have:=h1 r[i] (by simp)
    have hn:b.1≠r[i].1:=by omega
    simp only [List.getElem_cons_succ,hn,Jx,ih h2 hi',M3]
theorem kD {me:Int} {bs:List aT} (hr:lA bs):∀ (l:List aY) (fs:List Fld),fs.length=bs.length →
  (bI me bs fs l).1.length=bs.length∧((bI me bs fs l).2=true →
   (∀ s∈l,gQ s=true∧dg s.2.1 bs≠none)∧∀ i,i < bs.length→aI me (bs.getD i (0,0)) (fs.getD i fd0) l=((bI me bs fs l).1.getD i fd0,true)) ∧
  ((∀ s∈l,gQ s=true∧dg s.2.1 bs≠none)→(∀ i,i < bs.length→(aI me (bs.getD i (0,0)) (fs.getD i fd0) l).2=true)→(bI me bs fs l).2=true)
 | [],fs,hl=>⟨hl,fun _=>⟨by simp,fun i _=>rfl⟩,fun _ _=>rfl⟩
 | s::r,fs,hl=>by
  unfold bI
  by_cases h1:gQ s=true
  ·rw [K9 h1]
   cases hb:dg s.2.1 bs with
   | none=>exact ⟨hl,by simp,fun h=>absurd hb (h s (by simp)).2⟩
   | some i =>
    obtain ⟨hi,hf⟩:=ey hb
    simp only
    cases hs:bi me (bs.getD i (0,0)).2 (fs.getD i fd0) s with
    | none =>
     refine ⟨hl,by simp,fun _ h2=>?_⟩
     have:=h2 i hi
     unfold aI at this
     rw [K9 hf.symm,hs] at this
     cases this
    | some f =>
     have ih:=kD (me:=me) hr r (fs.set i f) (by simpa using hl)
     have key:∀ j,j < bs.length→aI me (bs.getD j (0,0)) (fs.getD j fd0) (s::r)=aI me (bs.getD j (0,0)) ((fs.set i f).getD j fd0) r:=by
      intro j hj
      rw [aI]
      by_cases hji:j=i
      ·subst hji
       rw [K9 hf.symm,hs]
       simp [Kd,hl ▸ hj]
      ·have hne:¬ s.2.1=(bs.getD j (0,0)).1:=by
        intro he
        have e1:dg (bs.getD j (0,0)).1 bs=some j:=by
         have:=u6 hr hj
         simpa [Kd,hj] using this
        rw [←he,hb] at e1
        cases e1;exact hji rfl
       rw [Kg hne]
       simp [Kd,Ne.symm hji]
     refine ⟨ih.1,fun h=>?_,fun h2 h3=>?_⟩
     ·obtain ⟨a,b⟩:=ih.2.1 h
      refine ⟨?_,fun j hj=>by rw [key j hj];exact b j hj⟩
      intro t ht
      cases ht with
      | head=>exact ⟨h1,by rw [hb];simp⟩
      | tail _ ht=>exact a t ht
     ·exact ih.2.2 (fun t ht=>h2 t (Kz _ ht)) fun j hj=>by rw [←key j hj];exact h3 j hj
  ·rw [Kg h1]
   exact ⟨hl,by simp,fun h=>absurd (h s (by simp)).1 h1⟩
theorem jS {α:Type} {ok:α→Bool} {src:α→Int}:∀ {l:List α} {p:Option Int},le ok src p l=true→∀ c∈l,ok c=true∧tz p (src c)=true
 | [],_,_,c,hc=>by cases hc
 | b::r,p,h,c,hc=>by
  simp only [le,Js] at h
  obtain ⟨h1,h2,h3⟩:=h
  cases hc with
  | head=>exact ⟨h1,h2⟩
  | tail _ hc =>
   obtain ⟨a,b⟩:=jS h3 c hc
   refine ⟨a,?_⟩
   cases p with
   | none=>rfl
   | some q=>simp only [tz,Ju] at *;omega
theorem fx {ok:aT→Bool}:∀ {bs:List aT} {p:Option Int},le ok (·.1) p bs=true→lA bs
 | [],_,_=>.nil
 | b::r,p,h=>by
  simp only [le,Js] at h
  refine .cons (fun c hc=>?_) (fx h.2.2)
  have:=(jS h.2.2 c hc).2
  simpa [tz] using this
end
section
open Go.RowKit Go.Proofs
theorem ew {β:Type} (N:Nat) (hN:N≤4611686018427387904) (body:(Nat→List Yr→az)→List Yr→az) (en:Nat→β→List Yr) (I:Nat→β→Prop) (spec:Nat→β→az)
  (h0:∀ b k,I N b→body k (en N b)=spec N b)
  (h1:∀ i b k,i < N→I i b→IntKind.i64.wrap ((i:Int)+1)=(i:Int)+1→(∀ b',I (i+1) b'→k 0 (en (i+1) b')=spec (i+1) b')→body k (en i b)=spec i b)
  (b:β) (hb:I 0 b):bh [body] M0 0 (en 0 b)=spec 0 b:=by
 refine iN (σ:=Nat×β) [body] (fun s=>(0,en s.1 s.2)) (fun s=>N - s.1) (fun s=>s.1≤N∧I s.1 s.2) (fun s=>spec s.1 s.2) ?_ M0 (0,b) ⟨by simp,hb⟩ (by simp only [M0];omega)
 rintro ⟨i,b⟩ k ⟨hi,hI⟩ ih
 refine ⟨body,rfl,?_⟩
 simp only at hi
 by_cases h:i < N
 ·exact h1 i b k h hI (dX h hN) fun b' hb'=>ih (i+1,b') ⟨h,hb'⟩ (by simp only;omega)
 ·have:i=N:=by omega
  subst this
  exact h0 b k hI
def fJ {α:Type} (src:α→Int) (l:List α) (i:Nat):Option Int:=if i=0 then none else (l[i - 1]?).map src
theorem jP {α:Type} (src:α→Int) {l:List α} {i:Nat} {c:α} (h:l[i]?=some c):fJ src l (i+1)=some (src c):=by
 simp [fJ,h]
theorem mG {i:Nat} (h:0 < i) (h2:i≤4611686018427387904):IntKind.i64.wrap ((i:Int) - 1)=((i - 1:Nat):Int):=by
 rw [cP (by omega) (by omega)];omega
theorem yK (n:Nat) (a b c:Int):FN (n+1) 82 [il a,il b,il c]=some (0,[.d (bl (eZ a b c))]):=by
 rw [FS,IF];by_cases h:b≤a<;>simp [G82,eZ,h]
theorem EM (n:Nat) (a b c:Int):FN (n+1) 92 [il a,il b,il c]=some (0,[.d (bl (eZ a b c))]):=by
 rw [FS,IA];by_cases h:b≤a<;>simp [G92,eZ,h]
theorem Ay (n:Nat) (a:Int):FN (n+2) 33 [il a]=some (0,[.d (bl (dR a))]):=by rw [FS,IY];simp [G33,yK,dR]
theorem EN (n:Nat) (a:Int):FN (n+2) 93 [il a]=some (0,[.d (bl (dR a))]):=by rw [FS,Iz];simp [G93,EM,dR]
theorem s67 (n:Nat) (a:Int):FN (n+2) 86 [il a]=some (0,[.d (bl (eZ a 1 99))]):=by rw [FS,ID];simp [G86,yK]
def Fi (o:Option D) (b:Bool):Bool:=match o with
 | some (.lit (.bool x))=>x==b
 | _=>false
theorem zA {o:Option D} {b:Bool} (h:Fi o b=true):o=some (bl b):=by
 unfold Fi at h
 split at h
 ·simp only [Tg] at h;subst h;rfl
 ·cases h
theorem t71:∀ P:Fin 64,∀ o:Fin 6,Fi ((iz .shl false (il 1) (il o.1)).bind fun x=>(iz .and false (il P.1) x).bind fun y=>iz .neq false y (il 0)) (P.1.testBit o.1)=true:=by decide +kernel
theorem t91:∀ P:Fin 64,∀ o:Fin 6,Fi ((iz .shr false (il P.1) (il o.1)).bind fun x=>(iz .and false x (il 1)).bind fun y=>iz .eql false y (il 1)) (P.1.testBit o.1)=true:=by decide +kernel
theorem bn {o:Int}:dR o=true↔0≤o∧o≤5:=by simp [dR,eZ]
section
variable {Fn:Nat→List D→az} {FnD:D→List Sh→List D→az} {m:Nat}
theorem bin3 (o1 o2 o3:BinOp) (a b c d:D) (z:D) (k:D→az) (h:((iz o1 false a b).bind fun x=>(iz o2 false c x).bind fun y=>iz o3 false y d)=some z) :
  ((aa Fn FnD m).bin o1 false a b fun x=>(aa Fn FnD m).bin o2 false c x fun y=>(aa Fn FnD m).bin o3 false y d k)=k z:=by
 simp only [aa]
 cases h1:iz o1 false a b with
 | none=>simp [h1] at h
 | some x =>
  rw [h1,Ke] at h
  simp only [oT]
  cases h2:iz o2 false c x with
  | none=>simp [h2] at h
  | some y =>
   rw [h2,Ke] at h
   simp only [h]
theorem bin3' (o1 o2 o3:BinOp) (a b c d:D) (z:D) (k:D→az) (h:((iz o1 false a b).bind fun x=>(iz o2 false x c).bind fun y=>iz o3 false y d)=some z) :
  ((aa Fn FnD m).bin o1 false a b fun x=>(aa Fn FnD m).bin o2 false x c fun y=>(aa Fn FnD m).bin o3 false y d k)=k z:=by
 simp only [aa]
 cases h1:iz o1 false a b with
 | none=>simp [h1] at h
 | some x =>
  rw [h1,Ke] at h
  simp only [oT]
  cases h2:iz o2 false x c with
  | none=>simp [h2] at h
  | some y =>
   rw [h2,Ke] at h
   simp only [h]
end
def j7 (P:Int):Prop:=0≤P∧P≤63
theorem jE (n:Nat) (x:D) {P:Int} (h:j7 P) (o:Int):FN (n+3) 99 [x,il P,il o]=some (0,[.d (bl (bU P o))]):=by
 rw [FS,Ix]
 simp only [G99,an,EN,ab,ae,ac,bU]
 by_cases ho:dR o=true
 ·rw [K9 ho,ho,Kf]
  have h1:=bn.1 ho
  have h2:=zA (t71 ⟨P.toNat,by have:=h.1;have:=h.2;omega⟩ ⟨o.toNat,by omega⟩)
  rw [show ((⟨P.toNat,_⟩:Fin 64).1:Int)=P from Int.toNat_of_nonneg h.1,show ((⟨o.toNat,_⟩:Fin 6).1:Int)=o from Int.toNat_of_nonneg h1.1] at h2
  rw [ah,ah,bin3 _ _ _ _ _ _ _ _ _ h2];rfl
 ·rw [Kg ho];simp [ho]
theorem pR (n:Nat) (x:D) {P:Int} (h:j7 P) (o:Int):FN (n+3) 36 [x,il P,il o]=some (0,[.d (bl (bU P o))]):=by
 rw [FS,IX]
 simp only [G36,an,Ay,ab,ae,ac,bU]
 by_cases ho:dR o=true
 ·rw [K9 ho,ho,Kf]
  have h1:=bn.1 ho
  have h2:=zA (t91 ⟨P.toNat,by have:=h.1;have:=h.2;omega⟩ ⟨o.toNat,by omega⟩)
  rw [show ((⟨P.toNat,_⟩:Fin 64).1:Int)=P from Int.toNat_of_nonneg h.1,show ((⟨o.toNat,_⟩:Fin 6).1:Int)=o from Int.toNat_of_nonneg h1.1] at h2
  rw [ah,bin3' _ _ _ _ _ _ _ _ _ h2];rfl
 ·rw [Kg ho];simp [ho]
def HY (o:az) (z:Int):Bool:=match o with
 | some (0,[.d (.lit (.int .i64 x))])=>x==z
 | _=>false
theorem Fh {o:az} {z:Int} (h:HY o z=true):o=some (0,[.d (il z)]):=by
 unfold HY at h
 split at h
 ·simp only [Tg] at h;subst h;rfl
 ·cases h
theorem t103:∀ P:Fin 64,HY (G133 (aa (fun _ _=>none) (fun _ _ _=>none) 0) (.lit (.int .u64 P.1))) (vM P.1)=true:=by decide +kernel
theorem s103 (n:Nat) {P:Int} (h:j7 P):FN (n+1) 133 [.lit (.int .u64 P)]=some (0,[.d (il (vM P))]):=by
 rw [FS,G0]
 have h2:=Fh (t103 ⟨P.toNat,by have:=h.1;have:=h.2;omega⟩)
 rw [show ((⟨P.toNat,_⟩:Fin 64).1:Int)=P from Int.toNat_of_nonneg h.1] at h2
 rw [←h2];rfl
theorem s69 (n:Nat) {P:Int} (h:j7 P):FN (n+2) 124 [.lit (.int .u64 P)]=some (0,[.d (il (vM P))]):=by
 rw [FS,G1];simp [G124,s103 _ h]
theorem sU {P:Int}:eZ P 0 63=true↔j7 P:=by simp [eZ,j7]
theorem cvu {Fn:Nat→List D→az} {FnD:D→List Sh→List D→az} {m:Nat} {P:Int} (h:j7 P) (k:D→az):(aa Fn FnD m).cvI .u64 (il P) k=k (.lit (.int .u64 P)):=by
 have:=h.1;have:=h.2
 simp only [aa,il,IntWalk.u64_in P ⟨by omega,by omega⟩]
theorem s12 (n:Nat) (b:aT):FN (n+3) 111 [il b.1,il b.2]=some (0,[.d (il (if Eb b=true then 0 else 90))]):=by
 rw [FS,G4]
 simp only [G111,an,s67,ab,ae,aJ,ac,ah,yK,au,Eb]
 by_cases h1:eZ b.1 1 99=true
 ·simp only [h1,K1,Jq,Jx,Kf]
  by_cases h2:eZ b.2 0 63=true
  ·have h3:=sU.1 h2
   simp only [h2,K1,Jq,Jx,Kf,cvu h3,s69 _ h3,ab,ae,aB,ac,Ju]
   by_cases h4:2≤vM b.2
   ·rw [Kg (by omega),K9 h4]
   ·rw [K9 (by omega),Kg h4]
  ·simp [h2]
 ·simp [h1]
def rg (i:Nat):List Nat:=List.range' i (6 - i)
theorem p8 {i:Nat} (h:i < 6):rg i=i::rg (i+1):=by
 unfold rg
 rw [show 6 - i=(6 - (i+1))+1 by omega,List.range'_succ]
theorem yO:List.range 6=rg 0:=rfl
theorem bM {P:Int} {i:Nat} (h:i < 6):bU P i=P.toNat.testBit i:=by
 have:dR (i:Int)=true:=bn.2 ⟨by omega,by omega⟩
 simp [bU,this]
theorem l13 (n:Nat) (f:D) {P:Int} (h:j7 P):bh [qX (RP (n+3))] M0 0 [.d f,.d (il P),.d (il 0),.d (il 0)]=some (0,[.d (il (vM P))]):=by
 have:=ew (β:=Nat) 6 (by omega) (qX (RP (n+3))) (fun i c=>[.d f,.d (il P),.d (il c),.d (il i)]) (fun i c=>c≤i) (fun i c=>some (0,[.d (il ((c:Int)+((rg i).filter fun o=>P.toNat.testBit o).length))])) ?_ ?_ 0 (by simp)
 ·simpa [vM,yO] using this
 ·intro c k _
  simp [qX,rg]
 ·intro i c k hi hc hw ih
  have hw2:IntKind.i64.wrap ((c:Int)+1)=(c:Int)+1:=dX (show c < 7 by omega) (by omega)
  rw [p8 hi]
  simp only [qX,ae,aj,ah,aB,ac,show ((i:Int) < 6) by omega,Jt,Jv,an,jE _ _ h,ab,bM hi,aF,hw,hw2,V0]
  by_cases hb:P.toNat.testBit i=true
  ·simp only [hb,Jv,Jy]
   have:=ih (c+1) (by omega)
   rw [show ((c+1:Nat):Int)=(c:Int)+1 by omega,show ((i+1:Nat):Int)=(i:Int)+1 by omega] at this
   rw [this]
   congr 5
   omega
  ·simp only [hb,Jq,Jx]
   have:=ih c (by omega)
   rw [show ((i+1:Nat):Int)=(i:Int)+1 by omega] at this
   exact this
theorem s13 (n:Nat) (b:aT):FN (n+4) 122 [il b.1,il b.2]=some (0,[.d (il (if Eb b=true then 0 else 90))]):=by
 rw [FS,G2]
 simp only [G122,an,ab,ae,aJ,ac,ah,EM,au,Eb]
 by_cases h1:eZ b.1 1 99=true
 ·simp only [h1,K1,Jq,Jx,Kf]
  by_cases h2:eZ b.2 0 63=true
  ·have h3:=sU.1 h2
   simp only [h2,K1,Jq,Jx,Kf,bf,l13 _ _ h3,ab,ae,aB,ac,Ju]
   by_cases h4:2≤vM b.2
   ·rw [Kg (by omega),K9 h4]
   ·rw [K9 (by omega),Kg h4]
  ·simp [h2]
 ·simp [h1]
end
section
open Go.RowKit Go.Proofs
def rB (b:aT):List D:=[il b.1,il b.2]
def rS (s:aY):List D:=[il s.1,il s.2.1,il s.2.2.1,il s.2.2.2]
def rT (t:ge):List D:=[il t.1,il t.2.1,il t.2.2]
def dL {α:Type} (n:Nat) (f:α→List D) (o:Option (List α)):D:=Ed n (o.map (·.map f))
abbrev dB (o:Option (List aT)):D:=dL 2 rB o
abbrev dS (o:Option (List aY)):D:=dL 4 rS o
abbrev dT (o:Option (List ge)):D:=dL 3 rT o
section
variable {Fn:Nat→List D→az} {FnD:D→List Sh→List D→az} {m:Nat}
theorem qz {α β:Type} (f:α→β) (o:Option (List α)):(o.map (·.map f)).getD []=(o.getD []).map f:=by cases o<;>rfl
theorem b7 {α:Type} (n:Nat) (f:α→List D) (o:Option (List α)) (k:D→az):(aa Fn FnD m).lenD (dL n f o) k=k (il (o.getD []).length):=by rw [dL,yU,qz,K5]
theorem sZ {α:Type} {n:Nat} {f:α→List D} {o:Option (List α)} {i:Nat} {c:α} (h:(o.getD [])[i]?=some c) (hn:(f c).length=n) (k:List D→az):(aa Fn FnD m).rowD n (dL n f o) (il i) k=k (f c):=by
 rw [dL,uO,K9 (by omega),qz,Km,Kn,h];simp [hn]
theorem jb {α:Type} (n:Nat) (f:α→List D) (o:Option (List α)) (k:Rr→az):(aa Fn FnD m).rowsD n (dL n f o) k=k ((o.getD []).map f):=by rw [dL,uN,qz]
theorem nilL {α:Type} (n:Nat) (f:α→List D) (o:Option (List α)) (a b:az):(aa Fn FnD m).nilE (dL n f o) a b=if o.isNone=true then a else b:=by rw [dL,yT];simp
theorem bO {o:Option (List aT)} {i:Nat} {c:aT} (h:(o.getD [])[i]?=some c) (k:List D→az):(aa Fn FnD m).rowD 2 (dB o) (il i) k=k (rB c):=sZ h rfl k
theorem lx {o:Option (List aY)} {i:Nat} {c:aY} (h:(o.getD [])[i]?=some c) (k:List D→az):(aa Fn FnD m).rowD 4 (dS o) (il i) k=k (rS c):=sZ h rfl k
theorem eh {o:Option (List ge)} {i:Nat} {c:ge} (h:(o.getD [])[i]?=some c) (k:List D→az):(aa Fn FnD m).rowD 3 (dT o) (il i) k=k (rT c):=sZ h rfl k
theorem eC (b:aT):(aa Fn FnD m).cell (rB b) 0=il b.1:=rfl
theorem fL (b:aT):(aa Fn FnD m).cell (rB b) 1=il b.2:=rfl
theorem wX (b:aY):(aa Fn FnD m).cell (rS b) 0=il b.1:=rfl
theorem vU (b:aY):(aa Fn FnD m).cell (rS b) 1=il b.2.1:=rfl
theorem wW (b:aY):(aa Fn FnD m).cell (rS b) 2=il b.2.2.1:=rfl
theorem vS (b:aY):(aa Fn FnD m).cell (rS b) 3=il b.2.2.2:=rfl
theorem kr (b:ge):(aa Fn FnD m).cell (rT b) 0=il b.1:=rfl
theorem nr (b:ge):(aa Fn FnD m).cell (rT b) 1=il b.2.1:=rfl
theorem nq (b:ge):(aa Fn FnD m).cell (rT b) 2=il b.2.2:=rfl
end
theorem tx {b:aT} (h:Eb b=true):j7 b.2:=by
 simp only [Eb,Js] at h
 exact sU.1 h.2.1
theorem b5 (i:Nat):((i+1:Nat):Int)=(i:Int)+1:=by omega
theorem iX (b:Bool) (x:Int) (hx:x≠0):decide ((if b=true then (0:Int) else x)≠0)=!b:=by cases b<;>simp [hx]
theorem l62 (n:Nat) (me:Int) (o:Option (List aT)) (hl:(o.getD []).length≤4611686018427387904) :
  bh [we (RP (n+3))] M0 0 [.d (il me),.d (dB o),.d (dB o),.d (il (o.getD []).length),.d (il 0)] =
   if le (qh me) (·.1) none (o.getD [])=true then some (1,[.d (dB o)]) else some (0,[.d (bl false)]):=by
 have:=aZ (β:=Unit) (o.getD []) hl (we (RP (n+3))) (fun i _=>[.d (il me),.d (dB o),.d (dB o),.d (il (o.getD []).length),.d (il i)]) (fun _ _=>True)
  (fun i r _=>if le (qh me) (·.1) (fJ (·.1) (o.getD []) i) r=true then some (1,[.d (dB o)]) else some (0,[.d (bl false)]))
  (fun _ k _=>by simp [we,le]) ?_ M0 () trivial (cc hl)
 ·exact this
 ·intro i e r _ k hi hd hlt hw _ ih
  have ih':=ih () trivial
  rw [jP _ hi,b5] at ih'
  have hlt':(i:Int) < ((o.getD []).length:Int):=by omega
  simp only [we,ae,aj,aB,ac,hlt',Jt,Jv,bO hi,eC,fL,an,s12,ab,ah,br,iX _ 90 (by omega),au,bz,aF,hw,le,qh,b8]
  by_cases h1:Eb e=true
  ·simp only [h1,K1,Jq,Jx,Kf,pR _ _ (tx h1),ab,ae,aJ,ac]
   by_cases h2:bU e.2 me=true
   ·simp only [h2,K1,Jq,Jx,Kf]
    by_cases h0:i=0
    ·subst h0
     rw [Kg (by simp)]
     simp only [fJ,Jv,tz,Kf]
     exact ih'
    ·rw [K9 (by simp;omega),q9,mG (by omega) (by omega)]
     have hp:(o.getD [])[i - 1]?=some ((o.getD [])[i - 1]'(by omega)):=Jz (by omega)
     rw [bO hp]
     simp only [eC,ox,ac,Ju]
     have hq:fJ (·.1) (o.getD []) i=some ((o.getD [])[i - 1]'(by omega)).1:=by simp [fJ,h0,hp]
     rw [hq]
     by_cases h3:e.1≤((o.getD [])[i - 1]'(by omega)).1
     ·simp only [h3,Jv,tz,show ¬ (((o.getD [])[i - 1]'(by omega)).1 < e.1) by omega,Jw,Mj,Jq,Jx]
     ·simp only [h3,Jx,tz,show (((o.getD [])[i - 1]'(by omega)).1 < e.1) by omega,Jt,Kf]
      exact ih'
   ·simp [h2]
  ·simp [h1]
theorem s62 (n:Nat) (me:Int) (o:Option (List aT)) (hl:(o.getD []).length≤4611686018427387904):FN (n+4) 81 [il me,dB o]=some (0,[.d (bl (cC me (o.getD [])))]):=by
 rw [FS,IG]
 simp only [G81,b7,bf,ah,l62 _ _ _ hl,cC]
 by_cases h:le (qh me) (·.1) none (o.getD [])=true
 ·simp only [h,Jv,Kf,bH,ae,b7,ic,au]
  congr 5
  simp
  omega
 ·simp [h]
theorem l65 (n:Nat) (me:Int) (o:Option (List aT)) (hl:(o.getD []).length≤4611686018427387904) :
  bh [wd (RP (n+4))] M0 0 [.d (il me),.d (dB o),.d (il 0)] =
   if le (qh me) (·.1) none (o.getD [])=true then some (1,[.d (dB o)]) else some (0,[.d (bl false)]):=by
 have:=aZ (β:=Unit) (o.getD []) hl (wd (RP (n+4))) (fun i _=>[.d (il me),.d (dB o),.d (il i)]) (fun _ _=>True)
  (fun i r _=>if le (qh me) (·.1) (fJ (·.1) (o.getD []) i) r=true then some (1,[.d (dB o)]) else some (0,[.d (bl false)]))
  (fun _ k _=>by simp [wd,le,b7]) ?_ M0 () trivial (cc hl)
 ·exact this
 ·intro i e r _ k hi hd hlt hw _ ih
  have ih':=ih () trivial
  rw [jP _ hi,b5] at ih'
  have hlt':(i:Int) < ((o.getD []).length:Int):=by omega
  simp only [wd,b7,ae,aj,aB,ac,hlt',Jt,Jv,bO hi,eC,fL,an,s13,ab,ah,br,iX _ 90 (by omega),au,bz,aF,hw,le,qh,b8]
  by_cases h1:Eb e=true
  ·simp only [h1,K1,Jq,Jx,Kf,jE _ _ (tx h1),ab,ae,aJ,ac]
   by_cases h2:bU e.2 me=true
   ·simp only [h2,K1,Jq,Jx,Kf]
    by_cases h0:i=0
    ·subst h0
     rw [Kg (by simp)]
     simp only [fJ,Jv,tz,Kf]
     exact ih'
    ·rw [K9 (by simp;omega),q9,mG (by omega) (by omega)]
     have hp:(o.getD [])[i - 1]?=some ((o.getD [])[i - 1]'(by omega)):=Jz (by omega)
     rw [bO hp]
     simp only [eC,ox,ac,Ju]
     have hq:fJ (·.1) (o.getD []) i=some ((o.getD [])[i - 1]'(by omega)).1:=by simp [fJ,h0,hp]
     rw [hq]
     by_cases h3:e.1≤((o.getD [])[i - 1]'(by omega)).1
     ·simp only [h3,Jv,tz,show ¬ (((o.getD [])[i - 1]'(by omega)).1 < e.1) by omega,Jw,Mj,Jq,Jx]
     ·simp only [h3,Jx,tz,show (((o.getD [])[i - 1]'(by omega)).1 < e.1) by omega,Jt,Kf]
      exact ih'
   ·simp [h2]
  ·simp [h1]
theorem s65 (n:Nat) (me:Int) (o:Option (List aT)) (hl:(o.getD []).length≤4611686018427387904):FN (n+5) 98 [il me,dB o]=some (0,[.d (bl (cC me (o.getD [])))]):=by
 rw [FS,Iy]
 simp only [G98,bf,ah,l65 _ _ _ hl,cC]
 by_cases h:le (qh me) (·.1) none (o.getD [])=true
 ·simp only [h,Jv,Kf,bH,ae,b7,ic,au]
  congr 5
  simp
  omega
 ·simp [h]
end
section
open Go.RowKit Go.Proofs
theorem l16 (n:Nat) (a b:D) (o:Option (List ge)) (hl:(o.getD []).length≤4611686018427387904) :
  bh [wy (RP (n+2))] M0 0 [.d a,.d b,.d (dT o),.d (dT o),.d (il (o.getD []).length),.d (il 0)] =
   if le jQ (·.1) none (o.getD [])=true then some (1,[]) else some (0,[.d (il 93)]):=by
 have:=aZ (β:=Unit) (o.getD []) hl (wy (RP (n+2))) (fun i _=>[.d a,.d b,.d (dT o),.d (dT o),.d (il (o.getD []).length),.d (il i)]) (fun _ _=>True)
  (fun i r _=>if le jQ (·.1) (fJ (·.1) (o.getD []) i) r=true then some (1,[]) else some (0,[.d (il 93)]))
  (fun _ k _=>by simp [wy,le]) ?_ M0 () trivial (cc hl)
 ·exact this
 ·intro i e r _ k hi hd hlt hw _ ih
  have ih':=ih () trivial
  rw [jP _ hi,b5] at ih'
  have hlt':(i:Int) < ((o.getD []).length:Int):=by omega
  simp only [wy,ae,aj,aB,ac,hlt',Jt,Jv,eh hi,kr,nr,nq,an,s67,yK,ab,ah,au,bz,aF,hw,le,jQ,aJ]
  by_cases h1:eZ e.1 1 99=true
  ·simp only [h1,K1,Jq,Jx,Kf]
   by_cases h2:eZ e.2.1 0 99999=true
   ·simp only [h2,K1,Jq,Jx,Kf]
    by_cases h3:eZ e.2.2 0 99999=true
    ·simp only [h3,K1,Jq,Jx,Kf]
     by_cases h0:i=0
     ·subst h0
      rw [Kg (by simp)]
      simp only [fJ,Jv,tz,Kf]
      exact ih'
     ·rw [K9 (by simp;omega),q9,mG (by omega) (by omega)]
      have hp:(o.getD [])[i - 1]?=some ((o.getD [])[i - 1]'(by omega)):=Jz (by omega)
      rw [eh hp]
      simp only [kr,ox,ac,Ju]
      have hq:fJ (·.1) (o.getD []) i=some ((o.getD [])[i - 1]'(by omega)).1:=by simp [fJ,h0,hp]
      rw [hq]
      by_cases h3:e.1≤((o.getD [])[i - 1]'(by omega)).1
      ·simp only [h3,Jv,tz,show ¬ (((o.getD [])[i - 1]'(by omega)).1 < e.1) by omega,Jw,Mj,Jq,Jx]
      ·simp only [h3,Jx,tz,show (((o.getD [])[i - 1]'(by omega)).1 < e.1) by omega,Jt,Kf]
       exact ih'
    ·simp [h3]
   ·simp [h2]
  ·simp [h1]
theorem s16 (n:Nat) (a b:Int) (o:Option (List ge)) (hl:(o.getD []).length≤4611686018427387904):FN (n+3) 46 [il a,il b,dT o]=some (0,[.d (il (if gm a b (o.getD [])=true then 0 else 93))]):=by
 rw [FS,IW]
 simp only [G46,an,Ay,ab,ae,aJ,ac,au,ah,gm,ba,b7,bz,bf,l16 _ _ _ _ hl]
 by_cases h1:dR a=true
 ·by_cases h2:dR b=true
  ·by_cases h3:a=b
   ·simp [h2,h3]
   ·by_cases h4:(o.getD []).length≤4
    ·have h5:¬ ((4:Int) < (o.getD []).length):=by omega
     by_cases h6:le jQ (·.1) none (o.getD [])=true
     ·simp [h1,h2,h3,h4,h5,h6]
     ·simp [h1,h2,h3,h4,h5,h6]
    ·have h5:((4:Int) < (o.getD []).length):=by omega
     simp [h1,h2,h3,h4,h5]
  ·simp [h1,h2]
 ·simp [h1]
theorem l17 (n:Nat) (a b:D) (o:Option (List ge)) (hl:(o.getD []).length≤4611686018427387904) :
  bh [qY (RP (n+2))] M0 0 [.d a,.d b,.d (dT o),.d (il 0)] =
   if le jQ (·.1) none (o.getD [])=true then some (1,[]) else some (0,[.d (il 93)]):=by
 have:=aZ (β:=Unit) (o.getD []) hl (qY (RP (n+2))) (fun i _=>[.d a,.d b,.d (dT o),.d (il i)]) (fun _ _=>True)
  (fun i r _=>if le jQ (·.1) (fJ (·.1) (o.getD []) i) r=true then some (1,[]) else some (0,[.d (il 93)]))
  (fun _ k _=>by simp [qY,le,b7]) ?_ M0 () trivial (cc hl)
 ·exact this
 ·intro i e r _ k hi hd hlt hw _ ih
  have ih':=ih () trivial
  rw [jP _ hi,b5] at ih'
  have hlt':(i:Int) < ((o.getD []).length:Int):=by omega
  simp only [qY,b7,ae,aj,aB,ac,hlt',Jt,Jv,eh hi,kr,nr,nq,an,EM,ab,ah,au,bz,aF,hw,le,jQ,aJ]
  by_cases h1:eZ e.1 1 99=true
  ·simp only [h1,K1,Jq,Jx,Kf]
   by_cases h2:eZ e.2.1 0 99999=true
   ·simp only [h2,K1,Jq,Jx,Kf]
    by_cases h3:eZ e.2.2 0 99999=true
    ·simp only [h3,K1,Jq,Jx,Kf]
     by_cases h0:i=0
     ·subst h0
      rw [Kg (by simp)]
      simp only [fJ,Jv,tz,Kf]
      exact ih'
     ·rw [K9 (by simp;omega),q9,mG (by omega) (by omega)]
      have hp:(o.getD [])[i - 1]?=some ((o.getD [])[i - 1]'(by omega)):=Jz (by omega)
      rw [eh hp]
      simp only [kr,ox,ac,Ju]
      have hq:fJ (·.1) (o.getD []) i=some ((o.getD [])[i - 1]'(by omega)).1:=by simp [fJ,h0,hp]
      rw [hq]
      by_cases h3:e.1≤((o.getD [])[i - 1]'(by omega)).1
      ·simp only [h3,Jv,tz,show ¬ (((o.getD [])[i - 1]'(by omega)).1 < e.1) by omega,Jw,Mj,Jq,Jx]
      ·simp only [h3,Jx,tz,show (((o.getD [])[i - 1]'(by omega)).1 < e.1) by omega,Jt,Kf]
       exact ih'
    ·simp [h3]
   ·simp [h2]
  ·simp [h1]
theorem s17 (n:Nat) (a b:Int) (o:Option (List ge)) (hl:(o.getD []).length≤4611686018427387904):FN (n+3) 109 [il a,il b,dT o]=some (0,[.d (il (if gm a b (o.getD [])=true then 0 else 93))]):=by
 rw [FS,Gb]
 simp only [G109,an,EN,ab,ae,aJ,ac,au,ah,gm,ba,b7,bz,bf,l17 _ _ _ _ hl]
 by_cases h1:dR a=true
 ·by_cases h2:dR b=true
  ·by_cases h3:a=b
   ·simp [h2,h3]
   ·by_cases h4:(o.getD []).length≤4
    ·have h5:¬ ((4:Int) < (o.getD []).length):=by omega
     by_cases h6:le jQ (·.1) none (o.getD [])=true
     ·simp [h1,h2,h3,h4,h5,h6]
     ·simp [h1,h2,h3,h4,h5,h6]
    ·have h5:((4:Int) < (o.getD []).length):=by omega
     simp [h1,h2,h3,h4,h5]
  ·simp [h1,h2]
 ·simp [h1]
def dl:D:=.lit (.slice none 0 0)
def eP (e:Int):az:=some (0,[.d (il 0),.d dl,.d dl,.d (il 0),.d (il e)])
theorem n5:dS none=dl:=rfl
theorem s63 (n:Nat) (o:Option (List aT)) (hl:(o.getD []).length≤4):FN (n+1) 83 [dB o]=some (0,[.d (dB o)]):=by
 rw [FS,IE]
 simp only [G83,nilL,au,fw,jb,aC,aO,aQ,K8,aS,Jv,aH,K4,K5,aL,bp,K7,aN,dt]
 cases o with
 | none=>rfl
 | some l =>
  simp only [M1] at hl ⊢
  rw [Kg (by simp),K9 (by omega)]
  rw [show l.length=(l.map rB).length by simp,T1]
  rfl
theorem s10 (n:Nat) (me:Int) (o:Option (List aT)) (hl:(o.getD []).length≤4611686018427387904):FN (n+6) 69 [il me,dB o] =
  if dR me=true then (if cC me (o.getD [])=true then some (0,[.d (il me),.d (dB (some (o.getD []))),.d dl,.d (il 0),.d (il 0)]) else eP 90) else eP 1:=by
 rw [FS,IS]
 simp only [G69,an,EN,s65 _ _ _ hl,ab,ae,aJ,ac,au,ah,fw,eP,jb,aC,aO,aQ,K8,aS,Jv,aH,K4,K5,aL,bp,K7,aN,dt]
 by_cases h1:dR me=true
 ·by_cases h2:cC me (o.getD [])=true
  ·have h3:(o.getD []).length≤4:=by simp only [cC,Js,Ju] at h2;exact h2.2
   simp only [h1,h2,K1,Jq,Jx,Jv]
   rw [K9 (by omega),show (o.getD []).length=((o.getD []).map rB).length by simp,T1]
   rfl
  ·simp only [h1,h2,K1,M6,Jq,Jx,Jv];rfl
 ·simp only [h1,M6,Jq,Jx,Jv];rfl
theorem l66 (n:Nat) (o q:Option (List aY)) (hl:(o.getD []).length≤4611686018427387904) (he:(o.getD []).length=(q.getD []).length) :
  bh [wA (RP n)] M0 0 [.d (dS o),.d (dS q),.d (il 0)]=if o.getD []=q.getD [] then some (1,[]) else some (0,[.d (bl false)]):=by
 have:=aZ (β:=Unit) (o.getD []) hl (wA (RP n)) (fun i _=>[.d (dS o),.d (dS q),.d (il i)]) (fun _ _=>True)
  (fun i r _=>if r=(q.getD []).drop i then some (1,[]) else some (0,[.d (bl false)]))
  (fun _ k _=>by simp [wA,b7,he]) ?_ M0 () trivial (cc hl)
 ·simpa using this
 ·intro i e r _ k hi hd hlt hw _ ih
  have ih':=ih () trivial
  rw [b5] at ih'
  have hlt':(i:Int) < ((o.getD []).length:Int):=by omega
  have hq:(q.getD [])[i]?=some ((q.getD [])[i]'(by omega)):=Jz (by omega)
  rw [Ti (show i < (q.getD []).length by omega)]
  simp only [wA,b7,ae,aj,aB,ac,hlt',Jt,Jv,lx hi,lx hq,wX,vU,wW,vS,Cy,au,b8,ah,aF,hw,Vg]
  generalize (q.getD [])[i]'(by omega)=d
  by_cases h:e=d
  ·subst h
   simpa using ih'
  ·have h':¬ (e.1=d.1∧e.2.1=d.2.1∧e.2.2.1=d.2.2.1∧e.2.2.2=d.2.2.2):=fun ⟨a,b,c,f⟩=>h (by ext<;>assumption)
   simp [h,h']
theorem s66 (n:Nat) (o q:Option (List aY)) (hl:(o.getD []).length≤4611686018427387904):FN (n+1) 27 [dS o,dS q]=some (0,[.d (bl (decide (o.getD []=q.getD [])))]):=by
 rw [FS,J1]
 simp only [G27,b7,br,ac,au,b8,bf,ah]
 by_cases he:(o.getD []).length=(q.getD []).length
 ·rw [Kg (by simp;omega),l66 _ _ _ hl he]
  by_cases h:o.getD []=q.getD []<;>simp [h]
 ·have h:o.getD []≠q.getD []:=fun h=>he (by rw [h])
  rw [K9 (by simp;omega)];simp [h]
theorem l11 (n:Nat) (a0 a2 a3 a4 a6 a7:D) (o q:Option (List aT)) (hl:(o.getD []).length≤4611686018427387904) (he:(o.getD []).length=(q.getD []).length) :
  bh [wC (RP n)] M0 0 [.d a0,.d (dB o),.d a2,.d a3,.d a4,.d (dB q),.d a6,.d a7,.d (il 0)]=if o.getD []=q.getD [] then some (1,[.d a0,.d (dB o),.d a2,.d a3,.d a4,.d (dB q),.d a6,.d a7]) else some (0,[.d (bl false)]):=by
 have:=aZ (β:=Unit) (o.getD []) hl (wC (RP n)) (fun i _=>[.d a0,.d (dB o),.d a2,.d a3,.d a4,.d (dB q),.d a6,.d a7,.d (il i)]) (fun _ _=>True)
  (fun i r _=>if r=(q.getD []).drop i then some (1,[.d a0,.d (dB o),.d a2,.d a3,.d a4,.d (dB q),.d a6,.d a7]) else some (0,[.d (bl false)]))
  (fun _ k _=>by simp [wC,b7,he]) ?_ M0 () trivial (cc hl)
 ·simpa using this
 ·intro i e r _ k hi hd hlt hw _ ih
  have ih':=ih () trivial
  rw [b5] at ih'
  have hlt':(i:Int) < ((o.getD []).length:Int):=by omega
  have hq:(q.getD [])[i]?=some ((q.getD [])[i]'(by omega)):=Jz (by omega)
  rw [Ti (show i < (q.getD []).length by omega)]
  simp only [wC,b7,ae,aj,aB,ac,hlt',Jt,Jv,bO hi,bO hq,eC,fL,CA,au,b8,ah,aF,hw,Vg]
  generalize (q.getD [])[i]'(by omega)=d
  by_cases h:e=d
  ·subst h
   simpa using ih'
  ·have h':¬ (e.1=d.1∧e.2=d.2):=fun ⟨a,b⟩=>h (by ext<;>assumption)
   simp [h,h']
theorem s11 (n:Nat) (a b h k:Int) (o q:Option (List aT)) (s t:Option (List aY)) (hl:(o.getD []).length≤4611686018427387904) (hs:(s.getD []).length≤4611686018427387904) :
  FN (n+2) 22 [il a,dB o,dS s,il h,il b,dB q,dS t,il k]=some (0,[.d (bl (decide (a=b∧h=k∧o.getD []=q.getD []∧s.getD []=t.getD [])))]):=by
 rw [FS,J4]
 simp only [G22,br,ac,b7,au,b8,bf,ah]
 by_cases h1:a=b
 ·by_cases h2:h=k
  ·by_cases he:(o.getD []).length=(q.getD []).length
   ·simp only [h1,h2,My,Mf,Jw,Jq,Jx,Tp]
    rw [Kg (by simp;omega),l11 _ _ _ _ _ _ _ _ _ hl he]
    by_cases h3:o.getD []=q.getD []
    ·simp only [h3,Jv,bH,aj,ae,an,s66 _ _ _ hs,ab,Tp]
    ·simp [h3]
   ·have h3:o.getD []≠q.getD []:=fun h=>he (by rw [h])
    simp only [h1,h2,My,Mf,Jw,Jq,Jx,Tp]
    rw [K9 (by simp;omega)];simp [h3]
  ·simp [h1,h2]
 ·simp [h1]
end
section
open Go.RowKit Go.Proofs
noncomputable abbrev FD (n:Nat):D→List Sh→List D→az:=dW Tryz.prog (fm tb Tryz.prog) (FN n)
theorem E3 {P:Program} {cfg:Cf3} {Fn:Nat→List D→az} {f:Nat} {caps:List D} {sh:List Sh} {ds:List D} {vs:List VD} (h3:f < 2000000) (hv:fp sh ds=some vs):dW P cfg Fn (.fn f caps) sh ds=FnV cfg Fn f (vs++caps.map .one):=by
 simp only [dW,hv,K9 h3]
theorem Jn {T:Tb3} {P:Program} {Fn:Nat→List D→az} {f:Nat} {caps:List D} {sh sh':List Sh} {ds:List D} {vs:List VD} {xs:List D} {z:D} (hlt:f < 1000000) (hv:fp sh ds=some vs) (hash:T.ash f=some sh') (hx:de sh' (vs++caps.map .one)=some xs)
  (hr:T.rsk f=[[(false,[.d])]]) (hf:Fn f xs=some (0,[.d z])):dW P (fm T P) Fn (.fn f caps) sh ds=some (0,[.d z]):=by
 have h1:(fm T P).ash f=some sh':=by simp only [fm,K9 hlt,hash]
 have h2:xR ((fm T P).rsk f)=true:=by simp only [fm,hr];rfl
 have h3:f < 2000000:=Mq hlt (by decide)
 rw [E3 h3 hv]
 simp only [FnV,h1,hx,h2,Jv,hf]
theorem FD_fn {n f:Nat} {caps:List D} {sh:List Sh} (sh':List Sh) {ds:List D} (vs:List VD) {xs:List D} {z:D} (hlt:f < 1000000) (hv:fp sh ds=some vs) (hash:tb.ash f=some sh') (hx:de sh' (vs++caps.map .one)=some xs)
  (hr:tb.rsk f=[[(false,[.d])]]) (hf:FN n f xs=some (0,[.d z])):FD n (.fn f caps) sh ds=some (0,[.d z]):=Jn hlt hv hash hx hr hf
theorem s113 (n:Nat) (a b c:Int):FN (n+1) 88 [il a,il b,il c]=some (0,[.d (bl (decide (a=c)))]):=by rw [FS,IB];simp [G88]
theorem d113 (n:Nat) (a b c:Int):FD (n+1) (.fn 88 [.dp [il c] 0]) [.agg 2] [il a,il b]=some (0,[.d (bl (decide (a=c)))]) :=
 FD_fn [.agg 2,.ptr 1] [.agg [il a,il b]] (by decide) rfl (by kernel_rfl) rfl (by kernel_rfl) (s113 n a b c)
def oE (f:Int) (l:List aT):Int:=match dg f l with
 | some i=>(i:Int)
 | none=>-1
def Fg (f:Int) (i:Nat) (r:List aT):az:=match dg f r with
 | some j=>some (0,[.d (il ((i+j:Nat):Int))])
 | none=>some (1,[])
theorem vh (f:Int) (l:List aT) (k:List Yr→az) (k':List Yr→az) {Fn:Nat→List D→az} {FnD:D→List Sh→List D→az} {m:Nat} (h1:∀ z,k [.d z]=some (0,[.d z])) (h2:k' []=some (0,[.d (il (-1))])) :
  (aa Fn FnD m).bnd (Fg f 0 l) [k,k']=some (0,[.d (il (oE f l))]):=by
 unfold Fg oE
 cases dg f l with
 | none=>simp [h2]
 | some j=>simp [h1]
theorem vi (f:Int) (i:Nat) (e:aT) (r:List aT):Fg f i (e::r)=if e.1=f then some (0,[.d (il i)]) else Fg f (i+1) r:=by
 unfold Fg
 rw [dg]
 by_cases h:e.1=f
 ·simp [h]
 ·rw [Kg h,Kg h]
  cases dg f r with
  | none=>rfl
  | some j=>simp only [M3];congr 5;omega
theorem lw (n:Nat) (o:Option (List aT)) (hl:(o.getD []).length≤4611686018427387904) (f:Int):FN (n+2) 87 [dB o,.fn 88 [.dp [il f] 0]]=some (0,[.d (il (oE f (o.getD [])))]):=by
 rw [FS,IC]
 simp only [G87,b7,ah,bf]
 have:=aZ (β:=Unit) (o.getD []) hl (Aj (RP (n+1))) (fun i _=>[.d (dB o),.d (.fn 88 [.dp [il f] 0]),.d (il (o.getD []).length),.d (il i)]) (fun _ _=>True)
  (fun i r _=>Fg f i r)
  (fun _ k _=>by simp [Aj,Fg,dg]) ?_ M0 () trivial (cc hl)
 ·simp only [Tf] at this
  rw [this]
  exact vh _ _ _ _ (fun _=>rfl) rfl
 ·intro i e r _ k hi hd hlt hw _ ih
  have ih':=ih () trivial
  rw [b5] at ih'
  have hlt':(i:Int) < ((o.getD []).length:Int):=by omega
  rw [vi,← ih']
  simp only [Aj,ae,aj,aB,ac,hlt',Jt,Jv,bO hi,eC,fL,yV,d113,ab,au,ah,aF,hw,Ju]
theorem lD (n:Nat) (o:Option (List aT)) (hl:(o.getD []).length≤4611686018427387904) (f:Int):FN (n+1) 110 [dB o,il f]=some (0,[.d (il (oE f (o.getD [])))]):=by
 rw [FS,Ga]
 simp only [G110,ah,bf]
 have:=aZ (β:=Unit) (o.getD []) hl (ue (RP n)) (fun i _=>[.d (dB o),.d (il f),.d (il i)]) (fun _ _=>True)
  (fun i r _=>Fg f i r)
  (fun _ k _=>by simp [ue,Fg,dg,b7]) ?_ M0 () trivial (cc hl)
 ·simp only [Tf] at this
  rw [this]
  exact vh _ _ _ _ (fun _=>rfl) rfl
 ·intro i e r _ k hi hd hlt hw _ ih
  have ih':=ih () trivial
  rw [b5] at ih'
  have hlt':(i:Int) < ((o.getD []).length:Int):=by omega
  rw [vi,← ih']
  simp only [ue,b7,ae,aj,aB,ac,hlt',Jt,Jv,bO hi,eC,ba,au,ah,aF,hw,Ju]
theorem cR {f:Int} {l:List aT}:oE f l < 0↔dg f l=none:=by
 unfold oE
 cases h:dg f l with
 | none=>simp
 | some i=>simp
theorem sX (n:Nat) (s:aY):FN (n+3) 53 [il s.1,il s.2.1,il s.2.2.1,il s.2.2.2]=some (0,[.d (bl (gQ s))]):=by
 rw [FS,IU]
 simp only [G53,an,s67,ab,ae,ah,b8,aJ,ac,ba,au,gQ,Ju]
 by_cases h0:eZ s.2.1 1 99=true
 ·by_cases h1:s.1=1
  ·by_cases h:dR s.2.2.1=true<;>simp [h0,h1,h,Ay,yK]
  ·by_cases h3:s.1=3
   ·by_cases h:dR s.2.2.1=true<;>simp [h0,h3,h,Ay,yK]
   ·by_cases h2:s.1=2
    ·by_cases h:s.2.2.1=0<;>simp [h0,h2,h,Ay,yK]
    ·by_cases h4:s.1=4
     ·by_cases h:s.2.2.1=0<;>simp [h0,h4,h,Ay,yK]
     ·simp [h0,h1,h2,h3,h4]
 ·simp [h0]
theorem s73 (n:Nat) (s:aY):FN (n+3) 57 [il s.1,il s.2.1,il s.2.2.1,il s.2.2.2]=some (0,[.d (bl (gQ s))]):=by
 rw [FS,IT]
 simp only [G57,an,EM,ab,ae,ah,b8,aJ,ac,ba,au,gQ,Ju]
 by_cases h0:eZ s.2.1 1 99=true
 ·by_cases h1:s.1=1
  ·by_cases h:dR s.2.2.1=true<;>simp [h0,h1,h,EN,EM]
  ·by_cases h3:s.1=3
   ·by_cases h:dR s.2.2.1=true<;>simp [h0,h3,h,EN,EM]
   ·by_cases h2:s.1=2
    ·by_cases h:s.2.2.1=0<;>simp [h0,h2,h,EN,EM]
    ·by_cases h4:s.1=4
     ·by_cases h:s.2.2.1=0<;>simp [h0,h4,h,EN,EM]
     ·simp [h0,h1,h2,h3,h4]
 ·simp [h0]
theorem pJ (z:Int):decide (z.tmod 2=0)=decide (z % 2=0):=by
 congr 1
 rw [←Int.dvd_iff_tmod_eq_zero,Int.dvd_iff_emod_eq_zero]
theorem E9 (n:Nat) (me o no:Int):FN (n+1) 49 [il me,il o,il no]=some (0,[.d (bl (aK me o no))]):=by
 rw [FS,IV]
 simp only [G49,aB,ah,eF _ _ _ _ (show (2:Int)≠0 by decide),ba,pJ,e7,au,aK]
end
end Go.VE
