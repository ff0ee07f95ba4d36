/- The functions. -/
import Derived.Test.YtaagapoglhndjaaDoorMf0
import Derived.Test.YtaagapoglhndjaaDoorMf1
import Derived.Test.YtaagapoglhndjaaDoorMh
import Derived.KernelRfl
namespace Go.VE
section
abbrev aJ:=Int×Int
abbrev ba:=Int×Int×Int×Int
def fg (n lo hi:Int):Bool:=decide (lo≤n)&&decide (n≤hi)
def gz (n:Int):Bool:=fg n 0 5
def cE (P o:Int):Bool:=gz o&&P.toNat.testBit o.toNat
def DP (P:Int):Nat:=((List.range 6).filter fun o=>P.toNat.testBit o).length
def HN (b:aJ):Bool:=fg b.1 1 99&&(fg b.2 0 63&&decide (2≤DP b.2))
def iL (s:ba):Bool:=fg s.2.1 1 99 &&
 (if s.1=1∨s.1=3 then gz s.2.2.1&&fg s.2.2.2 1 99999
 else if s.1=2 then decide (s.2.2.1=0)&&fg s.2.2.2 1 99999
 else if s.1=4 then decide (s.2.2.1=0)&&fg s.2.2.2 0 1 else false)
def tE:Option Int→Int→Bool
 | none,_=>true
 | some q,x=>decide (q < x)
def p9 {α:Type} (ok:α→Bool) (src:α→Int):Option Int→List α→Bool
 | _,[]=>true
 | p,e::r=>ok e&&(tE p (src e)&&p9 ok src (some (src e)) r)
def xB (me:Int) (b:aJ):Bool:=HN b&&cE b.2 me
def cr (me:Int) (l:List aJ):Bool:=p9 (xB me) (·.1) none l&&decide (l.length≤4)
abbrev j8:=Int×Int×Int
def mt (t:j8):Bool:=fg t.1 1 99&&(fg t.2.1 0 99999&&fg t.2.2 0 99999)
def l8 (a b:Int) (l:List j8):Bool:=gz a&&(gz b&&(!decide (a=b)&&(decide (l.length≤4)&&p9 mt (·.1) none l)))
structure Fld where
 no:Nat→Int
 af:Nat→Bool
 ask:Nat→Int
 wants:Int
 opn:Bool
def fd0:Fld:=⟨fun _=>0,fun _=>false,fun _=>0,0,false⟩
def bv {α:Type} (f:Nat→α) (i:Nat) (x:α):Nat→α:=fun j=>if i=j then x else f j
def aK (me o no:Int):Bool:=decide (me < o)==decide (no % 2=0)
def HG (me P:Int):List Nat:=(List.range 6).filter fun o=>!decide ((o:Int)=me)&&P.toNat.testBit o
def bQ (me P:Int) (f:Fld):List Nat:=(HG me P).filter fun o=>!aK me o (f.no o)
def aV (me P:Int) (f:Fld) (s:ba):Option Fld :=
 if s.1=1 then (if decide (s.2.2.1=me)||!cE P s.2.2.1||f.opn||decide (s.2.2.2≤f.no s.2.2.1.toNat) then none
  else some { f with no:=bv f.no s.2.2.1.toNat s.2.2.2,af:=bv f.af s.2.2.1.toNat true })
 else if s.1=2 then (if s.2.2.2≤f.wants then none else some { f with wants:=s.2.2.2,af:=fun _=>false })
 else if s.1=3 then (if decide (s.2.2.1=me)||!cE P s.2.2.1||decide (s.2.2.2≤f.ask s.2.2.1.toNat) then none
  else some { f with ask:=bv f.ask s.2.2.1.toNat s.2.2.2 })
 else if (f.opn==decide (s.2.2.2=1))||(decide (s.2.2.2=1)&&!(bQ me P f).isEmpty) then none else some { f with opn:=decide (s.2.2.2=1) }
def ay (me:Int) (b:aJ):Fld→List ba→Fld×Bool
 | f,[]=>(f,true)
 | f,s::r=>if s.2.1=b.1 then (match aV me b.2 f s with
  | none=>(f,false)
  | some f'=>ay me b f' r) else ay me b f r
def cM (n:Int):List aJ→Option Nat
 | []=>none
 | b::r=>if b.1=n then some 0 else (cM n r).map (·+1)
def bF (me:Int) (bs:List aJ):List Fld→List ba→List Fld×Bool
 | fs,[]=>(fs,true)
 | fs,s::r=>if iL s then (match cM s.2.1 bs with
  | none=>(fs,false)
  | some i=>match aV me (bs.getD i (0,0)).2 (fs.getD i fd0) s with
   | none=>(fs,false)
   | some f=>bF me bs (fs.set i f) r) else (fs,false)
theorem ea {n:Int}:∀ {bs:List aJ} {i:Nat},cM n bs=some i→i < bs.length∧(bs.getD i (0,0)).1=n
 | [],i,h=>by cases h
 | b::r,i,h=>by
  unfold cM at h
  split at h
  ·cases h;rename_i h;exact ⟨by simp,h⟩
  ·cases hr:cM n r with
   | none=>simp [hr] at h
   | some j =>
    simp [hr] at h;subst h
    have:=ea hr
    exact ⟨by simp;omega,by simpa using this.2⟩
def kw (bs:List aJ):Prop:=bs.Pairwise fun a b=>a.1 < b.1
theorem ud {bs:List aJ} (h:kw bs):∀ {i:Nat},(hi:i < bs.length)→cM bs[i].1 bs=some i:=by
 induction bs with
 | nil=>intro i hi;simp at hi
 | cons b r ih =>
  intro i hi
  cases h with
  | cons h1 h2 =>
   unfold cM
   cases i with
   | zero=>simp
   | succ i =>
    have hi':i < r.length:=by simpa using hi
    have:=h1 r[i] (by simp)
    have hn:b.1≠r[i].1:=by omega
    simp only [List.getElem_cons_succ,hn,Ju,ih h2 hi',Kv]
theorem jS {me:Int} {bs:List aJ} (hr:kw bs):∀ (l:List ba) (fs:List Fld),fs.length=bs.length →
  (bF me bs fs l).1.length=bs.length∧((bF me bs fs l).2=true →
   (∀ s∈l,iL s=true∧cM s.2.1 bs≠none)∧∀ i,i < bs.length→ay me (bs.getD i (0,0)) (fs.getD i fd0) l=((bF me bs fs l).1.getD i fd0,true)) ∧
  ((∀ s∈l,iL s=true∧cM s.2.1 bs≠none)→(∀ i,i < bs.length→(ay me (bs.getD i (0,0)) (fs.getD i fd0) l).2=true)→(bF me bs fs l).2=true)
 | [],fs,hl=>⟨hl,fun _=>⟨by simp,fun i _=>rfl⟩,fun _ _=>rfl⟩
 | s::r,fs,hl=>by
  unfold bF
  by_cases h1:iL s=true
  ·rw [K1 h1]
   cases hb:cM s.2.1 bs with
   | none=>exact ⟨hl,by simp,fun h=>absurd hb (h s (by simp)).2⟩
   | some i =>
    obtain ⟨hi,hf⟩:=ea hb
    simp only
    cases hs:aV me (bs.getD i (0,0)).2 (fs.getD i fd0) s with
    | none =>
     refine ⟨hl,by simp,fun _ h2=>?_⟩
     have:=h2 i hi
     unfold ay at this
     rw [K1 hf.symm,hs] at this
     cases this
    | some f =>
     have ih:=jS (me:=me) hr r (fs.set i f) (by simpa using hl)
     have key:∀ j,j < bs.length→ay me (bs.getD j (0,0)) (fs.getD j fd0) (s::r)=ay me (bs.getD j (0,0)) ((fs.set i f).getD j fd0) r:=by
      intro j hj
      rw [ay]
      by_cases hji:j=i
      ·subst hji
       rw [K1 hf.symm,hs]
       simp [K6,hl ▸ hj]
      ·have hne:¬ s.2.1=(bs.getD j (0,0)).1:=by
        intro he
        have e1:cM (bs.getD j (0,0)).1 bs=some j:=by
         have:=ud hr hj
         simpa [K6,hj] using this
        rw [←he,hb] at e1
        cases e1;exact hji rfl
       rw [Kc hne]
       simp [K6,Ne.symm hji]
     refine ⟨ih.1,fun h=>?_,fun h2 h3=>?_⟩
     ·obtain ⟨a,b⟩:=ih.2.1 h
      refine ⟨?_,fun j hj=>by rw [key j hj];exact b j hj⟩
      intro t ht
      cases ht with
      | head=>exact ⟨h1,by rw [hb];simp⟩
      | tail _ ht=>exact a t ht
     ·exact ih.2.2 (fun t ht=>h2 t (Ks _ ht)) fun j hj=>by rw [←key j hj];exact h3 j hj
  ·rw [Kc h1]
   exact ⟨hl,by simp,fun h=>absurd (h s (by simp)).1 h1⟩
theorem kJ {α:Type} {ok:α→Bool} {src:α→Int}:∀ {l:List α} {p:Option Int},p9 ok src p l=true→∀ c∈l,ok c=true∧tE p (src c)=true
 | [],_,_,c,hc=>by cases hc
 | b::r,p,h,c,hc=>by
  simp only [p9,Jn] at h
  obtain ⟨h1,h2,h3⟩:=h
  cases hc with
  | head=>exact ⟨h1,h2⟩
  | tail _ hc =>
   obtain ⟨a,b⟩:=kJ h3 c hc
   refine ⟨a,?_⟩
   cases p with
   | none=>rfl
   | some q=>simp only [tE,Jq] at *;omega
theorem eB {ok:aJ→Bool}:∀ {bs:List aJ} {p:Option Int},p9 ok (·.1) p bs=true→kw bs
 | [],_,_=>.nil
 | b::r,p,h=>by
  simp only [p9,Jn] at h
  refine .cons (fun c hc=>?_) (eB h.2.2)
  have:=(kJ h.2.2 c hc).2
  simpa [tE] using this
end
section
open Go.RowKit Go.Proofs
theorem dm {β:Type} (N:Nat) (hN:N≤4611686018427387904) (body:(Nat→List Yr→az)→List Yr→az) (en:Nat→β→List Yr) (I:Nat→β→Prop) (spec:Nat→β→az)
  (h0:∀ b k,I N b→body k (en N b)=spec N b)
  (h1:∀ i b k,i < N→I i b→IntKind.i64.wrap ((i:Int)+1)=(i:Int)+1→(∀ b',I (i+1) b'→k 0 (en (i+1) b')=spec (i+1) b')→body k (en i b)=spec i b)
  (b:β) (hb:I 0 b):bm [body] M0 0 (en 0 b)=spec 0 b:=by
 refine kM (σ:=Nat×β) [body] (fun s=>(0,en s.1 s.2)) (fun s=>N - s.1) (fun s=>s.1≤N∧I s.1 s.2) (fun s=>spec s.1 s.2) ?_ M0 (0,b) ⟨by simp,hb⟩ (by simp only [M0];omega)
 rintro ⟨i,b⟩ k ⟨hi,hI⟩ ih
 refine ⟨body,rfl,?_⟩
 simp only at hi
 by_cases h:i < N
 ·exact h1 i b k h hI (fD h hN) fun b' hb'=>ih (i+1,b') ⟨h,hb'⟩ (by simp only;omega)
 ·have:i=N:=by omega
  subst this
  exact h0 b k hI
def lh {α:Type} (src:α→Int) (l:List α) (i:Nat):Option Int:=if i=0 then none else (l[i - 1]?).map src
theorem pZ {α:Type} (src:α→Int) {l:List α} {i:Nat} {c:α} (h:l[i]?=some c):lh src l (i+1)=some (src c):=by
 simp [lh,h]
theorem q8 {i:Nat} (h:0 < i) (h2:i≤4611686018427387904):IntKind.i64.wrap ((i:Int) - 1)=((i - 1:Nat):Int):=by
 rw [fO (by omega) (by omega)];omega
theorem xp (n:Nat) (a b c:Int):FN (n+1) 68 [il a,il b,il c]=some (0,[.d (bl (fg a b c))]):=by
 rw [FS,IA];by_cases h:b≤a<;>simp [G68,fg,h]
theorem s70 (n:Nat) (a b c:Int):FN (n+1) 70 [il a,il b,il c]=some (0,[.d (bl (fg a b c))]):=by
 rw [FS,Iy];by_cases h:b≤a<;>simp [G70,fg,h]
theorem xq (n:Nat) (a:Int):FN (n+2) 61 [il a]=some (0,[.d (bl (gz a))]):=by rw [FS,IF];simp [G61,xp,gz]
theorem s64 (n:Nat) (a:Int):FN (n+2) 64 [il a]=some (0,[.d (bl (gz a))]):=by rw [FS,IC];simp [G64,s70,gz]
theorem s67 (n:Nat) (a:Int):FN (n+2) 67 [il a]=some (0,[.d (bl (fg a 1 99))]):=by rw [FS,IB];simp [G67,xp]
def Fp (o:Option D) (b:Bool):Bool:=match o with
 | some (.lit (.bool x))=>x==b
 | _=>false
theorem zI {o:Option D} {b:Bool} (h:Fp o b=true):o=some (bl b):=by
 unfold Fp at h
 split at h
 ·simp only [Tf] at h;subst h;rfl
 ·cases h
theorem t71:∀ P:Fin 64,∀ o:Fin 6,Fp ((ib .shl false (il 1) (il o.1)).bind fun x=>(ib .and false (il P.1) x).bind fun y=>ib .neq false y (il 0)) (P.1.testBit o.1)=true:=by decide +kernel
theorem t91:∀ P:Fin 64,∀ o:Fin 6,Fp ((ib .shr false (il P.1) (il o.1)).bind fun x=>(ib .and false x (il 1)).bind fun y=>ib .eql false y (il 1)) (P.1.testBit o.1)=true:=by decide +kernel
theorem bT {o:Int}:gz o=true↔0≤o∧o≤5:=by simp [gz,fg]
section
variable {Fn:Nat→List D→az} {FnD:D→List Sh→List D→az} {m:Nat}
theorem bin3 (o1 o2 o3:BinOp) (a b c d:D) (z:D) (k:D→az) (h:((ib o1 false a b).bind fun x=>(ib o2 false c x).bind fun y=>ib o3 false y d)=some z) :
  ((aa Fn FnD m).bin o1 false a b fun x=>(aa Fn FnD m).bin o2 false c x fun y=>(aa Fn FnD m).bin o3 false y d k)=k z:=by
 simp only [aa]
 cases h1:ib o1 false a b with
 | none=>simp [h1] at h
 | some x =>
  rw [h1,K8] at h
  simp only [oK]
  cases h2:ib o2 false c x with
  | none=>simp [h2] at h
  | some y =>
   rw [h2,K8] at h
   simp only [h]
theorem bin3' (o1 o2 o3:BinOp) (a b c d:D) (z:D) (k:D→az) (h:((ib o1 false a b).bind fun x=>(ib o2 false x c).bind fun y=>ib o3 false y d)=some z) :
  ((aa Fn FnD m).bin o1 false a b fun x=>(aa Fn FnD m).bin o2 false x c fun y=>(aa Fn FnD m).bin o3 false y d k)=k z:=by
 simp only [aa]
 cases h1:ib o1 false a b with
 | none=>simp [h1] at h
 | some x =>
  rw [h1,K8] at h
  simp only [oK]
  cases h2:ib o2 false x c with
  | none=>simp [h2] at h
  | some y =>
   rw [h2,K8] at h
   simp only [h]
end
def lw (P:Int):Prop:=0≤P∧P≤63
theorem s71 (n:Nat) (x:D) {P:Int} (h:lw P) (o:Int):FN (n+3) 71 [x,il P,il o]=some (0,[.d (bl (cE P o))]):=by
 rw [FS,Ix]
 simp only [G71,aC,s64,ae,ah,ag,cE]
 by_cases ho:gz o=true
 ·rw [K1 ho,ho,Ki]
  have h1:=bT.1 ho
  have h2:=zI (t71 ⟨P.toNat,by have:=h.1;have:=h.2;omega⟩ ⟨o.toNat,by omega⟩)
  rw [show ((⟨P.toNat,_⟩:Fin 64).1:Int)=P from Int.toNat_of_nonneg h.1,show ((⟨o.toNat,_⟩:Fin 6).1:Int)=o from Int.toNat_of_nonneg h1.1] at h2
  rw [ak,ak,bin3 _ _ _ _ _ _ _ _ _ h2];rfl
 ·rw [Kc ho];simp [ho]
theorem r8 (n:Nat) (x:D) {P:Int} (h:lw P) (o:Int):FN (n+3) 91 [x,il P,il o]=some (0,[.d (bl (cE P o))]):=by
 rw [FS,Iv]
 simp only [G91,aC,xq,ae,ah,ag,cE]
 by_cases ho:gz o=true
 ·rw [K1 ho,ho,Ki]
  have h1:=bT.1 ho
  have h2:=zI (t91 ⟨P.toNat,by have:=h.1;have:=h.2;omega⟩ ⟨o.toNat,by omega⟩)
  rw [show ((⟨P.toNat,_⟩:Fin 64).1:Int)=P from Int.toNat_of_nonneg h.1,show ((⟨o.toNat,_⟩:Fin 6).1:Int)=o from Int.toNat_of_nonneg h1.1] at h2
  rw [ak,bin3' _ _ _ _ _ _ _ _ _ h2];rfl
 ·rw [Kc ho];simp [ho]
def HW (o:az) (z:Int):Bool:=match o with
 | some (0,[.d (.lit (.int .i64 x))])=>x==z
 | _=>false
theorem Fo {o:az} {z:Int} (h:HW o z=true):o=some (0,[.d (il z)]):=by
 unfold HW at h
 split at h
 ·simp only [Tf] at h;subst h;rfl
 ·cases h
theorem t103:∀ P:Fin 64,HW (G103 (aa (fun _ _=>none) (fun _ _ _=>none) 0) (.lit (.int .u64 P.1))) (DP P.1)=true:=by decide +kernel
theorem s103 (n:Nat) {P:Int} (h:lw P):FN (n+1) 103 [.lit (.int .u64 P)]=some (0,[.d (il (DP P))]):=by
 rw [FS,Gh]
 have h2:=Fo (t103 ⟨P.toNat,by have:=h.1;have:=h.2;omega⟩)
 rw [show ((⟨P.toNat,_⟩:Fin 64).1:Int)=P from Int.toNat_of_nonneg h.1] at h2
 rw [←h2];rfl
theorem s69 (n:Nat) {P:Int} (h:lw P):FN (n+2) 69 [.lit (.int .u64 P)]=some (0,[.d (il (DP P))]):=by
 rw [FS,Iz];simp [G69,s103 _ h]
theorem yR {P:Int}:fg P 0 63=true↔lw P:=by simp [fg,lw]
theorem cvu {Fn:Nat→List D→az} {FnD:D→List Sh→List D→az} {m:Nat} {P:Int} (h:lw P) (k:D→az):(aa Fn FnD m).cvI .u64 (il P) k=k (.lit (.int .u64 P)):=by
 have:=h.1;have:=h.2
 simp only [aa,il,IntWalk.u64_in P ⟨by omega,by omega⟩]
theorem s12 (n:Nat) (b:aJ):FN (n+3) 12 [il b.1,il b.2]=some (0,[.d (il (if HN b=true then 0 else 90))]):=by
 rw [FS,Jb]
 simp only [G12,aC,s67,ae,ah,aY,ag,ak,xp,aL,HN]
 by_cases h1:fg b.1 1 99=true
 ·simp only [h1,K7,Jl,Ju,Ki]
  by_cases h2:fg b.2 0 63=true
  ·have h3:=yR.1 h2
   simp only [h2,K7,Jl,Ju,Ki,cvu h3,s69 _ h3,ae,ah,aU,ag,Jq]
   by_cases h4:2≤DP b.2
   ·rw [Kc (by omega),K1 h4]
   ·rw [K1 (by omega),Kc h4]
  ·simp [h2]
 ·simp [h1]
def rg (i:Nat):List Nat:=List.range' i (6 - i)
theorem oZ {i:Nat} (h:i < 6):rg i=i::rg (i+1):=by
 unfold rg
 rw [show 6 - i=(6 - (i+1))+1 by omega,List.range'_succ]
theorem cq {P:Int} {i:Nat} (h:i < 6):cE P i=P.toNat.testBit i:=by
 have:gz (i:Int)=true:=bT.2 ⟨by omega,by omega⟩
 simp [cE,this]
end
section
open Go.RowKit Go.Proofs
def rB (b:aJ):List D:=[il b.1,il b.2]
def rS (s:ba):List D:=[il s.1,il s.2.1,il s.2.2.1,il s.2.2.2]
def rT (t:j8):List D:=[il t.1,il t.2.1,il t.2.2]
def dL {α:Type} (n:Nat) (f:α→List D) (o:Option (List α)):D:=Em n (o.map (·.map f))
abbrev dB (o:Option (List aJ)):D:=dL 2 rB o
abbrev dS (o:Option (List ba)):D:=dL 4 rS o
abbrev dT (o:Option (List j8)):D:=dL 3 rT o
section
variable {Fn:Nat→List D→az} {FnD:D→List Sh→List D→az} {m:Nat}
theorem qv {α β:Type} (f:α→β) (o:Option (List α)):(o.map (·.map f)).getD []=(o.getD []).map f:=by cases o<;>rfl
theorem cX {α:Type} (n:Nat) (f:α→List D) (o:Option (List α)) (k:D→az):(aa Fn FnD m).lenD (dL n f o) k=k (il (o.getD []).length):=by rw [dL,z7,qv,Jp]
theorem r9 {α:Type} {n:Nat} {f:α→List D} {o:Option (List α)} {i:Nat} {c:α} (h:(o.getD [])[i]?=some c) (hn:(f c).length=n) (k:List D→az):(aa Fn FnD m).rowD n (dL n f o) (il i) k=k (f c):=by
 rw [dL,uS,K1 (by omega),qv,K4,K9,h];simp [hn]
theorem iO {α:Type} (n:Nat) (f:α→List D) (o:Option (List α)) (k:Rr→az):(aa Fn FnD m).rowsD n (dL n f o) k=k ((o.getD []).map f):=by rw [dL,uR,qv]
theorem nilL {α:Type} (n:Nat) (f:α→List D) (o:Option (List α)) (a b:az):(aa Fn FnD m).nilE (dL n f o) a b=if o.isNone=true then a else b:=by rw [dL,yZ];simp
theorem eK {o:Option (List aJ)} {i:Nat} {c:aJ} (h:(o.getD [])[i]?=some c) (k:List D→az):(aa Fn FnD m).rowD 2 (dB o) (il i) k=k (rB c):=r9 h rfl k
theorem AO {o:Option (List ba)} {i:Nat} {c:ba} (h:(o.getD [])[i]?=some c) (k:List D→az):(aa Fn FnD m).rowD 4 (dS o) (il i) k=k (rS c):=r9 h rfl k
theorem Hj {o:Option (List j8)} {i:Nat} {c:j8} (h:(o.getD [])[i]?=some c) (k:List D→az):(aa Fn FnD m).rowD 3 (dT o) (il i) k=k (rT c):=r9 h rfl k
theorem lj (b:aJ):(aa Fn FnD m).cell (rB b) 0=il b.1:=rfl
theorem vS (b:aJ):(aa Fn FnD m).cell (rB b) 1=il b.2:=rfl
theorem G1 (b:ba):(aa Fn FnD m).cell (rS b) 0=il b.1:=rfl
theorem G0 (b:ba):(aa Fn FnD m).cell (rS b) 1=il b.2.1:=rfl
theorem FZ (b:ba):(aa Fn FnD m).cell (rS b) 2=il b.2.2.1:=rfl
theorem FY (b:ba):(aa Fn FnD m).cell (rS b) 3=il b.2.2.2:=rfl
theorem cT0 (b:j8):(aa Fn FnD m).cell (rT b) 0=il b.1:=rfl
theorem cT1 (b:j8):(aa Fn FnD m).cell (rT b) 1=il b.2.1:=rfl
theorem cT2 (b:j8):(aa Fn FnD m).cell (rT b) 2=il b.2.2:=rfl
end
theorem zq {b:aJ} (h:HN b=true):lw b.2:=by
 simp only [HN,Jn] at h
 exact yR.1 h.2.1
theorem bn (i:Nat):((i+1:Nat):Int)=(i:Int)+1:=by omega
theorem HV (b:Bool) (x:Int) (hx:x≠0):decide ((if b=true then (0:Int) else x)≠0)=!b:=by cases b<;>simp [hx]
theorem l62 (n:Nat) (me:Int) (o:Option (List aJ)) (hl:(o.getD []).length≤4611686018427387904) :
  bm [wg (RP (n+3))] M0 0 [.d (il me),.d (dB o),.d (dB o),.d (il (o.getD []).length),.d (il 0)] =
   if p9 (xB me) (·.1) none (o.getD [])=true then some (1,[.d (dB o)]) else some (0,[.d (bl false)]):=by
 have:=bA (β:=Unit) (o.getD []) hl (wg (RP (n+3))) (fun i _=>[.d (il me),.d (dB o),.d (dB o),.d (il (o.getD []).length),.d (il i)]) (fun _ _=>True)
  (fun i r _=>if p9 (xB me) (·.1) (lh (·.1) (o.getD []) i) r=true then some (1,[.d (dB o)]) else some (0,[.d (bl false)]))
  (fun _ k _=>by simp [wg,p9]) ?_ M0 () trivial (dM hl)
 ·exact this
 ·intro i e r _ k hi hd hlt hw _ ih
  have ih':=ih () trivial
  rw [pZ _ hi,bn] at ih'
  have hlt':(i:Int) < ((o.getD []).length:Int):=by omega
  simp only [wg,ah,aj,aU,ag,hlt',Jr,Js,eK hi,lj,vS,aC,s12,ae,ak,bP,HV _ 90 (by omega),aL,cN,b7,hw,p9,xB,aZ]
  by_cases h1:HN e=true
  ·simp only [h1,K7,Jl,Ju,Ki,r8 _ _ (zq h1),ae,ah,aY,ag]
   by_cases h2:cE e.2 me=true
   ·simp only [h2,K7,Jl,Ju,Ki]
    by_cases h0:i=0
    ·subst h0
     rw [Kc (by simp)]
     simp only [lh,Js,tE,Ki]
     exact ih'
    ·rw [K1 (by simp;omega),uP,q8 (by omega) (by omega)]
     have hp:(o.getD [])[i - 1]?=some ((o.getD [])[i - 1]'(by omega)):=Jo (by omega)
     rw [eK hp]
     simp only [lj,rU,ag,Jq]
     have hq:lh (·.1) (o.getD []) i=some ((o.getD [])[i - 1]'(by omega)).1:=by simp [lh,h0,hp]
     rw [hq]
     by_cases h3:e.1≤((o.getD [])[i - 1]'(by omega)).1
     ·simp only [h3,Js,tE,show ¬ (((o.getD [])[i - 1]'(by omega)).1 < e.1) by omega,Jt,Mh,Jl,Ju]
     ·simp only [h3,Ju,tE,show (((o.getD [])[i - 1]'(by omega)).1 < e.1) by omega,Jr,Ki]
      exact ih'
   ·simp [h2]
  ·simp [h1]
theorem Gq (n:Nat) (me:Int) (o:Option (List aJ)) (hl:(o.getD []).length≤4611686018427387904):FN (n+4) 62 [il me,dB o]=some (0,[.d (bl (cr me (o.getD [])))]):=by
 rw [FS,IE]
 simp only [G62,cX,br,ak,l62 _ _ _ hl,cr]
 by_cases h:p9 (xB me) (·.1) none (o.getD [])=true
 ·simp only [h,Js,Ki,bf,ah,cX,jQ,aL]
  congr 5
  simp
  omega
 ·simp [h]
end
section
open Go.RowKit Go.Proofs
theorem l16 (n:Nat) (a b:D) (o:Option (List j8)) (hl:(o.getD []).length≤4611686018427387904) :
  bm [wG (RP (n+2))] M0 0 [.d a,.d b,.d (dT o),.d (dT o),.d (il (o.getD []).length),.d (il 0)] =
   if p9 mt (·.1) none (o.getD [])=true then some (1,[]) else some (0,[.d (il 93)]):=by
 have:=bA (β:=Unit) (o.getD []) hl (wG (RP (n+2))) (fun i _=>[.d a,.d b,.d (dT o),.d (dT o),.d (il (o.getD []).length),.d (il i)]) (fun _ _=>True)
  (fun i r _=>if p9 mt (·.1) (lh (·.1) (o.getD []) i) r=true then some (1,[]) else some (0,[.d (il 93)]))
  (fun _ k _=>by simp [wG,p9]) ?_ M0 () trivial (dM hl)
 ·exact this
 ·intro i e r _ k hi hd hlt hw _ ih
  have ih':=ih () trivial
  rw [pZ _ hi,bn] at ih'
  have hlt':(i:Int) < ((o.getD []).length:Int):=by omega
  simp only [wG,ah,aj,aU,ag,hlt',Jr,Js,Hj hi,cT0,cT1,cT2,aC,s67,xp,ae,ak,aL,cN,b7,hw,p9,mt,aY]
  by_cases h1:fg e.1 1 99=true
  ·simp only [h1,K7,Jl,Ju,Ki]
   by_cases h2:fg e.2.1 0 99999=true
   ·simp only [h2,K7,Jl,Ju,Ki]
    by_cases h3:fg e.2.2 0 99999=true
    ·simp only [h3,K7,Jl,Ju,Ki]
     by_cases h0:i=0
     ·subst h0
      rw [Kc (by simp)]
      simp only [lh,Js,tE,Ki]
      exact ih'
     ·rw [K1 (by simp;omega),uP,q8 (by omega) (by omega)]
      have hp:(o.getD [])[i - 1]?=some ((o.getD [])[i - 1]'(by omega)):=Jo (by omega)
      rw [Hj hp]
      simp only [cT0,rU,ag,Jq]
      have hq:lh (·.1) (o.getD []) i=some ((o.getD [])[i - 1]'(by omega)).1:=by simp [lh,h0,hp]
      rw [hq]
      by_cases h3:e.1≤((o.getD [])[i - 1]'(by omega)).1
      ·simp only [h3,Js,tE,show ¬ (((o.getD [])[i - 1]'(by omega)).1 < e.1) by omega,Jt,Mh,Jl,Ju]
      ·simp only [h3,Ju,tE,show (((o.getD [])[i - 1]'(by omega)).1 < e.1) by omega,Jr,Ki]
       exact ih'
    ·simp [h3]
   ·simp [h2]
  ·simp [h1]
theorem s16 (n:Nat) (a b:Int) (o:Option (List j8)) (hl:(o.getD []).length≤4611686018427387904):FN (n+3) 16 [il a,il b,dT o]=some (0,[.d (il (if l8 a b (o.getD [])=true then 0 else 93))]):=by
 rw [FS,Ja]
 simp only [G16,aC,xq,ae,ah,aY,ag,aL,ak,l8,bo,cX,cN,br,l16 _ _ _ _ hl]
 by_cases h1:gz a=true
 ·by_cases h2:gz b=true
  ·by_cases h3:a=b
   ·simp [h2,h3]
   ·by_cases h4:(o.getD []).length≤4
    ·have h5:¬ ((4:Int) < (o.getD []).length):=by omega
     by_cases h6:p9 mt (·.1) none (o.getD [])=true
     ·simp [h1,h2,h3,h4,h5,h6]
     ·simp [h1,h2,h3,h4,h5,h6]
    ·have h5:((4:Int) < (o.getD []).length):=by omega
     simp [h1,h2,h3,h4,h5]
  ·simp [h1,h2]
 ·simp [h1]
def ed:D:=.lit (.slice none 0 0)
def gB (e:Int):az:=some (0,[.d (il 0),.d ed,.d ed,.d (il 0),.d (il e)])
theorem Gp (n:Nat) (o:Option (List aJ)) (hl:(o.getD []).length≤4):FN (n+1) 63 [dB o]=some (0,[.d (dB o)]):=by
 rw [FS,ID]
 simp only [G63,nilL,aL,mn,iO,aD,aR,aO,Jy,b6,Js,aN,Jv,Jp,bp,bh,Ke,be,cS]
 cases o with
 | none=>rfl
 | some l =>
  simp only [M4] at hl ⊢
  rw [Kc (by simp),K1 (by omega)]
  rw [show l.length=(l.map rB).length by simp,Mb]
  rfl
theorem s9 (n:Nat) (me:Int) (o:Option (List aJ)) (hl:(o.getD []).length≤4611686018427387904):FN (n+5) 9 [il me,dB o] =
  if gz me=true then (if cr me (o.getD [])=true then some (0,[.d (il me),.d (dB o),.d ed,.d (il 0),.d (il 0)]) else gB 90) else gB 1:=by
 rw [FS,G9_eq]
 simp only [G9,aC,xq,Gq _ _ _ hl,ae,ah,aY,ag,aL,ak,mn,gB]
 by_cases h1:gz me=true
 ·by_cases h2:cr me (o.getD [])=true
  ·have h3:(o.getD []).length≤4:=by simp only [cr,Jn,Jq] at h2;exact h2.2
   simp only [h1,h2,K7,Jl,Ju,Js,Gp _ _ h3,ae,ah];rfl
  ·simp only [h1,h2,K7,Mq,Jl,Ju,Js];rfl
 ·simp only [h1,Mq,Jl,Ju,Js];rfl
end
section
open Go.RowKit Go.Proofs
noncomputable abbrev FD (n:Nat):D→List Sh→List D→az:=dq Tryd.prog (eI tb Tryd.prog) (FN n)
theorem Ef {P:Program} {cfg:Cf3} {Fn:Nat→List D→az} {f:Nat} {caps:List D} {sh:List Sh} {ds:List D} {vs:List VD} (h3:f < 2000000) (hv:fh sh ds=some vs):dq P cfg Fn (.fn f caps) sh ds=FnV cfg Fn f (vs++caps.map .one):=by
 simp only [dq,hv,K1 h3]
theorem Ji {T:Tb3} {P:Program} {Fn:Nat→List D→az} {f:Nat} {caps:List D} {sh sh':List Sh} {ds:List D} {vs:List VD} {xs:List D} {z:D} (hlt:f < 1000000) (hv:fh sh ds=some vs) (hash:T.ash f=some sh') (hx:d0 sh' (vs++caps.map .one)=some xs)
  (hr:T.rsk f=[[(false,[.d])]]) (hf:Fn f xs=some (0,[.d z])):dq P (eI T P) Fn (.fn f caps) sh ds=some (0,[.d z]):=by
 have h1:(eI T P).ash f=some sh':=by simp only [eI,K1 hlt,hash]
 have h2:xT ((eI T P).rsk f)=true:=by simp only [eI,hr];rfl
 have h3:f < 2000000:=Mi hlt (by decide)
 rw [Ef h3 hv]
 simp only [FnV,h1,hx,h2,Js,hf]
theorem FD_fn {n f:Nat} {caps:List D} {sh:List Sh} (sh':List Sh) {ds:List D} (vs:List VD) {xs:List D} {z:D} (hlt:f < 1000000) (hv:fh sh ds=some vs) (hash:tb.ash f=some sh') (hx:d0 sh' (vs++caps.map .one)=some xs)
  (hr:tb.rsk f=[[(false,[.d])]]) (hf:FN n f xs=some (0,[.d z])):FD n (.fn f caps) sh ds=some (0,[.d z]):=Ji hlt hv hash hx hr hf
theorem s113 (n:Nat) (a b c:Int):FN (n+1) 113 [il a,il b,il c]=some (0,[.d (bl (decide (a=c)))]):=by rw [FS,Ge];simp [G113]
theorem d113 (n:Nat) (a b c:Int):FD (n+1) (.fn 113 [.dp [il c] 0]) [.agg 2] [il a,il b]=some (0,[.d (bl (decide (a=c)))]) :=
 FD_fn [.agg 2,.ptr 1] [.agg [il a,il b]] (by decide) rfl (by kernel_rfl) rfl (by kernel_rfl) (s113 n a b c)
def tK (f:Int) (l:List aJ):Int:=match cM f l with
 | some i=>(i:Int)
 | none=>-1
def HU (f:Int) (i:Nat) (r:List aJ):az:=match cM f r with
 | some j=>some (0,[.d (il ((i+j:Nat):Int))])
 | none=>some (1,[])
theorem De (f:Int) (l:List aJ) (k:List Yr→az) (k':List Yr→az) {Fn:Nat→List D→az} {FnD:D→List Sh→List D→az} {m:Nat} (h1:∀ z,k [.d z]=some (0,[.d z])) (h2:k' []=some (0,[.d (il (-1))])) :
  (aa Fn FnD m).bnd (HU f 0 l) [k,k']=some (0,[.d (il (tK f l))]):=by
 unfold HU tK
 cases cM f l with
 | none=>simp [h2]
 | some j=>simp [h1]
theorem Df (f:Int) (i:Nat) (e:aJ) (r:List aJ):HU f i (e::r)=if e.1=f then some (0,[.d (il i)]) else HU f (i+1) r:=by
 unfold HU
 rw [cM]
 by_cases h:e.1=f
 ·simp [h]
 ·rw [Kc h,Kc h]
  cases cM f r with
  | none=>rfl
  | some j=>simp only [Kv];congr 5;omega
theorem l4 (n:Nat) (o:Option (List aJ)) (hl:(o.getD []).length≤4611686018427387904) (f:Int):FN (n+2) 112 [dB o,.fn 113 [.dp [il f] 0]]=some (0,[.d (il (tK f (o.getD [])))]):=by
 rw [FS,Gf]
 simp only [G112,cX,ak,br]
 have:=bA (β:=Unit) (o.getD []) hl (um (RP (n+1))) (fun i _=>[.d (dB o),.d (.fn 113 [.dp [il f] 0]),.d (il (o.getD []).length),.d (il i)]) (fun _ _=>True)
  (fun i r _=>HU f i r)
  (fun _ k _=>by simp [um,HU,cM]) ?_ M0 () trivial (dM hl)
 ·simp only [T4] at this
  rw [this]
  exact De _ _ _ _ (fun _=>rfl) rfl
 ·intro i e r _ k hi hd hlt hw _ ih
  have ih':=ih () trivial
  rw [bn] at ih'
  have hlt':(i:Int) < ((o.getD []).length:Int):=by omega
  rw [Df,← ih']
  simp only [um,ah,aj,aU,ag,hlt',Jr,Js,eK hi,lj,vS,z8,d113,ae,aL,ak,b7,hw,Jq]
theorem ee {f:Int} {l:List aJ}:tK f l < 0↔cM f l=none:=by
 unfold tK
 cases h:cM f l with
 | none=>simp
 | some i=>simp
theorem tg (n:Nat) (s:ba):FN (n+3) 107 [il s.1,il s.2.1,il s.2.2.1,il s.2.2.2]=some (0,[.d (bl (iL s))]):=by
 rw [FS,Gg]
 simp only [G107,aC,s67,ae,ah,ak,aZ,aY,ag,bo,aL,iL,Jq]
 by_cases h0:fg s.2.1 1 99=true
 ·by_cases h1:s.1=1
  ·by_cases h:gz s.2.2.1=true<;>simp [h0,h1,h,xq,xp]
  ·by_cases h3:s.1=3
   ·by_cases h:gz s.2.2.1=true<;>simp [h0,h3,h,xq,xp]
   ·by_cases h2:s.1=2
    ·by_cases h:s.2.2.1=0<;>simp [h0,h2,h,xq,xp]
    ·by_cases h4:s.1=4
     ·by_cases h:s.2.2.1=0<;>simp [h0,h4,h,xq,xp]
     ·simp [h0,h1,h2,h3,h4]
 ·simp [h0]
theorem tmod2 (z:Int):decide (z.tmod 2=0)=decide (z % 2=0):=by
 congr 1
 rw [←Int.dvd_iff_tmod_eq_zero,Int.dvd_iff_emod_eq_zero]
theorem Co (n:Nat) (me o no:Int):FN (n+1) 86 [il me,il o,il no]=some (0,[.d (bl (aK me o no))]):=by
 rw [FS,Iw]
 simp only [G86,aU,ak,lg _ _ _ _ (show (2:Int)≠0 by decide),bo,tmod2,gS,aL,aK]
end
section
open Go.RowKit Go.Proofs
section
variable {Fn:Nat→List D→az} {FnD:D→List Sh→List D→az} {m:Nat}
theorem pW {z:Int} (h:gz z=true) (k:Nat→az):(aa Fn FnD m).inx (il z) 6 k=k z.toNat:=by
 have:=bT.1 h
 rw [bS,K1 (by omega)]
theorem gU {z:Int} (h:gz z=true):z.toNat < 6:=by have:=bT.1 h;omega
end
def qf (me P:Int) (f:Fld) (i:Nat):List Nat:=((rg i).filter fun (o:Nat)=>!decide ((o:Int)=me)&&P.toNat.testBit o).filter fun (o:Nat)=>!aK me o (f.no o)
theorem kK (me P:Int) (f:Fld):qf me P f 6=[]:=rfl
theorem qe {me P:Int} {f:Fld} {i:Nat} (h:i < 6):qf me P f i=if (!decide ((i:Int)=me)&&P.toNat.testBit i&&!aK me i (f.no i))=true then i::qf me P f (i+1) else qf me P f (i+1):=by
 unfold qf
 rw [oZ h,Mo]
 cases h1:(!decide ((i:Int)=me)&&P.toNat.testBit i) with
 | false=>simp
 | true=>simp only [Js,Mo,Ki]
theorem qc {s:ba} (h:iL s=true):(s.1=1∧gz s.2.2.1=true)∨s.1=2∨(s.1=3∧gz s.2.2.1=true)∨s.1=4:=by
 simp only [iL,Jn] at h
 obtain ⟨-,h⟩:=h
 by_cases h1:s.1=1
 ·rw [K1 (.inl h1)] at h
  simp only [Jn] at h
  exact .inl ⟨h1,h.1⟩
 ·by_cases h3:s.1=3
  ·rw [K1 (.inr h3)] at h
   simp only [Jn] at h
   exact .inr (.inr (.inl ⟨h3,h.1⟩))
  ·rw [Kc (by omega)] at h
   by_cases h2:s.1=2
   ·exact .inr (.inl h2)
   ·by_cases h4:s.1=4
    ·exact .inr (.inr (.inr h4))
    ·rw [Kc h2,Kc h4] at h;cases h
theorem gc {P o:Int} (h:cE P o=true):gz o=true:=by
 simp only [cE,Jn] at h;exact h.1
end
section
open Go.RowKit Go.Proofs
def rb (bs:List aJ) (s:ba):Bool:=iL s&&(cM s.2.1 bs).isSome
def okW (me:Int) (bs:List aJ) (ss:List ba) (h:Int):Bool :=
 gz me&&(cr me bs&&(decide (ss.length≤120)&&(fg h 0 ss.length&&(ss.all (rb bs)&&bs.all fun b=>(ay me b fd0 ss).2))))
theorem cu {me:Int} {bs:List aJ} (h:cr me bs=true):∀ c∈bs,lw c.2:=by
 intro c hc
 simp only [cr,Jn] at h
 have:=(kJ h.1 c hc).1
 simp only [xB,Jn] at this
 exact zq this.1
theorem G4 {bs:List aJ} {ss:List ba} (h:ss.all (rb bs)=true):∀ s∈ss,iL s=true:=fun s hs=>by
 have:=Kq.1 h s hs
 simp only [rb,Jn] at this
 exact this.1
end
section
open Go.RowKit Go.Proofs
def bG (f:Fld):List D:=[il (f.no 0),bl (f.af 0),il (f.ask 0),il (f.no 1),bl (f.af 1),il (f.ask 1),il (f.no 2),bl (f.af 2),il (f.ask 2),il (f.no 3),bl (f.af 3),il (f.ask 3),il (f.no 4),bl (f.af 4),il (f.ask 4),il (f.no 5),bl (f.af 5),il (f.ask 5),il f.wants,bl f.opn]
def eY (bs:List aJ):List Value:=bs.map fun b=>.int .i64 b.1
def mapM (bs:List aJ) (fs:List Fld):Mr:=(eY bs,fs.map bG)
theorem nD (f:Int):∀ (bs:List aJ) (i:Nat),cW 0 (.int .i64 f) (eY bs) i=some ((cM f bs).map (·+i))
 | [],i=>rfl
 | b::r,i=>by
  have ih:=nD f r (i+1)
  simp only [eY,Jz,cW,BU] at ih ⊢
  rw [cM]
  by_cases h:b.1=f
  ·simp [h]
  ·have h':(f==b.1)=false:=by simp;omega
   simp only [h',Kc h]
   rw [ih]
   cases cM f r with
   | none=>rfl
   | some j=>simp;omega
section
variable {Fn:Nat→List D→az} {FnD:D→List Sh→List D→az} {m:Nat}
theorem bI (q:Mr):(aa Fn FnD m).mrows q=q.2:=rfl
theorem dl (q:Mr) (r:Rr):(aa Fn FnD m).mset q r=(q.1,r):=rfl
theorem cc (a b:Nat):(aa Fn FnD m).mulN a b=a*b:=rfl
theorem bi (w:List D) (a b:Nat):(aa Fn FnD m).cellN w a b=w.getD (a+b) default:=rfl
theorem dQ (r:Rr) (a b:Nat) (l:List D):(aa Fn FnD m).setRC r a b l=iB r a b l:=rfl
theorem e7 (bs:List aJ) (rows:Rr) (f:Int) (k:Nat→az) (e:az):(aa Fn FnD m).find 0 (eY bs,rows) (il f) k e=match cM f bs with
  | some j=>k j
  | none=>e:=by
 have:lN 0 (eY bs,rows) (il f)=some (cM f bs):=by
  simp only [lN,il,tG,fu,Js,nD]
  cases cM f bs<;>simp
 simp only [aa,this]
 cases cM f bs<;>rfl
theorem tw (a b c d:az):(aa Fn FnD m).selK 0 [.int .i64 1,.int .i64 2,.int .i64 3,.int .i64 4] (il 1) [a,b,c,d]=a:=rfl
theorem tv (a b c d:az):(aa Fn FnD m).selK 0 [.int .i64 1,.int .i64 2,.int .i64 3,.int .i64 4] (il 2) [a,b,c,d]=b:=rfl
theorem tu (a b c d:az):(aa Fn FnD m).selK 0 [.int .i64 1,.int .i64 2,.int .i64 3,.int .i64 4] (il 3) [a,b,c,d]=c:=rfl
theorem tt (a b c d:az):(aa Fn FnD m).selK 0 [.int .i64 1,.int .i64 2,.int .i64 3,.int .i64 4] (il 4) [a,b,c,d]=d:=rfl
theorem aS {fs:List Fld} {j:Nat} {f:Fld} (h:fs[j]?=some f) (k:List D→az):(aa Fn FnD m).rowAt 20 (fs.map bG) j k=k (bG f):=by
 rw [cU,K9,h];rfl
theorem fY (q:Mr):(aa Fn FnD m).mpD true q=.mp true q.1 q.2:=rfl
theorem l6 (n:Nat):(aa Fn FnD m).dN (il n)=n:=by simp [aa,BD,il]
end
theorem df (f:Fld):(bG f).getD 19 default=bl f.opn:=rfl
theorem cF (f:Fld):(bG f).getD 18 default=il f.wants:=rfl
theorem eu (f:Fld) {i:Nat} (h:i < 6):(bG f).getD (3*i) default=il (f.no i):=by
 match i,h with
 | 0,_=>rfl
 | 1,_=>rfl
 | 2,_=>rfl
 | 3,_=>rfl
 | 4,_=>rfl
 | 5,_=>rfl
theorem kQ (f:Fld) {i:Nat} (h:i < 6):(bG f).getD (3*i+2) default=il (f.ask i):=by
 match i,h with
 | 0,_=>rfl
 | 1,_=>rfl
 | 2,_=>rfl
 | 3,_=>rfl
 | 4,_=>rfl
 | 5,_=>rfl
theorem yb (f:Fld) {i:Nat} (h:i < 6):(bG f).getD (3*i+1) default=bl (f.af i):=by
 match i,h with
 | 0,_=>rfl
 | 1,_=>rfl
 | 2,_=>rfl
 | 3,_=>rfl
 | 4,_=>rfl
 | 5,_=>rfl
theorem mb {fs:List Fld} {j:Nat} {f g:Fld} (h:fs[j]?=some f) (off:Nat) (ds:List D) (hg:(bG f).take off++ds++(bG f).drop (off+ds.length)=bG g):iB (fs.map bG) j off ds=(fs.set j g).map bG:=by
 unfold iB
 have:(fs.map bG).getD j []=bG f:=by simp [K6,h]
 rw [this,hg,Tg]
theorem ky {fs:List Fld} {j:Nat} {f:Fld} (h:fs[j]?=some f) (x:Bool):iB (fs.map bG) j 19 [bl x]=(fs.set j { f with opn:=x }).map bG:=mb h _ _ rfl
theorem nf {fs:List Fld} {j:Nat} {f:Fld} (h:fs[j]?=some f) (x:Int):iB (fs.map bG) j 18 [il x]=(fs.set j { f with wants:=x }).map bG:=mb h _ _ rfl
theorem xm {fs:List Fld} {j:Nat} {f:Fld} (h:fs[j]?=some f) {i:Nat} (hi:i < 6) (x:Int):iB (fs.map bG) j (3*i) [il x]=(fs.set j { f with no:=bv f.no i x }).map bG:=by
 refine mb h _ _ ?_
 match i,hi with
 | 0,_=>rfl
 | 1,_=>rfl
 | 2,_=>rfl
 | 3,_=>rfl
 | 4,_=>rfl
 | 5,_=>rfl
theorem pC {fs:List Fld} {j:Nat} {f:Fld} (h:fs[j]?=some f) {i:Nat} (hi:i < 6) (x:Bool):iB (fs.map bG) j (3*i+1) [bl x]=(fs.set j { f with af:=bv f.af i x }).map bG:=by
 refine mb h _ _ ?_
 match i,hi with
 | 0,_=>rfl
 | 1,_=>rfl
 | 2,_=>rfl
 | 3,_=>rfl
 | 4,_=>rfl
 | 5,_=>rfl
theorem te {fs:List Fld} {j:Nat} {f:Fld} (h:fs[j]?=some f) {i:Nat} (hi:i < 6) (x:Int):iB (fs.map bG) j (3*i+2) [il x]=(fs.set j { f with ask:=bv f.ask i x }).map bG:=by
 refine mb h _ _ ?_
 match i,hi with
 | 0,_=>rfl
 | 1,_=>rfl
 | 2,_=>rfl
 | 3,_=>rfl
 | 4,_=>rfl
 | 5,_=>rfl
theorem em {fs:List Fld} {j:Nat} {f:Fld} (h:fs[j]?=some f) (g:Fld):(fs.set j g)[j]?=some g:=by
 have:j < fs.length:=by
  rcases Nat.lt_or_ge j fs.length with h' | h'
  ·exact h'
  ·rw [Kr h'] at h;cases h
 simp [this]
theorem Gy (n:Nat) (bs:List aJ) (fs:List Fld) {j:Nat} {f:Fld} (hj:fs[j]?=some f) (c1 c2 c5:D) (c3 c4:Nat) (c6:Rr) :
  bm [eX (RP n)] M0 0 [.n j,.n 0,.d (il 0),.d c1,.d c2,.n c3,.n c4,.d c5,.r c6,.m (mapM bs fs)]=some (0,[.d c1,.d c2,.n c3,.n c4,.d c5,.r c6,.m (mapM bs (fs.set j { f with af:=fun _=>false }))]):=by
 have:=dm (β:=Fld) 6 (by omega) (eX (RP n)) (fun i g=>[.n j,.n 0,.d (il i),.d c1,.d c2,.n c3,.n c4,.d c5,.r c6,.m (mapM bs (fs.set j g))]) (fun _ _=>True)
  (fun i g=>some (0,[.d c1,.d c2,.n c3,.n c4,.d c5,.r c6,.m (mapM bs (fs.set j { g with af:=fun q=>if i≤q then false else g.af q }))])) ?_ ?_ f trivial
 ·have e:fs.set j f=fs:=by
   apply Mf
   intro i
   rw [List.getElem?_set]
   split
   ·subst_vars;split<;>simp_all
   ·rfl
  simp only [e] at this
  simpa using this
 ·intro g k _
  simp [eX,mapM,Tg]
  rfl
 ·intro i g k hi _ hw ih
  have ih':=ih { g with af:=bv g.af i false } trivial
  rw [bn] at ih'
  have e:(fun q=>if i+1≤q then false else bv g.af i false q)=fun q=>if i≤q then false else g.af q:=by
   funext q
   unfold bv
   by_cases h1:i=q
   ·subst h1;simp
   ·by_cases h2:i≤q
    ·rw [K1 (by omega),K1 h2]
    ·rw [Kc (by omega),Kc h1,Kc h2]
  simp only [e] at ih'
  rw [←ih']
  have h20:3*i+1+1≤20:=by omega
  simp only [eX,mapM,ah,aj,aF,aH,ao,aw,aq,av,ak,aZ,aU,ag,show ((i:Int) < 6) by omega,Jr,Js,aD,bS,aN,cc,bI,dl,aS (em hj g),dQ,bV,Jv,Kk,K4,h20,pC (em hj g) hi,Te,b7,hw]
  rw [K1 (by omega)]
theorem e95_3:@qU=@eX:=rfl
theorem e95_4:@qT=@eW:=rfl
theorem e95_5:@qS=@eU:=rfl
end
section
open Go.RowKit Go.Proofs
def FI (c1 c2 c3 c4 c7:D) (c5 c6:Nat) (r:Rr) (m:Mr) (i:Nat) (acc:List Nat):Nat×List Yr:=match acc with
 | []=>(0,[.d c1,.d c2,.d (il i),.m m,.r r,.d c3,.d c4,.n c5,.n c6,.d c7])
 | a::t=>(1,[.d c1,.d c2,.d (il i),.r ((a::t).map fun (o:Nat)=>[il o]),.n (t.length+1),.n (t.length+1),.m m,.r r,.d c3,.d c4,.n c5,.n c6,.d c7])
def v6 (c3 c4 c7:D) (c5 c6:Nat) (r:Rr) (m:Mr) (acc:List Nat):az:=match acc with
 | []=>some (0,[.m m,.r r,.d c3,.d c4,.n c5,.n c6,.d c7])
 | a::t=>some (1,[.r ((a::t).map fun (o:Nat)=>[il o]),.n (t.length+1),.n (t.length+1),.m m,.r r,.d c3,.d c4,.n c5,.n c6,.d c7])
theorem DK (c1 c2 c3 c4 c7:D) (c5 c6:Nat) (r:Rr) (m:Mr) (i:Nat) (acc:List Nat) (x:Nat) :
  FI c1 c2 c3 c4 c7 c5 c6 r m i (acc++[x])=(1,[.d c1,.d c2,.d (il i),.r ((acc++[x]).map fun (o:Nat)=>[il o]),.n (acc.length+1),.n (acc.length+1),.m m,.r r,.d c3,.d c4,.n c5,.n c6,.d c7]):=by
 cases acc with
 | nil=>rfl
 | cons a t=>simp [FI]
theorem Gx (n:Nat) {bs:List aJ} {fs:List Fld} {j:Nat} {f:Fld} {fld:Int} (hj:fs[j]?=some f) (hx:cM fld bs=some j) {P:Int} (hP:lw P) (me:Int) (y:List Yr) (hy:(RP (n+3)).ld y 6=il fld) (c1 c4 c7:D) (c5 c6:Nat) (r:Rr) :
  bm [eW (RP (n+3)) y,eU (RP (n+3)) y] M0 0 [.d c1,.d (il P),.d (il 0),.m (mapM bs fs),.r r,.d (il me),.d c4,.n c5,.n c6,.d c7]=v6 (il me) c4 c7 c5 c6 r (mapM bs fs) (bQ me P f):=by
 have:=kM (σ:=Nat×List Nat) [eW (RP (n+3)) y,eU (RP (n+3)) y] (fun s=>FI c1 (il P) (il me) c4 c7 c5 c6 r (mapM bs fs) s.1 s.2) (fun s=>6 - s.1) (fun s=>s.1≤6∧s.2.length≤s.1)
  (fun s=>v6 (il me) c4 c7 c5 c6 r (mapM bs fs) (s.2++qf me P f s.1)) ?_ M0 (0,[]) ⟨by simp,by simp⟩ (by simp only [M0];omega)
 ·exact this
 ·rintro ⟨i,acc⟩ k ⟨hi,ha⟩ ih
  simp only at hi ha
  by_cases h6:i=6
  ·subst h6
   cases acc with
   | nil=>exact ⟨_,rfl,by simp [eW,FI,v6,kK]⟩
   | cons a t=>exact ⟨_,rfl,by simp [eU,FI,v6,kK]⟩
  ·have hi':i < 6:=by omega
   have hw:=fD (show i < 7 by omega) (show 7≤4611686018427387904 by omega)
   have ih0:=ih (i+1,acc) ⟨hi',by simp only;omega⟩ (by simp only;omega)
   have ih1:=ih (i+1,acc++[i]) ⟨hi',by simp;omega⟩ (by simp only;omega)
   simp only [DK,bn,Kb,Kp,Ke] at ih1
   simp only at ih0
   have h20:3*i+1≤20:=by omega
   have hlt:(i:Int) < 6:=by omega
   have hin:0≤(i:Int)∧(i:Int) < (6:Nat):=by omega
   rw [qe hi']
   cases acc with
   | nil =>
    refine ⟨_,rfl,?_⟩
    simp only [FI,bn] at ih0
    simp only [FI,eW,mapM,ah,aj,aF,aH,ao,aw,aq,av,ak,aU,hlt,Jr,ag,Js,bP,aC,r8 _ _ hP,ae,cq hi',hy,e7,hx,aD,bS,bI,aS hj,aN,cc,bV,bi,Jv,Kk,K4,h20,eu f hi',Co,aY,aR,aO,Jx,Jy,b6,be,List.take,jR,bp,b7,hw]
    rw [K1 hin]
    by_cases h1:(i:Int)=me
    ·simp only [h1,T3,Mk,Jt,Jr,Jl,Ju,K7,Mh]
     rw [←h1] at ih0 ⊢
     exact ih0
    ·cases h2:P.toNat.testBit i with
     | false =>
      simp only [h1,T3,Ku,Jr,Js,Jl,Ju,Bool.and_false,Mh]
      exact ih0
     | true =>
      cases h3:aK me i (f.no i) with
      | true =>
       simp only [h1,T3,Ku,Jr,Js,Jl,Ju,Bool.and_false,K7]
       exact ih0
      | false =>
       simp only [h1,T3,Ku,Jr,Js,Mq,Jt,Ki]
       rw [K1 (by decide)]
       exact ih1
   | cons a t =>
    refine ⟨_,rfl,?_⟩
    simp only [FI,bn] at ih0
    simp only [FI,eU,mapM,ah,aj,aF,aH,ao,aw,aq,av,ak,aU,hlt,Jr,ag,Js,bP,aC,r8 _ _ hP,ae,cq hi',hy,e7,hx,aD,bS,bI,aS hj,aN,cc,bV,bi,Jv,Kk,K4,h20,eu f hi',Co,aY,aR,aO,Jx,Jy,b6,be,List.take,bp,b7,hw,Jp,bh]
    rw [K1 hin]
    by_cases h1:(i:Int)=me
    ·simp only [h1,T3,Mk,Jt,Jr,Jl,Ju,K7,Mh]
     rw [←h1] at ih0 ⊢
     exact ih0
    ·cases h2:P.toNat.testBit i with
     | false =>
      simp only [h1,T3,Ku,Jr,Js,Jl,Ju,Bool.and_false,Mh]
      exact ih0
     | true =>
      cases h3:aK me i (f.no i) with
      | true =>
       simp only [h1,T3,Ku,Jr,Js,Jl,Ju,Bool.and_false,K7]
       exact ih0
      | false =>
       simp only [h1,T3,Ku,Jr,Js,Mq,Jt,Ki]
       simp only [Jx] at ha
       rw [K1 (by omega)]
       simp only [M6,Jz,Ky,Jx] at ih1 ⊢
       exact ih1
end
end Go.VE
