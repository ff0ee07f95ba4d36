/- The functions. -/
import Derived.Test.YtaagapoglhndjaaDoorMf0
import Derived.Test.YtaagapoglhndjaaDoorMf1
import Derived.Test.YtaagapoglhndjaaDoorMh
import Derived.KernelRfl
namespace Go.VE
section
abbrev Brd:=Int×Int
abbrev Stk:=Int×Int×Int×Int
def inn (n lo hi:Int):Bool:=decide (lo≤n)&&decide (n≤hi)
def par (n:Int):Bool:=inn n 0 5
def q3h (P o:Int):Bool:=par o&&P.toNat.testBit o.toNat
def cntP (P:Int):Nat:=((List.range 6).filter fun o=>P.toNat.testBit o).length
def okB (b:Brd):Bool:=inn b.1 1 99&&(inn b.2 0 63&&decide (2≤cntP b.2))
def okS (s:Stk):Bool:=inn s.2.1 1 99 &&
 (if s.1=1∨s.1=3 then par s.2.2.1&&inn s.2.2.2 1 99999
 else if s.1=2 then decide (s.2.2.1=0)&&inn s.2.2.2 1 99999
 else if s.1=4 then decide (s.2.2.1=0)&&inn s.2.2.2 0 1 else false)
def ltO:Option Int→Int→Bool
 | none,_=>true
 | some q,x=>decide (q < x)
def okL {α:Type} (ok:α→Bool) (src:α→Int):Option Int→List α→Bool
 | _,[]=>true
 | p,e::r=>ok e&&(ltO p (src e)&&okL ok src (some (src e)) r)
def qj9 (me:Int) (b:Brd):Bool:=okB b&&q3h b.2 me
def q1T (me:Int) (l:List Brd):Bool:=okL (qj9 me) (·.1) none l&&decide (l.length≤4)
abbrev Tld:=Int×Int×Int
def qbU (t:Tld):Bool:=inn t.1 1 99&&(inn t.2.1 0 99999&&inn t.2.2 0 99999)
def qcL (a b:Int) (l:List Tld):Bool:=par a&&(par b&&(!decide (a=b)&&(decide (l.length≤4)&&okL qbU (·.1) none l)))
structure Fld where
 no:Nat→Int
 af:Nat→Bool
 ask:Nat→Int
 wants:Int
 opn:Bool
def fd0:Fld:=⟨fun _=>0,fun _=>false,fun _=>0,0,false⟩
def upN {α:Type} (f:Nat→α) (i:Nat) (x:α):Nat→α:=fun j=>if i=j then x else f j
def q0C (me o no:Int):Bool:=decide (me < o)==decide (no % 2=0)
def oth (me P:Int):List Nat:=(List.range 6).filter fun o=>!decide ((o:Int)=me)&&P.toNat.testBit o
def q3x (me P:Int) (f:Fld):List Nat:=(oth me P).filter fun o=>!q0C me o (f.no o)
def q0N (me P:Int) (f:Fld) (s:Stk):Option Fld :=
 if s.1=1 then (if decide (s.2.2.1=me)||!q3h P s.2.2.1||f.opn||decide (s.2.2.2≤f.no s.2.2.1.toNat) then none
  else some { f with no:=upN f.no s.2.2.1.toNat s.2.2.2,af:=upN f.af s.2.2.1.toNat true })
 else if s.1=2 then (if s.2.2.2≤f.wants then none else some { f with wants:=s.2.2.2,af:=fun _=>false })
 else if s.1=3 then (if decide (s.2.2.1=me)||!q3h P s.2.2.1||decide (s.2.2.2≤f.ask s.2.2.1.toNat) then none
  else some { f with ask:=upN f.ask s.2.2.1.toNat s.2.2.2 })
 else if (f.opn==decide (s.2.2.2=1))||(decide (s.2.2.2=1)&&!(q3x me P f).isEmpty) then none else some { f with opn:=decide (s.2.2.2=1) }
def q0x (me:Int) (b:Brd):Fld→List Stk→Fld×Bool
 | f,[]=>(f,true)
 | f,s::r=>if s.2.1=b.1 then (match q0N me b.2 f s with
  | none=>(f,false)
  | some f'=>q0x me b f' r) else q0x me b f r
def bix (n:Int):List Brd→Option Nat
 | []=>none
 | b::r=>if b.1=n then some 0 else (bix n r).map (·+1)
def q19 (me:Int) (bs:List Brd):List Fld→List Stk→List Fld×Bool
 | fs,[]=>(fs,true)
 | fs,s::r=>if okS s then (match bix s.2.1 bs with
  | none=>(fs,false)
  | some i=>match q0N me (bs.getD i (0,0)).2 (fs.getD i fd0) s with
   | none=>(fs,false)
   | some f=>q19 me bs (fs.set i f) r) else (fs,false)
theorem q2k {n:Int}:∀ {bs:List Brd} {i:Nat},bix n bs=some i→i < bs.length∧(bs.getD i (0,0)).1=n
 | [],i,h=>by cases h
 | b::r,i,h=>by
  unfold bix at h
  split at h
  ·cases h;rename_i h;exact ⟨by simp,h⟩
  ·cases hr:bix n r with
   | none=>simp [hr] at h
   | some j =>
    simp [hr] at h;subst h
    have:=q2k hr
    exact ⟨by simp;omega,by simpa using this.2⟩
def qat (bs:List Brd):Prop:=bs.Pairwise fun a b=>a.1 < b.1
theorem qcn {bs:List Brd} (h:qat bs):∀ {i:Nat},(hi:i < bs.length)→bix bs[i].1 bs=some i:=by
 induction bs with
 | nil=>intro i hi;simp at hi
 | cons b r ih =>
  intro i hi
  cases h with
  | cons h1 h2 =>
   unfold bix
   cases i with
   | zero=>simp
   | succ i =>
    have hi':i < r.length:=by simpa using hi
    have:=h1 r[i] (by simp)
    have hn:b.1≠r[i].1:=by omega
    simp only [List.getElem_cons_succ,hn,if_false,ih h2 hi',Option.map_some]
theorem q5p {me:Int} {bs:List Brd} (hr:qat bs):∀ (l:List Stk) (fs:List Fld),fs.length=bs.length →
  (q19 me bs fs l).1.length=bs.length∧((q19 me bs fs l).2=true →
   (∀ s∈l,okS s=true∧bix s.2.1 bs≠none)∧∀ i,i < bs.length→q0x me (bs.getD i (0,0)) (fs.getD i fd0) l=((q19 me bs fs l).1.getD i fd0,true)) ∧
  ((∀ s∈l,okS s=true∧bix s.2.1 bs≠none)→(∀ i,i < bs.length→(q0x me (bs.getD i (0,0)) (fs.getD i fd0) l).2=true)→(q19 me bs fs l).2=true)
 | [],fs,hl=>⟨hl,fun _=>⟨by simp,fun i _=>rfl⟩,fun _ _=>rfl⟩
 | s::r,fs,hl=>by
  unfold q19
  by_cases h1:okS s=true
  ·rw [if_pos h1]
   cases hb:bix s.2.1 bs with
   | none=>exact ⟨hl,by simp,fun h=>absurd hb (h s (by simp)).2⟩
   | some i =>
    obtain ⟨hi,hf⟩:=q2k hb
    simp only
    cases hs:q0N me (bs.getD i (0,0)).2 (fs.getD i fd0) s with
    | none =>
     refine ⟨hl,by simp,fun _ h2=>?_⟩
     have:=h2 i hi
     unfold q0x at this
     rw [if_pos hf.symm,hs] at this
     cases this
    | some f =>
     have ih:=q5p (me:=me) hr r (fs.set i f) (by simpa using hl)
     have key:∀ j,j < bs.length→q0x me (bs.getD j (0,0)) (fs.getD j fd0) (s::r)=q0x me (bs.getD j (0,0)) ((fs.set i f).getD j fd0) r:=by
      intro j hj
      rw [q0x]
      by_cases hji:j=i
      ·subst hji
       rw [if_pos hf.symm,hs]
       simp [List.getD_eq_getElem?_getD,hl ▸ hj]
      ·have hne:¬ s.2.1=(bs.getD j (0,0)).1:=by
        intro he
        have e1:bix (bs.getD j (0,0)).1 bs=some j:=by
         have:=qcn hr hj
         simpa [List.getD_eq_getElem?_getD,hj] using this
        rw [←he,hb] at e1
        cases e1;exact hji rfl
       rw [if_neg hne]
       simp [List.getD_eq_getElem?_getD,Ne.symm hji]
     refine ⟨ih.1,fun h=>?_,fun h2 h3=>?_⟩
     ·obtain ⟨a,b⟩:=ih.2.1 h
      refine ⟨?_,fun j hj=>by rw [key j hj];exact b j hj⟩
      intro t ht
      cases ht with
      | head=>exact ⟨h1,by rw [hb];simp⟩
      | tail _ ht=>exact a t ht
     ·exact ih.2.2 (fun t ht=>h2 t (List.mem_cons_of_mem _ ht)) fun j hj=>by rw [←key j hj];exact h3 j hj
  ·rw [if_neg h1]
   exact ⟨hl,by simp,fun h=>absurd (h s (by simp)).1 h1⟩
theorem q5X {α:Type} {ok:α→Bool} {src:α→Int}:∀ {l:List α} {p:Option Int},okL ok src p l=true→∀ c∈l,ok c=true∧ltO p (src c)=true
 | [],_,_,c,hc=>by cases hc
 | b::r,p,h,c,hc=>by
  simp only [okL,Bool.and_eq_true] at h
  obtain ⟨h1,h2,h3⟩:=h
  cases hc with
  | head=>exact ⟨h1,h2⟩
  | tail _ hc =>
   obtain ⟨a,b⟩:=q5X h3 c hc
   refine ⟨a,?_⟩
   cases p with
   | none=>rfl
   | some q=>simp only [ltO,decide_eq_true_eq] at *;omega
theorem q2Y {ok:Brd→Bool}:∀ {bs:List Brd} {p:Option Int},okL ok (·.1) p bs=true→qat bs
 | [],_,_=>.nil
 | b::r,p,h=>by
  simp only [okL,Bool.and_eq_true] at h
  refine .cons (fun c hc=>?_) (q2Y h.2.2)
  have:=(q5X h.2.2 c hc).2
  simpa [ltO] using this
end
section
open Go.RowKit Go.Proofs
theorem q30 {β:Type} (N:Nat) (hN:N≤4611686018427387904) (body:(Nat→List Yr→Out)→List Yr→Out) (en:Nat→β→List Yr) (I:Nat→β→Prop) (spec:Nat→β→Out)
  (h0:∀ b k,I N b→body k (en N b)=spec N b)
  (h1:∀ i b k,i < N→I i b→IntKind.i64.wrap ((i:Int)+1)=(i:Int)+1→(∀ b',I (i+1) b'→k 0 (en (i+1) b')=spec (i+1) b')→body k (en i b)=spec i b)
  (b:β) (hb:I 0 b):q1b [body] M0 0 (en 0 b)=spec 0 b:=by
 refine q60 (σ:=Nat×β) [body] (fun s=>(0,en s.1 s.2)) (fun s=>N - s.1) (fun s=>s.1≤N∧I s.1 s.2) (fun s=>spec s.1 s.2) ?_ M0 (0,b) ⟨by simp,hb⟩ (by simp only [M0];omega)
 rintro ⟨i,b⟩ k ⟨hi,hI⟩ ih
 refine ⟨body,rfl,?_⟩
 simp only at hi
 by_cases h:i < N
 ·exact h1 i b k h hI (q3C h hN) fun b' hb'=>ih (i+1,b') ⟨h,hb'⟩ (by simp only;omega)
 ·have:i=N:=by omega
  subst this
  exact h0 b k hI
def q7N {α:Type} (src:α→Int) (l:List α) (i:Nat):Option Int:=if i=0 then none else (l[i - 1]?).map src
theorem q88 {α:Type} (src:α→Int) {l:List α} {i:Nat} {c:α} (h:l[i]?=some c):q7N src l (i+1)=some (src c):=by
 simp [q7N,h]
theorem q8S {i:Nat} (h:0 < i) (h2:i≤4611686018427387904):IntKind.i64.wrap ((i:Int) - 1)=((i - 1:Nat):Int):=by
 rw [q3v (by omega) (by omega)];omega
theorem s68 (n:Nat) (a b c:Int):FN (n+1) 68 [il a,il b,il c]=some (0,[.d (bl (inn a b c))]):=by
 rw [FS,G68_eq];by_cases h:b≤a<;>simp [G68,inn,h]
theorem s70 (n:Nat) (a b c:Int):FN (n+1) 70 [il a,il b,il c]=some (0,[.d (bl (inn a b c))]):=by
 rw [FS,G70_eq];by_cases h:b≤a<;>simp [G70,inn,h]
theorem s61 (n:Nat) (a:Int):FN (n+2) 61 [il a]=some (0,[.d (bl (par a))]):=by rw [FS,G61_eq];simp [G61,s68,par]
theorem s64 (n:Nat) (a:Int):FN (n+2) 64 [il a]=some (0,[.d (bl (par a))]):=by rw [FS,G64_eq];simp [G64,s70,par]
theorem s67 (n:Nat) (a:Int):FN (n+2) 67 [il a]=some (0,[.d (bl (inn a 1 99))]):=by rw [FS,G67_eq];simp [G67,s68]
def isBl (o:Option D) (b:Bool):Bool:=match o with
 | some (.lit (.bool x))=>x==b
 | _=>false
theorem qeP {o:Option D} {b:Bool} (h:isBl o b=true):o=some (bl b):=by
 unfold isBl at h
 split at h
 ·simp only [beq_iff_eq] at h;subst h;rfl
 ·cases h
theorem t71:∀ P:Fin 64,∀ o:Fin 6,isBl ((q7w .shl false (il 1) (il o.1)).bind fun x=>(q7w .and false (il P.1) x).bind fun y=>q7w .neq false y (il 0)) (P.1.testBit o.1)=true:=by decide +kernel
theorem t91:∀ P:Fin 64,∀ o:Fin 6,isBl ((q7w .shr false (il P.1) (il o.1)).bind fun x=>(q7w .and false x (il 1)).bind fun y=>q7w .eql false y (il 1)) (P.1.testBit o.1)=true:=by decide +kernel
theorem q16 {o:Int}:par o=true↔0≤o∧o≤5:=by simp [par,inn]
section
variable {Fn:Nat→List D→Out} {FnD:D→List Sh→List D→Out} {m:Nat}
theorem bin3 (o1 o2 o3:BinOp) (a b c d:D) (z:D) (k:D→Out) (h:((q7w o1 false a b).bind fun x=>(q7w o2 false c x).bind fun y=>q7w o3 false y d)=some z) :
  ((q01 Fn FnD m).bin o1 false a b fun x=>(q01 Fn FnD m).bin o2 false c x fun y=>(q01 Fn FnD m).bin o3 false y d k)=k z:=by
 simp only [q01]
 cases h1:q7w o1 false a b with
 | none=>simp [h1] at h
 | some x =>
  rw [h1,Option.bind_some] at h
  simp only [qdm]
  cases h2:q7w o2 false c x with
  | none=>simp [h2] at h
  | some y =>
   rw [h2,Option.bind_some] at h
   simp only [h]
theorem bin3' (o1 o2 o3:BinOp) (a b c d:D) (z:D) (k:D→Out) (h:((q7w o1 false a b).bind fun x=>(q7w o2 false x c).bind fun y=>q7w o3 false y d)=some z) :
  ((q01 Fn FnD m).bin o1 false a b fun x=>(q01 Fn FnD m).bin o2 false x c fun y=>(q01 Fn FnD m).bin o3 false y d k)=k z:=by
 simp only [q01]
 cases h1:q7w o1 false a b with
 | none=>simp [h1] at h
 | some x =>
  rw [h1,Option.bind_some] at h
  simp only [qdm]
  cases h2:q7w o2 false x c with
  | none=>simp [h2] at h
  | some y =>
   rw [h2,Option.bind_some] at h
   simp only [h]
end
def six (P:Int):Prop:=0≤P∧P≤63
theorem s71 (n:Nat) (x:D) {P:Int} (h:six P) (o:Int):FN (n+3) 71 [x,il P,il o]=some (0,[.d (bl (q3h P o))]):=by
 rw [FS,G71_eq]
 simp only [G71,q0i,s64,q02,q06,q04,q3h]
 by_cases ho:par o=true
 ·rw [if_pos ho,ho,Bool.true_and]
  have h1:=q16.1 ho
  have h2:=qeP (t71 ⟨P.toNat,by have:=h.1;have:=h.2;omega⟩ ⟨o.toNat,by omega⟩)
  rw [show ((⟨P.toNat,_⟩:Fin 64).1:Int)=P from Int.toNat_of_nonneg h.1,show ((⟨o.toNat,_⟩:Fin 6).1:Int)=o from Int.toNat_of_nonneg h1.1] at h2
  rw [q09,q09,bin3 _ _ _ _ _ _ _ _ _ h2];rfl
 ·rw [if_neg ho];simp [ho]
theorem s91 (n:Nat) (x:D) {P:Int} (h:six P) (o:Int):FN (n+3) 91 [x,il P,il o]=some (0,[.d (bl (q3h P o))]):=by
 rw [FS,G91_eq]
 simp only [G91,q0i,s61,q02,q06,q04,q3h]
 by_cases ho:par o=true
 ·rw [if_pos ho,ho,Bool.true_and]
  have h1:=q16.1 ho
  have h2:=qeP (t91 ⟨P.toNat,by have:=h.1;have:=h.2;omega⟩ ⟨o.toNat,by omega⟩)
  rw [show ((⟨P.toNat,_⟩:Fin 64).1:Int)=P from Int.toNat_of_nonneg h.1,show ((⟨o.toNat,_⟩:Fin 6).1:Int)=o from Int.toNat_of_nonneg h1.1] at h2
  rw [q09,bin3' _ _ _ _ _ _ _ _ _ h2];rfl
 ·rw [if_neg ho];simp [ho]
def isIl (o:Out) (z:Int):Bool:=match o with
 | some (0,[.d (.lit (.int .i64 x))])=>x==z
 | _=>false
theorem qjo {o:Out} {z:Int} (h:isIl o z=true):o=some (0,[.d (il z)]):=by
 unfold isIl at h
 split at h
 ·simp only [beq_iff_eq] at h;subst h;rfl
 ·cases h
theorem t103:∀ P:Fin 64,isIl (G103 (q01 (fun _ _=>none) (fun _ _ _=>none) 0) (.lit (.int .u64 P.1))) (cntP P.1)=true:=by decide +kernel
theorem s103 (n:Nat) {P:Int} (h:six P):FN (n+1) 103 [.lit (.int .u64 P)]=some (0,[.d (il (cntP P))]):=by
 rw [FS,qjX]
 have h2:=qjo (t103 ⟨P.toNat,by have:=h.1;have:=h.2;omega⟩)
 rw [show ((⟨P.toNat,_⟩:Fin 64).1:Int)=P from Int.toNat_of_nonneg h.1] at h2
 rw [←h2];rfl
theorem s69 (n:Nat) {P:Int} (h:six P):FN (n+2) 69 [.lit (.int .u64 P)]=some (0,[.d (il (cntP P))]):=by
 rw [FS,G69_eq];simp [G69,s103 _ h]
theorem qdG {P:Int}:inn P 0 63=true↔six P:=by simp [inn,six]
theorem cvu {Fn:Nat→List D→Out} {FnD:D→List Sh→List D→Out} {m:Nat} {P:Int} (h:six P) (k:D→Out):(q01 Fn FnD m).cvI .u64 (il P) k=k (.lit (.int .u64 P)):=by
 have:=h.1;have:=h.2
 simp only [q01,il,IntWalk.u64_in P ⟨by omega,by omega⟩]
theorem s12 (n:Nat) (b:Brd):FN (n+3) 12 [il b.1,il b.2]=some (0,[.d (il (if okB b=true then 0 else 90))]):=by
 rw [FS,G12_eq]
 simp only [G12,q0i,s67,q02,q06,q0E,q04,q09,s68,q0t,okB]
 by_cases h1:inn b.1 1 99=true
 ·simp only [h1,Bool.not_true,Bool.false_eq_true,if_false,Bool.true_and]
  by_cases h2:inn b.2 0 63=true
  ·have h3:=qdG.1 h2
   simp only [h2,Bool.not_true,Bool.false_eq_true,if_false,Bool.true_and,cvu h3,s69 _ h3,q02,q06,q0V,q04,decide_eq_true_eq]
   by_cases h4:2≤cntP b.2
   ·rw [if_neg (by omega),if_pos h4]
   ·rw [if_pos (by omega),if_neg h4]
  ·simp [h2]
 ·simp [h1]
def rg (i:Nat):List Nat:=List.range' i (6 - i)
theorem q8N {i:Nat} (h:i < 6):rg i=i::rg (i+1):=by
 unfold rg
 rw [show 6 - i=(6 - (i+1))+1 by omega,List.range'_succ]
theorem q1k {P:Int} {i:Nat} (h:i < 6):q3h P i=P.toNat.testBit i:=by
 have:par (i:Int)=true:=q16.2 ⟨by omega,by omega⟩
 simp [q3h,this]
end
section
open Go.RowKit Go.Proofs
def rB (b:Brd):List D:=[il b.1,il b.2]
def rS (s:Stk):List D:=[il s.1,il s.2.1,il s.2.2.1,il s.2.2.2]
def rT (t:Tld):List D:=[il t.1,il t.2.1,il t.2.2]
def dL {α:Type} (n:Nat) (f:α→List D) (o:Option (List α)):D:=dSl n (o.map (·.map f))
abbrev dB (o:Option (List Brd)):D:=dL 2 rB o
abbrev dS (o:Option (List Stk)):D:=dL 4 rS o
abbrev dT (o:Option (List Tld)):D:=dL 3 rT o
section
variable {Fn:Nat→List D→Out} {FnD:D→List Sh→List D→Out} {m:Nat}
theorem q95 {α β:Type} (f:α→β) (o:Option (List α)):(o.map (·.map f)).getD []=(o.getD []).map f:=by cases o<;>rfl
theorem q5c {α:Type} (n:Nat) (f:α→List D) (o:Option (List α)) (k:D→Out):(q01 Fn FnD m).lenD (dL n f o) k=k (il (o.getD []).length):=by rw [dL,qe6,q95,List.length_map]
theorem qi4 {α:Type} {n:Nat} {f:α→List D} {o:Option (List α)} {i:Nat} {c:α} (h:(o.getD [])[i]?=some c) (hn:(f c).length=n) (k:List D→Out):(q01 Fn FnD m).rowD n (dL n f o) (il i) k=k (f c):=by
 rw [dL,qbP,if_pos (by omega),q95,Int.toNat_natCast,List.getElem?_map,h];simp [hn]
theorem q6T {α:Type} (n:Nat) (f:α→List D) (o:Option (List α)) (k:Rr→Out):(q01 Fn FnD m).rowsD n (dL n f o) k=k ((o.getD []).map f):=by rw [dL,qbO,q95]
theorem nilL {α:Type} (n:Nat) (f:α→List D) (o:Option (List α)) (a b:Out):(q01 Fn FnD m).nilE (dL n f o) a b=if o.isNone=true then a else b:=by rw [dL,qe3];simp
theorem q6y {o:Option (List Brd)} {i:Nat} {c:Brd} (h:(o.getD [])[i]?=some c) (k:List D→Out):(q01 Fn FnD m).rowD 2 (dB o) (il i) k=k (rB c):=qi4 h rfl k
theorem rowS {o:Option (List Stk)} {i:Nat} {c:Stk} (h:(o.getD [])[i]?=some c) (k:List D→Out):(q01 Fn FnD m).rowD 4 (dS o) (il i) k=k (rS c):=qi4 h rfl k
theorem rowT {o:Option (List Tld)} {i:Nat} {c:Tld} (h:(o.getD [])[i]?=some c) (k:List D→Out):(q01 Fn FnD m).rowD 3 (dT o) (il i) k=k (rT c):=qi4 h rfl k
theorem cB0 (b:Brd):(q01 Fn FnD m).cell (rB b) 0=il b.1:=rfl
theorem cB1 (b:Brd):(q01 Fn FnD m).cell (rB b) 1=il b.2:=rfl
theorem cS0 (b:Stk):(q01 Fn FnD m).cell (rS b) 0=il b.1:=rfl
theorem cS1 (b:Stk):(q01 Fn FnD m).cell (rS b) 1=il b.2.1:=rfl
theorem cS2 (b:Stk):(q01 Fn FnD m).cell (rS b) 2=il b.2.2.1:=rfl
theorem cS3 (b:Stk):(q01 Fn FnD m).cell (rS b) 3=il b.2.2.2:=rfl
theorem cT0 (b:Tld):(q01 Fn FnD m).cell (rT b) 0=il b.1:=rfl
theorem cT1 (b:Tld):(q01 Fn FnD m).cell (rT b) 1=il b.2.1:=rfl
theorem cT2 (b:Tld):(q01 Fn FnD m).cell (rT b) 2=il b.2.2:=rfl
end
theorem qep {b:Brd} (h:okB b=true):six b.2:=by
 simp only [okB,Bool.and_eq_true] at h
 exact qdG.1 h.2.1
theorem q1h (i:Nat):((i+1:Nat):Int)=(i:Int)+1:=by omega
theorem ite_ne (b:Bool) (x:Int) (hx:x≠0):decide ((if b=true then (0:Int) else x)≠0)=!b:=by cases b<;>simp [hx]
theorem l62 (n:Nat) (me:Int) (o:Option (List Brd)) (hl:(o.getD []).length≤4611686018427387904) :
  q1b [qfD (RP (n+3))] M0 0 [.d (il me),.d (dB o),.d (dB o),.d (il (o.getD []).length),.d (il 0)] =
   if okL (qj9 me) (·.1) none (o.getD [])=true then some (1,[.d (dB o)]) else some (0,[.d (bl false)]):=by
 have:=q0L (β:=Unit) (o.getD []) hl (qfD (RP (n+3))) (fun i _=>[.d (il me),.d (dB o),.d (dB o),.d (il (o.getD []).length),.d (il i)]) (fun _ _=>True)
  (fun i r _=>if okL (qj9 me) (·.1) (q7N (·.1) (o.getD []) i) r=true then some (1,[.d (dB o)]) else some (0,[.d (bl false)]))
  (fun _ k _=>by simp [qfD,okL]) ?_ M0 () trivial (q2K hl)
 ·exact this
 ·intro i e r _ k hi hd hlt hw _ ih
  have ih':=ih () trivial
  rw [q88 _ hi,q1h] at ih'
  have hlt':(i:Int) < ((o.getD []).length:Int):=by omega
  simp only [qfD,q06,q0a,q0V,q04,hlt',decide_true,if_true,q6y hi,cB0,cB1,q0i,s12,q02,q09,q2a,ite_ne _ 90 (by omega),q0t,q2s,q0T,hw,okL,qj9,q0u]
  by_cases h1:okB e=true
  ·simp only [h1,Bool.not_true,Bool.false_eq_true,if_false,Bool.true_and,s91 _ _ (qep h1),q02,q06,q0E,q04]
   by_cases h2:q3h e.2 me=true
   ·simp only [h2,Bool.not_true,Bool.false_eq_true,if_false,Bool.true_and]
    by_cases h0:i=0
    ·subst h0
     rw [if_neg (by simp)]
     simp only [q7N,if_true,ltO,Bool.true_and]
     exact ih'
    ·rw [if_pos (by simp;omega),qe1,q8S (by omega) (by omega)]
     have hp:(o.getD [])[i - 1]?=some ((o.getD [])[i - 1]'(by omega)):=List.getElem?_eq_getElem (by omega)
     rw [q6y hp]
     simp only [cB0,qe7,q04,decide_eq_true_eq]
     have hq:q7N (·.1) (o.getD []) i=some ((o.getD [])[i - 1]'(by omega)).1:=by simp [q7N,h0,hp]
     rw [hq]
     by_cases h3:e.1≤((o.getD [])[i - 1]'(by omega)).1
     ·simp only [h3,if_true,ltO,show ¬ (((o.getD [])[i - 1]'(by omega)).1 < e.1) by omega,decide_false,Bool.false_and,Bool.false_eq_true,if_false]
     ·simp only [h3,if_false,ltO,show (((o.getD [])[i - 1]'(by omega)).1 < e.1) by omega,decide_true,Bool.true_and]
      exact ih'
   ·simp [h2]
  ·simp [h1]
theorem s62 (n:Nat) (me:Int) (o:Option (List Brd)) (hl:(o.getD []).length≤4611686018427387904):FN (n+4) 62 [il me,dB o]=some (0,[.d (bl (q1T me (o.getD [])))]):=by
 rw [FS,G62_eq]
 simp only [G62,q5c,q10,q09,l62 _ _ _ hl,q1T]
 by_cases h:okL (qj9 me) (·.1) none (o.getD [])=true
 ·simp only [h,if_true,Bool.true_and,q1C,q06,q5c,q70,q0t]
  congr 5
  simp
  omega
 ·simp [h]
end
section
open Go.RowKit Go.Proofs
theorem l16 (n:Nat) (a b:D) (o:Option (List Tld)) (hl:(o.getD []).length≤4611686018427387904) :
  q1b [qfU (RP (n+2))] M0 0 [.d a,.d b,.d (dT o),.d (dT o),.d (il (o.getD []).length),.d (il 0)] =
   if okL qbU (·.1) none (o.getD [])=true then some (1,[]) else some (0,[.d (il 93)]):=by
 have:=q0L (β:=Unit) (o.getD []) hl (qfU (RP (n+2))) (fun i _=>[.d a,.d b,.d (dT o),.d (dT o),.d (il (o.getD []).length),.d (il i)]) (fun _ _=>True)
  (fun i r _=>if okL qbU (·.1) (q7N (·.1) (o.getD []) i) r=true then some (1,[]) else some (0,[.d (il 93)]))
  (fun _ k _=>by simp [qfU,okL]) ?_ M0 () trivial (q2K hl)
 ·exact this
 ·intro i e r _ k hi hd hlt hw _ ih
  have ih':=ih () trivial
  rw [q88 _ hi,q1h] at ih'
  have hlt':(i:Int) < ((o.getD []).length:Int):=by omega
  simp only [qfU,q06,q0a,q0V,q04,hlt',decide_true,if_true,rowT hi,cT0,cT1,cT2,q0i,s67,s68,q02,q09,q0t,q2s,q0T,hw,okL,qbU,q0E]
  by_cases h1:inn e.1 1 99=true
  ·simp only [h1,Bool.not_true,Bool.false_eq_true,if_false,Bool.true_and]
   by_cases h2:inn e.2.1 0 99999=true
   ·simp only [h2,Bool.not_true,Bool.false_eq_true,if_false,Bool.true_and]
    by_cases h3:inn e.2.2 0 99999=true
    ·simp only [h3,Bool.not_true,Bool.false_eq_true,if_false,Bool.true_and]
     by_cases h0:i=0
     ·subst h0
      rw [if_neg (by simp)]
      simp only [q7N,if_true,ltO,Bool.true_and]
      exact ih'
     ·rw [if_pos (by simp;omega),qe1,q8S (by omega) (by omega)]
      have hp:(o.getD [])[i - 1]?=some ((o.getD [])[i - 1]'(by omega)):=List.getElem?_eq_getElem (by omega)
      rw [rowT hp]
      simp only [cT0,qe7,q04,decide_eq_true_eq]
      have hq:q7N (·.1) (o.getD []) i=some ((o.getD [])[i - 1]'(by omega)).1:=by simp [q7N,h0,hp]
      rw [hq]
      by_cases h3:e.1≤((o.getD [])[i - 1]'(by omega)).1
      ·simp only [h3,if_true,ltO,show ¬ (((o.getD [])[i - 1]'(by omega)).1 < e.1) by omega,decide_false,Bool.false_and,Bool.false_eq_true,if_false]
      ·simp only [h3,if_false,ltO,show (((o.getD [])[i - 1]'(by omega)).1 < e.1) by omega,decide_true,Bool.true_and]
       exact ih'
    ·simp [h3]
   ·simp [h2]
  ·simp [h1]
theorem s16 (n:Nat) (a b:Int) (o:Option (List Tld)) (hl:(o.getD []).length≤4611686018427387904):FN (n+3) 16 [il a,il b,dT o]=some (0,[.d (il (if qcL a b (o.getD [])=true then 0 else 93))]):=by
 rw [FS,G16_eq]
 simp only [G16,q0i,s61,q02,q06,q0E,q04,q0t,q09,qcL,q0H,q5c,q2s,q10,l16 _ _ _ _ hl]
 by_cases h1:par a=true
 ·by_cases h2:par b=true
  ·by_cases h3:a=b
   ·simp [h2,h3]
   ·by_cases h4:(o.getD []).length≤4
    ·have h5:¬ ((4:Int) < (o.getD []).length):=by omega
     by_cases h6:okL qbU (·.1) none (o.getD [])=true
     ·simp [h1,h2,h3,h4,h5,h6]
     ·simp [h1,h2,h3,h4,h5,h6]
    ·have h5:((4:Int) < (o.getD []).length):=by omega
     simp [h1,h2,h3,h4,h5]
  ·simp [h1,h2]
 ·simp [h1]
def q4L:D:=.lit (.slice none 0 0)
def noW (e:Int):Out:=some (0,[.d (il 0),.d q4L,.d q4L,.d (il 0),.d (il e)])
theorem s63 (n:Nat) (o:Option (List Brd)) (hl:(o.getD []).length≤4):FN (n+1) 63 [dB o]=some (0,[.d (dB o)]):=by
 rw [FS,G63_eq]
 simp only [G63,nilL,q0t,q6A,q6T,q0k,q0o,q0v,List.length_nil,q0O,if_true,q0n,Nat.zero_add,List.length_map,q0Q,q0I,List.nil_append,q0K,q2N]
 cases o with
 | none=>rfl
 | some l =>
  simp only [Option.getD_some] at hl ⊢
  rw [if_neg (by simp),if_pos (by omega)]
  rw [show l.length=(l.map rB).length by simp,List.take_length]
  rfl
theorem s9 (n:Nat) (me:Int) (o:Option (List Brd)) (hl:(o.getD []).length≤4611686018427387904):FN (n+5) 9 [il me,dB o] =
  if par me=true then (if q1T me (o.getD [])=true then some (0,[.d (il me),.d (dB o),.d q4L,.d (il 0),.d (il 0)]) else noW 90) else noW 1:=by
 rw [FS,G9_eq]
 simp only [G9,q0i,s61,s62 _ _ _ hl,q02,q06,q0E,q04,q0t,q09,q6A,noW]
 by_cases h1:par me=true
 ·by_cases h2:q1T me (o.getD [])=true
  ·have h3:(o.getD []).length≤4:=by simp only [q1T,Bool.and_eq_true,decide_eq_true_eq] at h2;exact h2.2
   simp only [h1,h2,Bool.not_true,Bool.false_eq_true,if_false,if_true,s63 _ _ h3,q02,q06];rfl
  ·simp only [h1,h2,Bool.not_true,Bool.not_false,Bool.false_eq_true,if_false,if_true];rfl
 ·simp only [h1,Bool.not_false,Bool.false_eq_true,if_false,if_true];rfl
end
section
open Go.RowKit Go.Proofs
noncomputable abbrev FD (n:Nat):D→List Sh→List D→Out:=q2L Tryd.prog (cf3 tb Tryd.prog) (FN n)
theorem qhT {P:Program} {cfg:Cf3} {Fn:Nat→List D→Out} {f:Nat} {caps:List D} {sh:List Sh} {ds:List D} {vs:List VD} (h3:f < 2000000) (hv:q3U sh ds=some vs):q2L P cfg Fn (.fn f caps) sh ds=FnV cfg Fn f (vs++caps.map .one):=by
 simp only [q2L,hv,if_pos h3]
theorem FD_gen {T:Tb3} {P:Program} {Fn:Nat→List D→Out} {f:Nat} {caps:List D} {sh sh':List Sh} {ds:List D} {vs:List VD} {xs:List D} {z:D} (hlt:f < 1000000) (hv:q3U sh ds=some vs) (hash:T.ash f=some sh') (hx:q2h sh' (vs++caps.map .one)=some xs)
  (hr:T.rsk f=[[(false,[.d])]]) (hf:Fn f xs=some (0,[.d z])):q2L P (cf3 T P) Fn (.fn f caps) sh ds=some (0,[.d z]):=by
 have h1:(cf3 T P).ash f=some sh':=by simp only [cf3,if_pos hlt,hash]
 have h2:qeO ((cf3 T P).rsk f)=true:=by simp only [cf3,hr];rfl
 have h3:f < 2000000:=Nat.lt_of_lt_of_le hlt (by decide)
 rw [qhT h3 hv]
 simp only [FnV,h1,hx,h2,if_true,hf]
theorem FD_fn {n f:Nat} {caps:List D} {sh:List Sh} (sh':List Sh) {ds:List D} (vs:List VD) {xs:List D} {z:D} (hlt:f < 1000000) (hv:q3U sh ds=some vs) (hash:tb.ash f=some sh') (hx:q2h sh' (vs++caps.map .one)=some xs)
  (hr:tb.rsk f=[[(false,[.d])]]) (hf:FN n f xs=some (0,[.d z])):FD n (.fn f caps) sh ds=some (0,[.d z]):=FD_gen hlt hv hash hx hr hf
theorem s113 (n:Nat) (a b c:Int):FN (n+1) 113 [il a,il b,il c]=some (0,[.d (bl (decide (a=c)))]):=by rw [FS,qjU];simp [G113]
theorem d113 (n:Nat) (a b c:Int):FD (n+1) (.fn 113 [.dp [il c] 0]) [.agg 2] [il a,il b]=some (0,[.d (bl (decide (a=c)))]) :=
 FD_fn [.agg 2,.ptr 1] [.agg [il a,il b]] (by decide) rfl (by kernel_rfl) rfl (by kernel_rfl) (s113 n a b c)
def ixI (f:Int) (l:List Brd):Int:=match bix f l with
 | some i=>(i:Int)
 | none=>-1
def ixR (f:Int) (i:Nat) (r:List Brd):Out:=match bix f r with
 | some j=>some (0,[.d (il ((i+j:Nat):Int))])
 | none=>some (1,[])
theorem qh2 (f:Int) (l:List Brd) (k:List Yr→Out) (k':List Yr→Out) {Fn:Nat→List D→Out} {FnD:D→List Sh→List D→Out} {m:Nat} (h1:∀ z,k [.d z]=some (0,[.d z])) (h2:k' []=some (0,[.d (il (-1))])) :
  (q01 Fn FnD m).bnd (ixR f 0 l) [k,k']=some (0,[.d (il (ixI f l))]):=by
 unfold ixR ixI
 cases bix f l with
 | none=>simp [h2]
 | some j=>simp [h1]
theorem qh3 (f:Int) (i:Nat) (e:Brd) (r:List Brd):ixR f i (e::r)=if e.1=f then some (0,[.d (il i)]) else ixR f (i+1) r:=by
 unfold ixR
 rw [bix]
 by_cases h:e.1=f
 ·simp [h]
 ·rw [if_neg h,if_neg h]
  cases bix f r with
  | none=>rfl
  | some j=>simp only [Option.map_some];congr 5;omega
theorem qby (n:Nat) (o:Option (List Brd)) (hl:(o.getD []).length≤4611686018427387904) (f:Int):FN (n+2) 112 [dB o,.fn 113 [.dp [il f] 0]]=some (0,[.d (il (ixI f (o.getD [])))]):=by
 rw [FS,qjV]
 simp only [G112,q5c,q09,q10]
 have:=q0L (β:=Unit) (o.getD []) hl (qcv (RP (n+1))) (fun i _=>[.d (dB o),.d (.fn 113 [.dp [il f] 0]),.d (il (o.getD []).length),.d (il i)]) (fun _ _=>True)
  (fun i r _=>ixR f i r)
  (fun _ k _=>by simp [qcv,ixR,bix]) ?_ M0 () trivial (q2K hl)
 ·simp only [Int.natCast_zero] at this
  rw [this]
  exact qh2 _ _ _ _ (fun _=>rfl) rfl
 ·intro i e r _ k hi hd hlt hw _ ih
  have ih':=ih () trivial
  rw [q1h] at ih'
  have hlt':(i:Int) < ((o.getD []).length:Int):=by omega
  rw [qh3,← ih']
  simp only [qcv,q06,q0a,q0V,q04,hlt',decide_true,if_true,q6y hi,cB0,cB1,qe9,d113,q02,q0t,q09,q0T,hw,decide_eq_true_eq]
theorem q3d {f:Int} {l:List Brd}:ixI f l < 0↔bix f l=none:=by
 unfold ixI
 cases h:bix f l with
 | none=>simp
 | some i=>simp
theorem qgr (n:Nat) (s:Stk):FN (n+3) 107 [il s.1,il s.2.1,il s.2.2.1,il s.2.2.2]=some (0,[.d (bl (okS s))]):=by
 rw [FS,qjW]
 simp only [G107,q0i,s67,q02,q06,q09,q0u,q0E,q04,q0H,q0t,okS,decide_eq_true_eq]
 by_cases h0:inn s.2.1 1 99=true
 ·by_cases h1:s.1=1
  ·by_cases h:par s.2.2.1=true<;>simp [h0,h1,h,s61,s68]
  ·by_cases h3:s.1=3
   ·by_cases h:par s.2.2.1=true<;>simp [h0,h3,h,s61,s68]
   ·by_cases h2:s.1=2
    ·by_cases h:s.2.2.1=0<;>simp [h0,h2,h,s61,s68]
    ·by_cases h4:s.1=4
     ·by_cases h:s.2.2.1=0<;>simp [h0,h4,h,s61,s68]
     ·simp [h0,h1,h2,h3,h4]
 ·simp [h0]
theorem tmod2 (z:Int):decide (z.tmod 2=0)=decide (z % 2=0):=by
 congr 1
 rw [←Int.dvd_iff_tmod_eq_zero,Int.dvd_iff_emod_eq_zero]
theorem s86 (n:Nat) (me o no:Int):FN (n+1) 86 [il me,il o,il no]=some (0,[.d (bl (q0C me o no))]):=by
 rw [FS,G86_eq]
 simp only [G86,q0V,q09,q7M _ _ _ _ (show (2:Int)≠0 by decide),q0H,tmod2,q4p,q0t,q0C]
end
section
open Go.RowKit Go.Proofs
section
variable {Fn:Nat→List D→Out} {FnD:D→List Sh→List D→Out} {m:Nat}
theorem q9D {z:Int} (h:par z=true) (k:Nat→Out):(q01 Fn FnD m).inx (il z) 6 k=k z.toNat:=by
 have:=q16.1 h
 rw [q1K,if_pos (by omega)]
theorem q4q {z:Int} (h:par z=true):z.toNat < 6:=by have:=q16.1 h;omega
end
def qaS (me P:Int) (f:Fld) (i:Nat):List Nat:=((rg i).filter fun (o:Nat)=>!decide ((o:Int)=me)&&P.toNat.testBit o).filter fun (o:Nat)=>!q0C me o (f.no o)
theorem q5t (me P:Int) (f:Fld):qaS me P f 6=[]:=rfl
theorem q8d {me P:Int} {f:Fld} {i:Nat} (h:i < 6):qaS me P f i=if (!decide ((i:Int)=me)&&P.toNat.testBit i&&!q0C me i (f.no i))=true then i::qaS me P f (i+1) else qaS me P f (i+1):=by
 unfold qaS
 rw [q8N h,List.filter_cons]
 cases h1:(!decide ((i:Int)=me)&&P.toNat.testBit i) with
 | false=>simp
 | true=>simp only [if_true,List.filter_cons,Bool.true_and]
theorem q8U {s:Stk} (h:okS s=true):(s.1=1∧par s.2.2.1=true)∨s.1=2∨(s.1=3∧par s.2.2.1=true)∨s.1=4:=by
 simp only [okS,Bool.and_eq_true] at h
 obtain ⟨-,h⟩:=h
 by_cases h1:s.1=1
 ·rw [if_pos (.inl h1)] at h
  simp only [Bool.and_eq_true] at h
  exact .inl ⟨h1,h.1⟩
 ·by_cases h3:s.1=3
  ·rw [if_pos (.inr h3)] at h
   simp only [Bool.and_eq_true] at h
   exact .inr (.inr (.inl ⟨h3,h.1⟩))
  ·rw [if_neg (by omega)] at h
   by_cases h2:s.1=2
   ·exact .inr (.inl h2)
   ·by_cases h4:s.1=4
    ·exact .inr (.inr (.inr h4))
    ·rw [if_neg h2,if_neg h4] at h;cases h
theorem q3r {P o:Int} (h:q3h P o=true):par o=true:=by
 simp only [q3h,Bool.and_eq_true] at h;exact h.1
end
section
open Go.RowKit Go.Proofs
def qg7 (bs:List Brd) (s:Stk):Bool:=okS s&&(bix s.2.1 bs).isSome
def okW (me:Int) (bs:List Brd) (ss:List Stk) (h:Int):Bool :=
 par me&&(q1T me bs&&(decide (ss.length≤120)&&(inn h 0 ss.length&&(ss.all (qg7 bs)&&bs.all fun b=>(q0x me b fd0 ss).2))))
theorem q1M {me:Int} {bs:List Brd} (h:q1T me bs=true):∀ c∈bs,six c.2:=by
 intro c hc
 simp only [q1T,Bool.and_eq_true] at h
 have:=(q5X h.1 c hc).1
 simp only [qj9,Bool.and_eq_true] at this
 exact qep this.1
theorem qjO {bs:List Brd} {ss:List Stk} (h:ss.all (qg7 bs)=true):∀ s∈ss,okS s=true:=fun s hs=>by
 have:=List.all_eq_true.1 h s hs
 simp only [qg7,Bool.and_eq_true] at this
 exact this.1
end
section
open Go.RowKit Go.Proofs
def q1g (f:Fld):List D:=[il (f.no 0),bl (f.af 0),il (f.ask 0),il (f.no 1),bl (f.af 1),il (f.ask 1),il (f.no 2),bl (f.af 2),il (f.ask 2),il (f.no 3),bl (f.af 3),il (f.ask 3),il (f.no 4),bl (f.af 4),il (f.ask 4),il (f.no 5),bl (f.af 5),il (f.ask 5),il f.wants,bl f.opn]
def q3K (bs:List Brd):List Value:=bs.map fun b=>.int .i64 b.1
def mapM (bs:List Brd) (fs:List Fld):Mr:=(q3K bs,fs.map q1g)
theorem q76 (f:Int):∀ (bs:List Brd) (i:Nat),q2d 0 (.int .i64 f) (q3K bs) i=some ((bix f bs).map (·+i))
 | [],i=>rfl
 | b::r,i=>by
  have ih:=q76 f r (i+1)
  simp only [q3K,List.map_cons,q2d,kEq] at ih ⊢
  rw [bix]
  by_cases h:b.1=f
  ·simp [h]
  ·have h':(f==b.1)=false:=by simp;omega
   simp only [h',if_neg h]
   rw [ih]
   cases bix f r with
   | none=>rfl
   | some j=>simp;omega
section
variable {Fn:Nat→List D→Out} {FnD:D→List Sh→List D→Out} {m:Nat}
theorem q11 (q:Mr):(q01 Fn FnD m).mrows q=q.2:=rfl
theorem q2b (q:Mr) (r:Rr):(q01 Fn FnD m).mset q r=(q.1,r):=rfl
theorem q1i (a b:Nat):(q01 Fn FnD m).mulN a b=a*b:=rfl
theorem q0F (w:List D) (a b:Nat):(q01 Fn FnD m).cellN w a b=w.getD (a+b) default:=rfl
theorem q29 (r:Rr) (a b:Nat) (l:List D):(q01 Fn FnD m).setRC r a b l=q4R r a b l:=rfl
theorem q2E (bs:List Brd) (rows:Rr) (f:Int) (k:Nat→Out) (e:Out):(q01 Fn FnD m).find 0 (q3K bs,rows) (il f) k e=match bix f bs with
  | some j=>k j
  | none=>e:=by
 have:q7m 0 (q3K bs,rows) (il f)=some (bix f bs):=by
  simp only [q7m,il,qgW,q45,if_true,q76]
  cases bix f bs<;>simp
 simp only [q01,this]
 cases bix f bs<;>rfl
theorem qaJ (a b c d:Out):(q01 Fn FnD m).selK 0 [.int .i64 1,.int .i64 2,.int .i64 3,.int .i64 4] (il 1) [a,b,c,d]=a:=rfl
theorem qaI (a b c d:Out):(q01 Fn FnD m).selK 0 [.int .i64 1,.int .i64 2,.int .i64 3,.int .i64 4] (il 2) [a,b,c,d]=b:=rfl
theorem qaH (a b c d:Out):(q01 Fn FnD m).selK 0 [.int .i64 1,.int .i64 2,.int .i64 3,.int .i64 4] (il 3) [a,b,c,d]=c:=rfl
theorem qaG (a b c d:Out):(q01 Fn FnD m).selK 0 [.int .i64 1,.int .i64 2,.int .i64 3,.int .i64 4] (il 4) [a,b,c,d]=d:=rfl
theorem q0s {fs:List Fld} {j:Nat} {f:Fld} (h:fs[j]?=some f) (k:List D→Out):(q01 Fn FnD m).rowAt 20 (fs.map q1g) j k=k (q1g f):=by
 rw [q3n,List.getElem?_map,h];rfl
theorem q4O (q:Mr):(q01 Fn FnD m).mpD true q=.mp true q.1 q.2:=rfl
theorem qaK (n:Nat):(q01 Fn FnD m).dN (il n)=n:=by simp [q01,dNr,il]
end
theorem q1W (f:Fld):(q1g f).getD 19 default=bl f.opn:=rfl
theorem q1s (f:Fld):(q1g f).getD 18 default=il f.wants:=rfl
theorem q2U (f:Fld) {i:Nat} (h:i < 6):(q1g f).getD (3*i) default=il (f.no i):=by
 match i,h with
 | 0,_=>rfl
 | 1,_=>rfl
 | 2,_=>rfl
 | 3,_=>rfl
 | 4,_=>rfl
 | 5,_=>rfl
theorem q65 (f:Fld) {i:Nat} (h:i < 6):(q1g f).getD (3*i+2) default=il (f.ask i):=by
 match i,h with
 | 0,_=>rfl
 | 1,_=>rfl
 | 2,_=>rfl
 | 3,_=>rfl
 | 4,_=>rfl
 | 5,_=>rfl
theorem qf0 (f:Fld) {i:Nat} (h:i < 6):(q1g f).getD (3*i+1) default=bl (f.af i):=by
 match i,h with
 | 0,_=>rfl
 | 1,_=>rfl
 | 2,_=>rfl
 | 3,_=>rfl
 | 4,_=>rfl
 | 5,_=>rfl
theorem q6R {fs:List Fld} {j:Nat} {f g:Fld} (h:fs[j]?=some f) (off:Nat) (ds:List D) (hg:(q1g f).take off++ds++(q1g f).drop (off+ds.length)=q1g g):q4R (fs.map q1g) j off ds=(fs.set j g).map q1g:=by
 unfold q4R
 have:(fs.map q1g).getD j []=q1g f:=by simp [List.getD_eq_getElem?_getD,h]
 rw [this,hg,List.map_set]
theorem q5P {fs:List Fld} {j:Nat} {f:Fld} (h:fs[j]?=some f) (x:Bool):q4R (fs.map q1g) j 19 [bl x]=(fs.set j { f with opn:=x }).map q1g:=q6R h _ _ rfl
theorem q6Q {fs:List Fld} {j:Nat} {f:Fld} (h:fs[j]?=some f) (x:Int):q4R (fs.map q1g) j 18 [il x]=(fs.set j { f with wants:=x }).map q1g:=q6R h _ _ rfl
theorem qdI {fs:List Fld} {j:Nat} {f:Fld} (h:fs[j]?=some f) {i:Nat} (hi:i < 6) (x:Int):q4R (fs.map q1g) j (3*i) [il x]=(fs.set j { f with no:=upN f.no i x }).map q1g:=by
 refine q6R h _ _ ?_
 match i,hi with
 | 0,_=>rfl
 | 1,_=>rfl
 | 2,_=>rfl
 | 3,_=>rfl
 | 4,_=>rfl
 | 5,_=>rfl
theorem q9p {fs:List Fld} {j:Nat} {f:Fld} (h:fs[j]?=some f) {i:Nat} (hi:i < 6) (x:Bool):q4R (fs.map q1g) j (3*i+1) [bl x]=(fs.set j { f with af:=upN f.af i x }).map q1g:=by
 refine q6R h _ _ ?_
 match i,hi with
 | 0,_=>rfl
 | 1,_=>rfl
 | 2,_=>rfl
 | 3,_=>rfl
 | 4,_=>rfl
 | 5,_=>rfl
theorem qaw {fs:List Fld} {j:Nat} {f:Fld} (h:fs[j]?=some f) {i:Nat} (hi:i < 6) (x:Int):q4R (fs.map q1g) j (3*i+2) [il x]=(fs.set j { f with ask:=upN f.ask i x }).map q1g:=by
 refine q6R h _ _ ?_
 match i,hi with
 | 0,_=>rfl
 | 1,_=>rfl
 | 2,_=>rfl
 | 3,_=>rfl
 | 4,_=>rfl
 | 5,_=>rfl
theorem q2R {fs:List Fld} {j:Nat} {f:Fld} (h:fs[j]?=some f) (g:Fld):(fs.set j g)[j]?=some g:=by
 have:j < fs.length:=by
  rcases Nat.lt_or_ge j fs.length with h' | h'
  ·exact h'
  ·rw [List.getElem?_eq_none h'] at h;cases h
 simp [this]
theorem l95_0 (n:Nat) (bs:List Brd) (fs:List Fld) {j:Nat} {f:Fld} (hj:fs[j]?=some f) (c1 c2 c5:D) (c3 c4:Nat) (c6:Rr) :
  q1b [q2A (RP n)] M0 0 [.n j,.n 0,.d (il 0),.d c1,.d c2,.n c3,.n c4,.d c5,.r c6,.m (mapM bs fs)]=some (0,[.d c1,.d c2,.n c3,.n c4,.d c5,.r c6,.m (mapM bs (fs.set j { f with af:=fun _=>false }))]):=by
 have:=q30 (β:=Fld) 6 (by omega) (q2A (RP n)) (fun i g=>[.n j,.n 0,.d (il i),.d c1,.d c2,.n c3,.n c4,.d c5,.r c6,.m (mapM bs (fs.set j g))]) (fun _ _=>True)
  (fun i g=>some (0,[.d c1,.d c2,.n c3,.n c4,.d c5,.r c6,.m (mapM bs (fs.set j { g with af:=fun q=>if i≤q then false else g.af q }))])) ?_ ?_ f trivial
 ·have e:fs.set j f=fs:=by
   apply List.ext_getElem?
   intro i
   rw [List.getElem?_set]
   split
   ·subst_vars;split<;>simp_all
   ·rfl
  simp only [e] at this
  simpa using this
 ·intro g k _
  simp [q2A,mapM,List.map_set]
  rfl
 ·intro i g k hi _ hw ih
  have ih':=ih { g with af:=upN g.af i false } trivial
  rw [q1h] at ih'
  have e:(fun q=>if i+1≤q then false else upN g.af i false q)=fun q=>if i≤q then false else g.af q:=by
   funext q
   unfold upN
   by_cases h1:i=q
   ·subst h1;simp
   ·by_cases h2:i≤q
    ·rw [if_pos (by omega),if_pos h2]
    ·rw [if_neg (by omega),if_neg h1,if_neg h2]
  simp only [e] at ih'
  rw [←ih']
  have h20:3*i+1+1≤20:=by omega
  simp only [q2A,mapM,q06,q0a,q0p,q0q,q0e,q0g,q0h,q0j,q09,q0u,q0V,q04,show ((i:Int) < 6) by omega,decide_true,if_true,q0k,q1K,q0n,q1i,q11,q2b,q0s (q2R hj g),q29,q1G,Nat.zero_add,Nat.add_zero,Int.toNat_natCast,h20,q9p (q2R hj g) hi,List.set_set,q0T,hw]
  rw [if_pos (by omega)]
theorem e95_3:@q8A=@q2A:=rfl
theorem e95_4:@q8z=@q2z:=rfl
theorem e95_5:@q8y=@q2y:=rfl
end
section
open Go.RowKit Go.Proofs
def enM (c1 c2 c3 c4 c7:D) (c5 c6:Nat) (r:Rr) (m:Mr) (i:Nat) (acc:List Nat):Nat×List Yr:=match acc with
 | []=>(0,[.d c1,.d c2,.d (il i),.m m,.r r,.d c3,.d c4,.n c5,.n c6,.d c7])
 | a::t=>(1,[.d c1,.d c2,.d (il i),.r ((a::t).map fun (o:Nat)=>[il o]),.n (t.length+1),.n (t.length+1),.m m,.r r,.d c3,.d c4,.n c5,.n c6,.d c7])
def qif (c3 c4 c7:D) (c5 c6:Nat) (r:Rr) (m:Mr) (acc:List Nat):Out:=match acc with
 | []=>some (0,[.m m,.r r,.d c3,.d c4,.n c5,.n c6,.d c7])
 | a::t=>some (1,[.r ((a::t).map fun (o:Nat)=>[il o]),.n (t.length+1),.n (t.length+1),.m m,.r r,.d c3,.d c4,.n c5,.n c6,.d c7])
theorem qhr (c1 c2 c3 c4 c7:D) (c5 c6:Nat) (r:Rr) (m:Mr) (i:Nat) (acc:List Nat) (x:Nat) :
  enM c1 c2 c3 c4 c7 c5 c6 r m i (acc++[x])=(1,[.d c1,.d c2,.d (il i),.r ((acc++[x]).map fun (o:Nat)=>[il o]),.n (acc.length+1),.n (acc.length+1),.m m,.r r,.d c3,.d c4,.n c5,.n c6,.d c7]):=by
 cases acc with
 | nil=>rfl
 | cons a t=>simp [enM]
theorem l95_m (n:Nat) {bs:List Brd} {fs:List Fld} {j:Nat} {f:Fld} {fld:Int} (hj:fs[j]?=some f) (hx:bix fld bs=some j) {P:Int} (hP:six P) (me:Int) (y:List Yr) (hy:(RP (n+3)).ld y 6=il fld) (c1 c4 c7:D) (c5 c6:Nat) (r:Rr) :
  q1b [q2z (RP (n+3)) y,q2y (RP (n+3)) y] M0 0 [.d c1,.d (il P),.d (il 0),.m (mapM bs fs),.r r,.d (il me),.d c4,.n c5,.n c6,.d c7]=qif (il me) c4 c7 c5 c6 r (mapM bs fs) (q3x me P f):=by
 have:=q60 (σ:=Nat×List Nat) [q2z (RP (n+3)) y,q2y (RP (n+3)) y] (fun s=>enM c1 (il P) (il me) c4 c7 c5 c6 r (mapM bs fs) s.1 s.2) (fun s=>6 - s.1) (fun s=>s.1≤6∧s.2.length≤s.1)
  (fun s=>qif (il me) c4 c7 c5 c6 r (mapM bs fs) (s.2++qaS me P f s.1)) ?_ M0 (0,[]) ⟨by simp,by simp⟩ (by simp only [M0];omega)
 ·exact this
 ·rintro ⟨i,acc⟩ k ⟨hi,ha⟩ ih
  simp only at hi ha
  by_cases h6:i=6
  ·subst h6
   cases acc with
   | nil=>exact ⟨_,rfl,by simp [q2z,enM,qif,q5t]⟩
   | cons a t=>exact ⟨_,rfl,by simp [q2y,enM,qif,q5t]⟩
  ·have hi':i < 6:=by omega
   have hw:=q3C (show i < 7 by omega) (show 7≤4611686018427387904 by omega)
   have ih0:=ih (i+1,acc) ⟨hi',by simp only;omega⟩ (by simp only;omega)
   have ih1:=ih (i+1,acc++[i]) ⟨hi',by simp;omega⟩ (by simp only;omega)
   simp only [qhr,q1h,List.append_assoc,List.cons_append,List.nil_append] at ih1
   simp only at ih0
   have h20:3*i+1≤20:=by omega
   have hlt:(i:Int) < 6:=by omega
   have hin:0≤(i:Int)∧(i:Int) < (6:Nat):=by omega
   rw [q8d hi']
   cases acc with
   | nil =>
    refine ⟨_,rfl,?_⟩
    simp only [enM,q1h] at ih0
    simp only [enM,q2z,mapM,q06,q0a,q0p,q0q,q0e,q0g,q0h,q0j,q09,q0V,hlt,decide_true,q04,if_true,q2a,q0i,s91 _ _ hP,q02,q1k hi',hy,q2E,hx,q0k,q1K,q11,q0s hj,q0n,q1i,q1G,q0F,Nat.zero_add,Nat.add_zero,Int.toNat_natCast,h20,q2U f hi',s86,q0E,q0o,q0v,List.length_cons,List.length_nil,q0O,q0K,List.take,q5l,q0Q,q0T,hw]
    rw [if_pos hin]
    by_cases h1:(i:Int)=me
    ·simp only [h1,ne_eq,not_true,decide_false,decide_true,Bool.false_eq_true,if_false,Bool.not_true,Bool.false_and]
     rw [←h1] at ih0 ⊢
     exact ih0
    ·cases h2:P.toNat.testBit i with
     | false =>
      simp only [h1,ne_eq,not_false_eq_true,decide_true,if_true,Bool.false_eq_true,if_false,Bool.and_false,Bool.false_and]
      exact ih0
     | true =>
      cases h3:q0C me i (f.no i) with
      | true =>
       simp only [h1,ne_eq,not_false_eq_true,decide_true,if_true,Bool.false_eq_true,if_false,Bool.and_false,Bool.not_true]
       exact ih0
      | false =>
       simp only [h1,ne_eq,not_false_eq_true,decide_true,if_true,Bool.not_false,decide_false,Bool.true_and]
       rw [if_pos (by decide)]
       exact ih1
   | cons a t =>
    refine ⟨_,rfl,?_⟩
    simp only [enM,q1h] at ih0
    simp only [enM,q2y,mapM,q06,q0a,q0p,q0q,q0e,q0g,q0h,q0j,q09,q0V,hlt,decide_true,q04,if_true,q2a,q0i,s91 _ _ hP,q02,q1k hi',hy,q2E,hx,q0k,q1K,q11,q0s hj,q0n,q1i,q1G,q0F,Nat.zero_add,Nat.add_zero,Int.toNat_natCast,h20,q2U f hi',s86,q0E,q0o,q0v,List.length_cons,List.length_nil,q0O,q0K,List.take,q0Q,q0T,hw,List.length_map,q0I]
    rw [if_pos hin]
    by_cases h1:(i:Int)=me
    ·simp only [h1,ne_eq,not_true,decide_false,decide_true,Bool.false_eq_true,if_false,Bool.not_true,Bool.false_and]
     rw [←h1] at ih0 ⊢
     exact ih0
    ·cases h2:P.toNat.testBit i with
     | false =>
      simp only [h1,ne_eq,not_false_eq_true,decide_true,if_true,Bool.false_eq_true,if_false,Bool.and_false,Bool.false_and]
      exact ih0
     | true =>
      cases h3:q0C me i (f.no i) with
      | true =>
       simp only [h1,ne_eq,not_false_eq_true,decide_true,if_true,Bool.false_eq_true,if_false,Bool.and_false,Bool.not_true]
       exact ih0
      | false =>
       simp only [h1,ne_eq,not_false_eq_true,decide_true,if_true,Bool.not_false,decide_false,Bool.true_and]
       simp only [List.length_cons] at ha
       rw [if_pos (by omega)]
       simp only [List.map_append,List.map_cons,List.map_nil,List.length_cons] at ih1 ⊢
       exact ih1
end
end Go.VE
