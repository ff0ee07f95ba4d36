/- The functions. -/
import Derived.Test.YtaagapoglhndjaaDoorMf0
import Derived.Test.YtaagapoglhndjaaDoorMf1
import Derived.Test.YtaagapoglhndjaaDoorMh
import Derived.KernelRfl
namespace Go.VE
abbrev Brd:=Int×Int
abbrev Stk:=Int×Int×Int×Int
def inn (n lo hi:Int):Bool:=decide (lo≤n)&&decide (n≤hi)
def par (n:Int):Bool:=inn n 0 5
def hasP (P o:Int):Bool:=par o&&P.toNat.testBit o.toNat
def cntP (P:Int):Nat:=((List.range 6).filter fun o=>P.toNat.testBit o).length
def okB (b:Brd):Bool:=inn b.1 1 99&&(inn b.2 0 63&&decide (2≤cntP b.2))
def okS (s:Stk):Bool:=inn s.2.1 1 99 &&
 (if s.1=1∨s.1=3 then par s.2.2.1&&inn s.2.2.2 1 99999
 else if s.1=2 then decide (s.2.2.1=0)&&inn s.2.2.2 1 99999
 else if s.1=4 then decide (s.2.2.1=0)&&inn s.2.2.2 0 1 else false)
def ltO:Option Int→Int→Bool
 | none,_=>true
 | some q,x=>decide (q < x)
def okL {α:Type} (ok:α→Bool) (src:α→Int):Option Int→List α→Bool
 | _,[]=>true
 | p,e::r=>ok e&&(ltO p (src e)&&okL ok src (some (src e)) r)
def okBm (me:Int) (b:Brd):Bool:=okB b&&hasP b.2 me
def bords (me:Int) (l:List Brd):Bool:=okL (okBm me) (·.1) none l&&decide (l.length≤4)
structure Fld where
 no:Nat→Int
 af:Nat→Bool
 ask:Nat→Int
 wants:Int
 opn:Bool
def fd0:Fld:=⟨fun _=>0,fun _=>false,fun _=>0,0,false⟩
def upN {α:Type} (f:Nat→α) (i:Nat) (x:α):Nat→α:=fun j=>if i=j then x else f j
def isWith (me o no:Int):Bool:=decide (me < o)==decide (no % 2=0)
def oth (me P:Int):List Nat:=(List.range 6).filter fun o=>!decide ((o:Int)=me)&&P.toNat.testBit o
def missL (me P:Int) (f:Fld):List Nat:=(oth me P).filter fun o=>!isWith me o (f.no o)
def fstep (me P:Int) (f:Fld) (s:Stk):Option Fld :=
 if s.1=1 then (if decide (s.2.2.1=me)||!hasP P s.2.2.1||f.opn||decide (s.2.2.2≤f.no s.2.2.1.toNat) then none
  else some { f with no:=upN f.no s.2.2.1.toNat s.2.2.2,af:=upN f.af s.2.2.1.toNat true })
 else if s.1=2 then (if s.2.2.2≤f.wants then none else some { f with wants:=s.2.2.2,af:=fun _=>false })
 else if s.1=3 then (if decide (s.2.2.1=me)||!hasP P s.2.2.1||decide (s.2.2.2≤f.ask s.2.2.1.toNat) then none
  else some { f with ask:=upN f.ask s.2.2.1.toNat s.2.2.2 })
 else if (f.opn==decide (s.2.2.2=1))||(decide (s.2.2.2=1)&&!(missL me P f).isEmpty) then none else some { f with opn:=decide (s.2.2.2=1) }
def fread (me:Int) (b:Brd):Fld→List Stk→Fld×Bool
 | f,[]=>(f,true)
 | f,s::r=>if s.2.1=b.1 then (match fstep me b.2 f s with
  | none=>(f,false)
  | some f'=>fread me b f' r) else fread me b f r
def bix (n:Int):List Brd→Option Nat
 | []=>none
 | b::r=>if b.1=n then some 0 else (bix n r).map (·+1)
def pread (me:Int) (bs:List Brd):List Fld→List Stk→List Fld×Bool
 | fs,[]=>(fs,true)
 | fs,s::r=>if okS s then (match bix s.2.1 bs with
  | none=>(fs,false)
  | some i=>match fstep me (bs.getD i (0,0)).2 (fs.getD i fd0) s with
   | none=>(fs,false)
   | some f=>pread me bs (fs.set i f) r) else (fs,false)
theorem bix_some {n:Int}:∀ {bs:List Brd} {i:Nat},bix n bs=some i→i < bs.length∧(bs.getD i (0,0)).1=n
 | [],i,h=>by cases h
 | b::r,i,h=>by
  unfold bix at h
  split at h
  ·cases h;rename_i h;exact ⟨by simp,h⟩
  ·cases hr:bix n r with
   | none=>simp [hr] at h
   | some j =>
    simp [hr] at h;subst h
    have:=bix_some hr
    exact ⟨by simp;omega,by simpa using this.2⟩
def Rise (bs:List Brd):Prop:=bs.Pairwise fun a b=>a.1 < b.1
theorem bix_at {bs:List Brd} (h:Rise bs):∀ {i:Nat},(hi:i < bs.length)→bix bs[i].1 bs=some i:=by
 induction bs with
 | nil=>intro i hi;simp at hi
 | cons b r ih =>
  intro i hi
  cases h with
  | cons h1 h2 =>
   unfold bix
   cases i with
   | zero=>simp
   | succ i =>
    have hi':i < r.length:=by simpa using hi
    have:=h1 r[i] (by simp)
    have hn:b.1≠r[i].1:=by omega
    simp only [List.getElem_cons_succ,hn,if_false,ih h2 hi',Option.map_some]
theorem pread_at {me:Int} {bs:List Brd} (hr:Rise bs):∀ (l:List Stk) (fs:List Fld),fs.length=bs.length →
  (pread me bs fs l).1.length=bs.length∧((pread me bs fs l).2=true →
   (∀ s∈l,okS s=true∧bix s.2.1 bs≠none)∧∀ i,i < bs.length→fread me (bs.getD i (0,0)) (fs.getD i fd0) l=((pread me bs fs l).1.getD i fd0,true)) ∧
  ((∀ s∈l,okS s=true∧bix s.2.1 bs≠none)→(∀ i,i < bs.length→(fread me (bs.getD i (0,0)) (fs.getD i fd0) l).2=true)→(pread me bs fs l).2=true)
 | [],fs,hl=>⟨hl,fun _=>⟨by simp,fun i _=>rfl⟩,fun _ _=>rfl⟩
 | s::r,fs,hl=>by
  unfold pread
  by_cases h1:okS s=true
  ·rw [if_pos h1]
   cases hb:bix s.2.1 bs with
   | none=>exact ⟨hl,by simp,fun h=>absurd hb (h s (by simp)).2⟩
   | some i =>
    obtain ⟨hi,hf⟩:=bix_some hb
    simp only
    cases hs:fstep me (bs.getD i (0,0)).2 (fs.getD i fd0) s with
    | none =>
     refine ⟨hl,by simp,fun _ h2=>?_⟩
     have:=h2 i hi
     unfold fread at this
     rw [if_pos hf.symm,hs] at this
     cases this
    | some f =>
     have ih:=pread_at (me:=me) hr r (fs.set i f) (by simpa using hl)
     have key:∀ j,j < bs.length→fread me (bs.getD j (0,0)) (fs.getD j fd0) (s::r)=fread me (bs.getD j (0,0)) ((fs.set i f).getD j fd0) r:=by
      intro j hj
      rw [fread]
      by_cases hji:j=i
      ·subst hji
       rw [if_pos hf.symm,hs]
       simp [List.getD_eq_getElem?_getD,hl ▸ hj]
      ·have hne:¬ s.2.1=(bs.getD j (0,0)).1:=by
        intro he
        have e1:bix (bs.getD j (0,0)).1 bs=some j:=by
         have:=bix_at hr hj
         simpa [List.getD_eq_getElem?_getD,hj] using this
        rw [←he,hb] at e1
        cases e1;exact hji rfl
       rw [if_neg hne]
       simp [List.getD_eq_getElem?_getD,List.getElem?_set,Ne.symm hji]
     refine ⟨ih.1,fun h=>?_,fun h2 h3=>?_⟩
     ·obtain ⟨a,b⟩:=ih.2.1 h
      refine ⟨?_,fun j hj=>by rw [key j hj];exact b j hj⟩
      intro t ht
      cases ht with
      | head=>exact ⟨h1,by rw [hb];simp⟩
      | tail _ ht=>exact a t ht
     ·exact ih.2.2 (fun t ht=>h2 t (List.mem_cons_of_mem _ ht)) fun j hj=>by rw [←key j hj];exact h3 j hj
  ·rw [if_neg h1]
   exact ⟨hl,by simp,fun h=>absurd (h s (by simp)).1 h1⟩
theorem okL_mem {α:Type} {ok:α→Bool} {src:α→Int}:∀ {l:List α} {p:Option Int},okL ok src p l=true→∀ c∈l,ok c=true∧ltO p (src c)=true
 | [],_,_,c,hc=>by cases hc
 | b::r,p,h,c,hc=>by
  simp only [okL,Bool.and_eq_true] at h
  obtain ⟨h1,h2,h3⟩:=h
  cases hc with
  | head=>exact ⟨h1,h2⟩
  | tail _ hc =>
   obtain ⟨a,b⟩:=okL_mem h3 c hc
   refine ⟨a,?_⟩
   cases p with
   | none=>rfl
   | some q=>simp only [ltO,decide_eq_true_eq] at *;omega
theorem okL_rise {ok:Brd→Bool}:∀ {bs:List Brd} {p:Option Int},okL ok (·.1) p bs=true→Rise bs
 | [],_,_=>.nil
 | b::r,p,h=>by
  simp only [okL,Bool.and_eq_true] at h
  refine .cons (fun c hc=>?_) (okL_rise h.2.2)
  have:=(okL_mem h.2.2 c hc).2
  simpa [ltO] using this
end Go.VE
namespace Go.VE
open Go.RowKit Go.Proofs
theorem cnt_loop {β:Type} (N:Nat) (hN:N≤4611686018427387904) (body:(Nat→List Yr→Out)→List Yr→Out) (en:Nat→β→List Yr) (I:Nat→β→Prop) (spec:Nat→β→Out)
  (h0:∀ b k,I N b→body k (en N b)=spec N b)
  (h1:∀ i b k,i < N→I i b→IntKind.i64.wrap ((i:Int)+1)=(i:Int)+1→(∀ b',I (i+1) b'→k 0 (en (i+1) b')=spec (i+1) b')→body k (en i b)=spec i b)
  (b:β) (hb:I 0 b):loopR [body] M0 0 (en 0 b)=spec 0 b:=by
 refine loop_ms (σ:=Nat×β) [body] (fun s=>(0,en s.1 s.2)) (fun s=>N - s.1) (fun s=>s.1≤N∧I s.1 s.2) (fun s=>spec s.1 s.2) ?_ M0 (0,b) ⟨by simp,hb⟩ (by simp only [M0];omega)
 rintro ⟨i,b⟩ k ⟨hi,hI⟩ ih
 refine ⟨body,rfl,?_⟩
 simp only at hi
 by_cases h:i < N
 ·exact h1 i b k h hI (wrap_succ h hN) fun b' hb'=>ih (i+1,b') ⟨h,hb'⟩ (by simp only;omega)
 ·have:i=N:=by omega
  subst this
  exact h0 b k hI
def prevO {α:Type} (src:α→Int) (l:List α) (i:Nat):Option Int:=if i=0 then none else (l[i - 1]?).map src
theorem prevO_succ {α:Type} (src:α→Int) {l:List α} {i:Nat} {c:α} (h:l[i]?=some c):prevO src l (i+1)=some (src c):=by
 simp [prevO,h]
theorem pred_nat {i:Nat} (h:0 < i) (h2:i≤4611686018427387904):IntKind.i64.wrap ((i:Int) - 1)=((i - 1:Nat):Int):=by
 rw [wrap_id (by omega) (by omega)];omega
theorem s68 (n:Nat) (a b c:Int):FN (n+1) 68 [il a,il b,il c]=some (0,[.d (bl (inn a b c))]):=by
 rw [F68];by_cases h:b≤a<;>simp [G68,inn,h]
theorem s70 (n:Nat) (a b c:Int):FN (n+1) 70 [il a,il b,il c]=some (0,[.d (bl (inn a b c))]):=by
 rw [F70];by_cases h:b≤a<;>simp [G70,inn,h]
theorem s61 (n:Nat) (a:Int):FN (n+2) 61 [il a]=some (0,[.d (bl (par a))]):=by rw [F61];simp [G61,s68,par]
theorem s64 (n:Nat) (a:Int):FN (n+2) 64 [il a]=some (0,[.d (bl (par a))]):=by rw [F64];simp [G64,s70,par]
theorem s67 (n:Nat) (a:Int):FN (n+2) 67 [il a]=some (0,[.d (bl (inn a 1 99))]):=by rw [F67];simp [G67,s68]
def isBl (o:Option D) (b:Bool):Bool:=match o with
 | some (.lit (.bool x))=>x==b
 | _=>false
theorem isBl_eq {o:Option D} {b:Bool} (h:isBl o b=true):o=some (bl b):=by
 unfold isBl at h
 split at h
 ·simp only [beq_iff_eq] at h;subst h;rfl
 ·cases h
theorem t71:∀ P:Fin 64,∀ o:Fin 6,isBl ((binD .shl false (il 1) (il o.1)).bind fun x=>(binD .and false (il P.1) x).bind fun y=>binD .neq false y (il 0)) (P.1.testBit o.1)=true:=by decide +kernel
theorem t91:∀ P:Fin 64,∀ o:Fin 6,isBl ((binD .shr false (il P.1) (il o.1)).bind fun x=>(binD .and false x (il 1)).bind fun y=>binD .eql false y (il 1)) (P.1.testBit o.1)=true:=by decide +kernel
theorem par_iff {o:Int}:par o=true↔0≤o∧o≤5:=by simp [par,inn]
section
variable {Fn:Nat→List D→Out} {FnD:D→List Sh→List D→Out} {m:Nat}
theorem bin3 (o1 o2 o3:BinOp) (a b c d:D) (z:D) (k:D→Out) (h:((binD o1 false a b).bind fun x=>(binD o2 false c x).bind fun y=>binD o3 false y d)=some z) :
  ((real Fn FnD m).bin o1 false a b fun x=>(real Fn FnD m).bin o2 false c x fun y=>(real Fn FnD m).bin o3 false y d k)=k z:=by
 simp only [real]
 cases h1:binD o1 false a b with
 | none=>simp [h1] at h
 | some x =>
  rw [h1,Option.bind_some] at h
  simp only [optO]
  cases h2:binD o2 false c x with
  | none=>simp [h2] at h
  | some y =>
   rw [h2,Option.bind_some] at h
   simp only [h]
theorem bin3' (o1 o2 o3:BinOp) (a b c d:D) (z:D) (k:D→Out) (h:((binD o1 false a b).bind fun x=>(binD o2 false x c).bind fun y=>binD o3 false y d)=some z) :
  ((real Fn FnD m).bin o1 false a b fun x=>(real Fn FnD m).bin o2 false x c fun y=>(real Fn FnD m).bin o3 false y d k)=k z:=by
 simp only [real]
 cases h1:binD o1 false a b with
 | none=>simp [h1] at h
 | some x =>
  rw [h1,Option.bind_some] at h
  simp only [optO]
  cases h2:binD o2 false x c with
  | none=>simp [h2] at h
  | some y =>
   rw [h2,Option.bind_some] at h
   simp only [h]
end
def six (P:Int):Prop:=0≤P∧P≤63
theorem s71 (n:Nat) (x:D) {P:Int} (h:six P) (o:Int):FN (n+3) 71 [x,il P,il o]=some (0,[.d (bl (hasP P o))]):=by
 rw [F71]
 simp only [G71,r_call,s64,r_bnd0,r_ld0,r_cond,hasP]
 by_cases ho:par o=true
 ·rw [if_pos ho,ho,Bool.true_and]
  have h1:=par_iff.1 ho
  have h2:=isBl_eq (t71 ⟨P.toNat,by have:=h.1;have:=h.2;omega⟩ ⟨o.toNat,by omega⟩)
  rw [show ((⟨P.toNat,_⟩:Fin 64).1:Int)=P from Int.toNat_of_nonneg h.1,show ((⟨o.toNat,_⟩:Fin 6).1:Int)=o from Int.toNat_of_nonneg h1.1] at h2
  rw [r_liti,r_liti,bin3 _ _ _ _ _ _ _ _ _ h2];rfl
 ·rw [if_neg ho];simp [ho]
theorem s91 (n:Nat) (x:D) {P:Int} (h:six P) (o:Int):FN (n+3) 91 [x,il P,il o]=some (0,[.d (bl (hasP P o))]):=by
 rw [F91]
 simp only [G91,r_call,s61,r_bnd0,r_ld0,r_cond,hasP]
 by_cases ho:par o=true
 ·rw [if_pos ho,ho,Bool.true_and]
  have h1:=par_iff.1 ho
  have h2:=isBl_eq (t91 ⟨P.toNat,by have:=h.1;have:=h.2;omega⟩ ⟨o.toNat,by omega⟩)
  rw [show ((⟨P.toNat,_⟩:Fin 64).1:Int)=P from Int.toNat_of_nonneg h.1,show ((⟨o.toNat,_⟩:Fin 6).1:Int)=o from Int.toNat_of_nonneg h1.1] at h2
  rw [r_liti,bin3' _ _ _ _ _ _ _ _ _ h2];rfl
 ·rw [if_neg ho];simp [ho]
def isIl (o:Out) (z:Int):Bool:=match o with
 | some (0,[.d (.lit (.int .i64 x))])=>x==z
 | _=>false
theorem isIl_eq {o:Out} {z:Int} (h:isIl o z=true):o=some (0,[.d (il z)]):=by
 unfold isIl at h
 split at h
 ·simp only [beq_iff_eq] at h;subst h;rfl
 ·cases h
theorem t103:∀ P:Fin 64,isIl (G103 (real (fun _ _=>none) (fun _ _ _=>none) 0) (.lit (.int .u64 P.1))) (cntP P.1)=true:=by decide +kernel
theorem s103 (n:Nat) {P:Int} (h:six P):FN (n+1) 103 [.lit (.int .u64 P)]=some (0,[.d (il (cntP P))]):=by
 rw [F103]
 have h2:=isIl_eq (t103 ⟨P.toNat,by have:=h.1;have:=h.2;omega⟩)
 rw [show ((⟨P.toNat,_⟩:Fin 64).1:Int)=P from Int.toNat_of_nonneg h.1] at h2
 rw [←h2];rfl
theorem s69 (n:Nat) {P:Int} (h:six P):FN (n+2) 69 [.lit (.int .u64 P)]=some (0,[.d (il (cntP P))]):=by
 rw [F69];simp [G69,s103 _ h]
theorem six_iff {P:Int}:inn P 0 63=true↔six P:=by simp [inn,six]
theorem cvu {Fn:Nat→List D→Out} {FnD:D→List Sh→List D→Out} {m:Nat} {P:Int} (h:six P) (k:D→Out):(real Fn FnD m).cvI .u64 (il P) k=k (.lit (.int .u64 P)):=by
 have:=h.1;have:=h.2
 simp only [real,il,IntWalk.u64_in P ⟨by omega,by omega⟩]
theorem s12 (n:Nat) (b:Brd):FN (n+3) 12 [il b.1,il b.2]=some (0,[.d (il (if okB b=true then 0 else 90))]):=by
 rw [F12]
 simp only [G12,r_call,s67,r_bnd0,r_ld0,r_not,r_cond,r_liti,s68,r_out,okB]
 by_cases h1:inn b.1 1 99=true
 ·simp only [h1,Bool.not_true,Bool.false_eq_true,if_false,Bool.true_and]
  by_cases h2:inn b.2 0 63=true
  ·have h3:=six_iff.1 h2
   simp only [h2,Bool.not_true,Bool.false_eq_true,if_false,Bool.true_and,cvu h3,s69 _ h3,r_bnd0,r_ld0,r_lss,r_cond,decide_eq_true_eq]
   by_cases h4:2≤cntP b.2
   ·rw [if_neg (by omega),if_pos h4]
   ·rw [if_pos (by omega),if_neg h4]
  ·simp [h2]
 ·simp [h1]
def rg (i:Nat):List Nat:=List.range' i (6 - i)
theorem rg_succ {i:Nat} (h:i < 6):rg i=i::rg (i+1):=by
 unfold rg
 rw [show 6 - i=(6 - (i+1))+1 by omega,List.range'_succ]
theorem rg_zero:List.range 6=rg 0:=rfl
theorem hasP_nat {P:Int} {i:Nat} (h:i < 6):hasP P i=P.toNat.testBit i:=by
 have:par (i:Int)=true:=par_iff.2 ⟨by omega,by omega⟩
 simp [hasP,this]
theorem l13 (n:Nat) (f:D) {P:Int} (h:six P):loopR [L13_0 (RP (n+3))] M0 0 [.d f,.d (il P),.d (il 0),.d (il 0)]=some (0,[.d (il (cntP P))]):=by
 have:=cnt_loop (β:=Nat) 6 (by omega) (L13_0 (RP (n+3))) (fun i c=>[.d f,.d (il P),.d (il c),.d (il i)]) (fun i c=>c≤i) (fun i c=>some (0,[.d (il ((c:Int)+((rg i).filter fun o=>P.toNat.testBit o).length))])) ?_ ?_ 0 (by simp)
 ·simpa [cntP,rg_zero] using this
 ·intro c k _
  simp [L13_0,rg]
 ·intro i c k hi hc hw ih
  have hw2:IntKind.i64.wrap ((c:Int)+1)=(c:Int)+1:=wrap_succ (show c < 7 by omega) (by omega)
  rw [rg_succ hi]
  simp only [L13_0,r_ld0,r_lds,r_liti,r_lss,r_cond,show ((i:Int) < 6) by omega,decide_true,if_true,r_call,s71 _ _ h,r_bnd0,hasP_nat hi,r_add,hw,hw2,List.filter_cons]
  by_cases hb:P.toNat.testBit i=true
  ·simp only [hb,if_true,List.length_cons]
   have:=ih (c+1) (by omega)
   rw [show ((c+1:Nat):Int)=(c:Int)+1 by omega,show ((i+1:Nat):Int)=(i:Int)+1 by omega] at this
   rw [this]
   congr 5
   omega
  ·simp only [hb,Bool.false_eq_true,if_false]
   have:=ih c (by omega)
   rw [show ((i+1:Nat):Int)=(i:Int)+1 by omega] at this
   exact this
theorem s13 (n:Nat) (b:Brd):FN (n+4) 13 [il b.1,il b.2]=some (0,[.d (il (if okB b=true then 0 else 90))]):=by
 rw [F13]
 simp only [G13,r_call,r_bnd0,r_ld0,r_not,r_cond,r_liti,s70,r_out,okB]
 by_cases h1:inn b.1 1 99=true
 ·simp only [h1,Bool.not_true,Bool.false_eq_true,if_false,Bool.true_and]
  by_cases h2:inn b.2 0 63=true
  ·have h3:=six_iff.1 h2
   simp only [h2,Bool.not_true,Bool.false_eq_true,if_false,Bool.true_and,r_loop,l13 _ _ h3,r_bnd0,r_ld0,r_lss,r_cond,decide_eq_true_eq]
   by_cases h4:2≤cntP b.2
   ·rw [if_neg (by omega),if_pos h4]
   ·rw [if_pos (by omega),if_neg h4]
  ·simp [h2]
 ·simp [h1]
end Go.VE
namespace Go.VE
open Go.RowKit Go.Proofs
def rB (b:Brd):List D:=[il b.1,il b.2]
def rS (s:Stk):List D:=[il s.1,il s.2.1,il s.2.2.1,il s.2.2.2]
def dL {α:Type} (n:Nat) (f:α→List D) (o:Option (List α)):D:=dSl n (o.map (·.map f))
abbrev dB (o:Option (List Brd)):D:=dL 2 rB o
abbrev dS (o:Option (List Stk)):D:=dL 4 rS o
section
variable {Fn:Nat→List D→Out} {FnD:D→List Sh→List D→Out} {m:Nat}
theorem getD_map {α β:Type} (f:α→β) (o:Option (List α)):(o.map (·.map f)).getD []=(o.getD []).map f:=by cases o<;>rfl
theorem lenL {α:Type} (n:Nat) (f:α→List D) (o:Option (List α)) (k:D→Out):(real Fn FnD m).lenD (dL n f o) k=k (il (o.getD []).length):=by rw [dL,r_lenDS,getD_map,List.length_map]
theorem rowL {α:Type} {n:Nat} {f:α→List D} {o:Option (List α)} {i:Nat} {c:α} (h:(o.getD [])[i]?=some c) (hn:(f c).length=n) (k:List D→Out):(real Fn FnD m).rowD n (dL n f o) (il i) k=k (f c):=by
 rw [dL,r_rowDSg,if_pos (by omega),getD_map,Int.toNat_natCast,List.getElem?_map,h];simp [hn]
theorem rowsL {α:Type} (n:Nat) (f:α→List D) (o:Option (List α)) (k:Rr→Out):(real Fn FnD m).rowsD n (dL n f o) k=k ((o.getD []).map f):=by rw [dL,r_rowsDS,getD_map]
theorem nilL {α:Type} (n:Nat) (f:α→List D) (o:Option (List α)) (a b:Out):(real Fn FnD m).nilE (dL n f o) a b=if o.isNone=true then a else b:=by rw [dL,r_nilES];simp
theorem rowB {o:Option (List Brd)} {i:Nat} {c:Brd} (h:(o.getD [])[i]?=some c) (k:List D→Out):(real Fn FnD m).rowD 2 (dB o) (il i) k=k (rB c):=rowL h rfl k
theorem rowS {o:Option (List Stk)} {i:Nat} {c:Stk} (h:(o.getD [])[i]?=some c) (k:List D→Out):(real Fn FnD m).rowD 4 (dS o) (il i) k=k (rS c):=rowL h rfl k
theorem cB0 (b:Brd):(real Fn FnD m).cell (rB b) 0=il b.1:=rfl
theorem cB1 (b:Brd):(real Fn FnD m).cell (rB b) 1=il b.2:=rfl
theorem cS0 (b:Stk):(real Fn FnD m).cell (rS b) 0=il b.1:=rfl
theorem cS1 (b:Stk):(real Fn FnD m).cell (rS b) 1=il b.2.1:=rfl
theorem cS2 (b:Stk):(real Fn FnD m).cell (rS b) 2=il b.2.2.1:=rfl
theorem cS3 (b:Stk):(real Fn FnD m).cell (rS b) 3=il b.2.2.2:=rfl
end
theorem okB_six {b:Brd} (h:okB b=true):six b.2:=by
 simp only [okB,Bool.and_eq_true] at h
 exact six_iff.1 h.2.1
theorem cast1 (i:Nat):((i+1:Nat):Int)=(i:Int)+1:=by omega
theorem ite_ne (b:Bool) (x:Int) (hx:x≠0):decide ((if b=true then (0:Int) else x)≠0)=!b:=by cases b<;>simp [hx]
theorem l62 (n:Nat) (me:Int) (o:Option (List Brd)) (hl:(o.getD []).length≤4611686018427387904) :
  loopR [L62_0 (RP (n+3))] M0 0 [.d (il me),.d (dB o),.d (dB o),.d (il (o.getD []).length),.d (il 0)] =
   if okL (okBm me) (·.1) none (o.getD [])=true then some (1,[.d (dB o)]) else some (0,[.d (bl false)]):=by
 have:=range_loop (β:=Unit) (o.getD []) hl (L62_0 (RP (n+3))) (fun i _=>[.d (il me),.d (dB o),.d (dB o),.d (il (o.getD []).length),.d (il i)]) (fun _ _=>True)
  (fun i r _=>if okL (okBm me) (·.1) (prevO (·.1) (o.getD []) i) r=true then some (1,[.d (dB o)]) else some (0,[.d (bl false)]))
  (fun _ k _=>by simp [L62_0,okL]) ?_ M0 () trivial (M0_big hl)
 ·exact this
 ·intro i e r _ k hi hd hlt hw _ ih
  have ih':=ih () trivial
  rw [prevO_succ _ hi,cast1] at ih'
  have hlt':(i:Int) < ((o.getD []).length:Int):=by omega
  simp only [L62_0,r_ld0,r_lds,r_lss,r_cond,hlt',decide_true,if_true,rowB hi,cB0,cB1,r_call,s12,r_bnd0,r_liti,r_neq,ite_ne _ 90 (by omega),r_out,r_gtr,r_add,hw,okL,okBm,r_litb]
  by_cases h1:okB e=true
  ·simp only [h1,Bool.not_true,Bool.false_eq_true,if_false,Bool.true_and,s91 _ _ (okB_six h1),r_bnd0,r_ld0,r_not,r_cond]
   by_cases h2:hasP e.2 me=true
   ·simp only [h2,Bool.not_true,Bool.false_eq_true,if_false,Bool.true_and]
    by_cases h0:i=0
    ·subst h0
     rw [if_neg (by simp)]
     simp only [prevO,if_true,ltO,Bool.true_and]
     exact ih'
    ·rw [if_pos (by simp;omega),r_sub,pred_nat (by omega) (by omega)]
     have hp:(o.getD [])[i - 1]?=some ((o.getD [])[i - 1]'(by omega)):=List.getElem?_eq_getElem (by omega)
     rw [rowB hp]
     simp only [cB0,r_geq,r_cond,decide_eq_true_eq]
     have hq:prevO (·.1) (o.getD []) i=some ((o.getD [])[i - 1]'(by omega)).1:=by simp [prevO,h0,hp]
     rw [hq]
     by_cases h3:e.1≤((o.getD [])[i - 1]'(by omega)).1
     ·simp only [h3,if_true,ltO,show ¬ (((o.getD [])[i - 1]'(by omega)).1 < e.1) by omega,decide_false,Bool.false_and,Bool.false_eq_true,if_false]
     ·simp only [h3,if_false,ltO,show (((o.getD [])[i - 1]'(by omega)).1 < e.1) by omega,decide_true,Bool.true_and]
      exact ih'
   ·simp [h2]
  ·simp [h1]
theorem s62 (n:Nat) (me:Int) (o:Option (List Brd)) (hl:(o.getD []).length≤4611686018427387904):FN (n+4) 62 [il me,dB o]=some (0,[.d (bl (bords me (o.getD [])))]):=by
 rw [F62]
 simp only [G62,lenL,r_loop,r_liti,l62 _ _ _ hl,bords]
 by_cases h:okL (okBm me) (·.1) none (o.getD [])=true
 ·simp only [h,if_true,Bool.true_and,r_bnd1,r_ld0,lenL,r_leq,r_out]
  congr 5
  simp
  omega
 ·simp [h]
theorem l65 (n:Nat) (me:Int) (o:Option (List Brd)) (hl:(o.getD []).length≤4611686018427387904) :
  loopR [L65_0 (RP (n+4))] M0 0 [.d (il me),.d (dB o),.d (il 0)] =
   if okL (okBm me) (·.1) none (o.getD [])=true then some (1,[.d (dB o)]) else some (0,[.d (bl false)]):=by
 have:=range_loop (β:=Unit) (o.getD []) hl (L65_0 (RP (n+4))) (fun i _=>[.d (il me),.d (dB o),.d (il i)]) (fun _ _=>True)
  (fun i r _=>if okL (okBm me) (·.1) (prevO (·.1) (o.getD []) i) r=true then some (1,[.d (dB o)]) else some (0,[.d (bl false)]))
  (fun _ k _=>by simp [L65_0,okL,lenL]) ?_ M0 () trivial (M0_big hl)
 ·exact this
 ·intro i e r _ k hi hd hlt hw _ ih
  have ih':=ih () trivial
  rw [prevO_succ _ hi,cast1] at ih'
  have hlt':(i:Int) < ((o.getD []).length:Int):=by omega
  simp only [L65_0,lenL,r_ld0,r_lds,r_lss,r_cond,hlt',decide_true,if_true,rowB hi,cB0,cB1,r_call,s13,r_bnd0,r_liti,r_neq,ite_ne _ 90 (by omega),r_out,r_gtr,r_add,hw,okL,okBm,r_litb]
  by_cases h1:okB e=true
  ·simp only [h1,Bool.not_true,Bool.false_eq_true,if_false,Bool.true_and,s71 _ _ (okB_six h1),r_bnd0,r_ld0,r_not,r_cond]
   by_cases h2:hasP e.2 me=true
   ·simp only [h2,Bool.not_true,Bool.false_eq_true,if_false,Bool.true_and]
    by_cases h0:i=0
    ·subst h0
     rw [if_neg (by simp)]
     simp only [prevO,if_true,ltO,Bool.true_and]
     exact ih'
    ·rw [if_pos (by simp;omega),r_sub,pred_nat (by omega) (by omega)]
     have hp:(o.getD [])[i - 1]?=some ((o.getD [])[i - 1]'(by omega)):=List.getElem?_eq_getElem (by omega)
     rw [rowB hp]
     simp only [cB0,r_geq,r_cond,decide_eq_true_eq]
     have hq:prevO (·.1) (o.getD []) i=some ((o.getD [])[i - 1]'(by omega)).1:=by simp [prevO,h0,hp]
     rw [hq]
     by_cases h3:e.1≤((o.getD [])[i - 1]'(by omega)).1
     ·simp only [h3,if_true,ltO,show ¬ (((o.getD [])[i - 1]'(by omega)).1 < e.1) by omega,decide_false,Bool.false_and,Bool.false_eq_true,if_false]
     ·simp only [h3,if_false,ltO,show (((o.getD [])[i - 1]'(by omega)).1 < e.1) by omega,decide_true,Bool.true_and]
      exact ih'
   ·simp [h2]
  ·simp [h1]
theorem s65 (n:Nat) (me:Int) (o:Option (List Brd)) (hl:(o.getD []).length≤4611686018427387904):FN (n+5) 65 [il me,dB o]=some (0,[.d (bl (bords me (o.getD [])))]):=by
 rw [F65]
 simp only [G65,r_loop,r_liti,l65 _ _ _ hl,bords]
 by_cases h:okL (okBm me) (·.1) none (o.getD [])=true
 ·simp only [h,if_true,Bool.true_and,r_bnd1,r_ld0,lenL,r_leq,r_out]
  congr 5
  simp
  omega
 ·simp [h]
end Go.VE
namespace Go.VE
open Go.RowKit Go.Proofs
def nilS:D:=.lit (.slice none 0 0)
def noW (e:Int):Out:=some (0,[.d (il 0),.d nilS,.d nilS,.d (il 0),.d (il e)])
theorem s63 (n:Nat) (o:Option (List Brd)) (hl:(o.getD []).length≤4):FN (n+1) 63 [dB o]=some (0,[.d (dB o)]):=by
 rw [F63]
 simp only [G63,nilL,r_out,r_litNil,rowsL,r_natN,r_rows,r_len,List.length_nil,r_eqN,if_true,r_addN,Nat.zero_add,List.length_map,r_fitsg,r_app,List.nil_append,r_seg0,r_slD]
 cases o with
 | none=>rfl
 | some l =>
  simp only [Option.getD_some] at hl ⊢
  rw [if_neg (by simp),if_pos (by omega)]
  rw [show l.length=(l.map rB).length by simp,List.take_length]
  rfl
theorem s9 (n:Nat) (me:Int) (o:Option (List Brd)) (hl:(o.getD []).length≤4611686018427387904):FN (n+5) 9 [il me,dB o] =
  if par me=true then (if bords me (o.getD [])=true then some (0,[.d (il me),.d (dB o),.d nilS,.d (il 0),.d (il 0)]) else noW 90) else noW 1:=by
 rw [F9]
 simp only [G9,r_call,s61,s62 _ _ _ hl,r_bnd0,r_ld0,r_not,r_cond,r_out,r_liti,r_litNil,noW]
 by_cases h1:par me=true
 ·by_cases h2:bords me (o.getD [])=true
  ·have h3:(o.getD []).length≤4:=by simp only [bords,Bool.and_eq_true,decide_eq_true_eq] at h2;exact h2.2
   simp only [h1,h2,Bool.not_true,Bool.false_eq_true,if_false,if_true,s63 _ _ h3,r_bnd0,r_ld0];rfl
  ·simp only [h1,h2,Bool.not_true,Bool.not_false,Bool.false_eq_true,if_false,if_true];rfl
 ·simp only [h1,Bool.not_false,Bool.false_eq_true,if_false,if_true];rfl
theorem l66 (n:Nat) (o q:Option (List Stk)) (hl:(o.getD []).length≤4611686018427387904) (he:(o.getD []).length=(q.getD []).length) :
  loopR [L66_0 (RP n)] M0 0 [.d (dS o),.d (dS q),.d (il 0)]=if o.getD []=q.getD [] then some (1,[]) else some (0,[.d (bl false)]):=by
 have:=range_loop (β:=Unit) (o.getD []) hl (L66_0 (RP n)) (fun i _=>[.d (dS o),.d (dS q),.d (il i)]) (fun _ _=>True)
  (fun i r _=>if r=(q.getD []).drop i then some (1,[]) else some (0,[.d (bl false)]))
  (fun _ k _=>by simp [L66_0,lenL,he]) ?_ M0 () trivial (M0_big hl)
 ·simpa using this
 ·intro i e r _ k hi hd hlt hw _ ih
  have ih':=ih () trivial
  rw [cast1] at ih'
  have hlt':(i:Int) < ((o.getD []).length:Int):=by omega
  have hq:(q.getD [])[i]?=some ((q.getD [])[i]'(by omega)):=List.getElem?_eq_getElem (by omega)
  rw [List.drop_eq_getElem_cons (show i < (q.getD []).length by omega)]
  simp only [L66_0,lenL,r_ld0,r_lds,r_lss,r_cond,hlt',decide_true,if_true,rowS hi,rowS hq,cS0,cS1,cS2,cS3,r_eqs4,r_out,r_litb,r_liti,r_add,hw,List.cons.injEq]
  generalize (q.getD [])[i]'(by omega)=d
  by_cases h:e=d
  ·subst h
   simpa using ih'
  ·have h':¬ (e.1=d.1∧e.2.1=d.2.1∧e.2.2.1=d.2.2.1∧e.2.2.2=d.2.2.2):=fun ⟨a,b,c,f⟩=>h (by ext<;>assumption)
   simp [h,h']
theorem s66 (n:Nat) (o q:Option (List Stk)) (hl:(o.getD []).length≤4611686018427387904):FN (n+1) 66 [dS o,dS q]=some (0,[.d (bl (decide (o.getD []=q.getD [])))]):=by
 rw [F66]
 simp only [G66,lenL,r_neq,r_cond,r_out,r_litb,r_loop,r_liti]
 by_cases he:(o.getD []).length=(q.getD []).length
 ·rw [if_neg (by simp;omega),l66 _ _ _ hl he]
  by_cases h:o.getD []=q.getD []<;>simp [h]
 ·have h:o.getD []≠q.getD []:=fun h=>he (by rw [h])
  rw [if_pos (by simp;omega)];simp [h]
theorem l11 (n:Nat) (a0 a2 a3 a4 a6 a7:D) (o q:Option (List Brd)) (hl:(o.getD []).length≤4611686018427387904) (he:(o.getD []).length=(q.getD []).length) :
  loopR [L11_0 (RP n)] M0 0 [.d a0,.d (dB o),.d a2,.d a3,.d a4,.d (dB q),.d a6,.d a7,.d (il 0)]=if o.getD []=q.getD [] then some (1,[.d a0,.d (dB o),.d a2,.d a3,.d a4,.d (dB q),.d a6,.d a7]) else some (0,[.d (bl false)]):=by
 have:=range_loop (β:=Unit) (o.getD []) hl (L11_0 (RP n)) (fun i _=>[.d a0,.d (dB o),.d a2,.d a3,.d a4,.d (dB q),.d a6,.d a7,.d (il i)]) (fun _ _=>True)
  (fun i r _=>if r=(q.getD []).drop i then some (1,[.d a0,.d (dB o),.d a2,.d a3,.d a4,.d (dB q),.d a6,.d a7]) else some (0,[.d (bl false)]))
  (fun _ k _=>by simp [L11_0,lenL,he]) ?_ M0 () trivial (M0_big hl)
 ·simpa using this
 ·intro i e r _ k hi hd hlt hw _ ih
  have ih':=ih () trivial
  rw [cast1] at ih'
  have hlt':(i:Int) < ((o.getD []).length:Int):=by omega
  have hq:(q.getD [])[i]?=some ((q.getD [])[i]'(by omega)):=List.getElem?_eq_getElem (by omega)
  rw [List.drop_eq_getElem_cons (show i < (q.getD []).length by omega)]
  simp only [L11_0,lenL,r_ld0,r_lds,r_lss,r_cond,hlt',decide_true,if_true,rowB hi,rowB hq,cB0,cB1,r_eqs2,r_out,r_litb,r_liti,r_add,hw,List.cons.injEq]
  generalize (q.getD [])[i]'(by omega)=d
  by_cases h:e=d
  ·subst h
   simpa using ih'
  ·have h':¬ (e.1=d.1∧e.2=d.2):=fun ⟨a,b⟩=>h (by ext<;>assumption)
   simp [h,h']
theorem s11 (n:Nat) (a b h k:Int) (o q:Option (List Brd)) (s t:Option (List Stk)) (hl:(o.getD []).length≤4611686018427387904) (hs:(s.getD []).length≤4611686018427387904) :
  FN (n+2) 11 [il a,dB o,dS s,il h,il b,dB q,dS t,il k]=some (0,[.d (bl (decide (a=b∧h=k∧o.getD []=q.getD []∧s.getD []=t.getD [])))]):=by
 rw [F11]
 simp only [G11,r_neq,r_cond,lenL,r_out,r_litb,r_loop,r_liti]
 by_cases h1:a=b
 ·by_cases h2:h=k
  ·by_cases he:(o.getD []).length=(q.getD []).length
   ·simp only [h1,h2,ne_eq,not_true,decide_false,Bool.false_eq_true,if_false,true_and]
    rw [if_neg (by simp;omega),l11 _ _ _ _ _ _ _ _ _ hl he]
    by_cases h3:o.getD []=q.getD []
    ·simp only [h3,if_true,r_bnd1,r_lds,r_ld0,r_call,s66 _ _ _ hs,r_bnd0,true_and]
    ·simp [h3]
   ·have h3:o.getD []≠q.getD []:=fun h=>he (by rw [h])
    simp only [h1,h2,ne_eq,not_true,decide_false,Bool.false_eq_true,if_false,true_and]
    rw [if_pos (by simp;omega)];simp [h3]
  ·simp [h1,h2]
 ·simp [h1]
end Go.VE
namespace Go.VE
open Go.RowKit Go.Proofs
noncomputable abbrev FD (n:Nat):D→List Sh→List D→Out:=FnDof Tryd.prog (cf3 tb Tryd.prog) (FN n)
theorem FnDof_fn {P:Program} {cfg:Cf3} {Fn:Nat→List D→Out} {f:Nat} {caps:List D} {sh:List Sh} {ds:List D} {vs:List VD} (h3:f < 2000000) (hv:vdsOf sh ds=some vs):FnDof P cfg Fn (.fn f caps) sh ds=FnV cfg Fn f (vs++caps.map .one):=by
 simp only [FnDof,hv,if_pos h3]
theorem FD_gen {T:Tb3} {P:Program} {Fn:Nat→List D→Out} {f:Nat} {caps:List D} {sh sh':List Sh} {ds:List D} {vs:List VD} {xs:List D} {z:D} (hlt:f < 1000000) (hv:vdsOf sh ds=some vs) (hash:T.ash f=some sh') (hx:flatV sh' (vs++caps.map .one)=some xs)
  (hr:T.rsk f=[[(false,[.d])]]) (hf:Fn f xs=some (0,[.d z])):FnDof P (cf3 T P) Fn (.fn f caps) sh ds=some (0,[.d z]):=by
 have h1:(cf3 T P).ash f=some sh':=by simp only [cf3,if_pos hlt,hash]
 have h2:isOneD ((cf3 T P).rsk f)=true:=by simp only [cf3,hr];rfl
 have h3:f < 2000000:=Nat.lt_of_lt_of_le hlt (by decide)
 rw [FnDof_fn h3 hv]
 simp only [FnV,h1,hx,h2,if_true,hf]
theorem FD_fn {n f:Nat} {caps:List D} {sh:List Sh} (sh':List Sh) {ds:List D} (vs:List VD) {xs:List D} {z:D} (hlt:f < 1000000) (hv:vdsOf sh ds=some vs) (hash:tb.ash f=some sh') (hx:flatV sh' (vs++caps.map .one)=some xs)
  (hr:tb.rsk f=[[(false,[.d])]]) (hf:FN n f xs=some (0,[.d z])):FD n (.fn f caps) sh ds=some (0,[.d z]):=FD_gen hlt hv hash hx hr hf
theorem s113 (n:Nat) (a b c:Int):FN (n+1) 113 [il a,il b,il c]=some (0,[.d (bl (decide (a=c)))]):=by rw [F113];simp [G113]
theorem d113 (n:Nat) (a b c:Int):FD (n+1) (.fn 113 [.dp [il c] 0]) [.agg 2] [il a,il b]=some (0,[.d (bl (decide (a=c)))]) :=
 FD_fn [.agg 2,.ptr 1] [.agg [il a,il b]] (by decide) rfl (by kernel_rfl) rfl (by kernel_rfl) (s113 n a b c)
def ixI (f:Int) (l:List Brd):Int:=match bix f l with
 | some i=>(i:Int)
 | none=>-1
def ixR (f:Int) (i:Nat) (r:List Brd):Out:=match bix f r with
 | some j=>some (0,[.d (il ((i+j:Nat):Int))])
 | none=>some (1,[])
theorem ixR_zero (f:Int) (l:List Brd) (k:List Yr→Out) (k':List Yr→Out) {Fn:Nat→List D→Out} {FnD:D→List Sh→List D→Out} {m:Nat} (h1:∀ z,k [.d z]=some (0,[.d z])) (h2:k' []=some (0,[.d (il (-1))])) :
  (real Fn FnD m).bnd (ixR f 0 l) [k,k']=some (0,[.d (il (ixI f l))]):=by
 unfold ixR ixI
 cases bix f l with
 | none=>simp [h2]
 | some j=>simp [h1]
theorem ixR_cons (f:Int) (i:Nat) (e:Brd) (r:List Brd):ixR f i (e::r)=if e.1=f then some (0,[.d (il i)]) else ixR f (i+1) r:=by
 unfold ixR
 rw [bix]
 by_cases h:e.1=f
 ·simp [h]
 ·rw [if_neg h,if_neg h]
  cases bix f r with
  | none=>rfl
  | some j=>simp only [Option.map_some];congr 5;omega
theorem s112 (n:Nat) (o:Option (List Brd)) (hl:(o.getD []).length≤4611686018427387904) (f:Int):FN (n+2) 112 [dB o,.fn 113 [.dp [il f] 0]]=some (0,[.d (il (ixI f (o.getD [])))]):=by
 rw [F112]
 simp only [G112,lenL,r_liti,r_loop]
 have:=range_loop (β:=Unit) (o.getD []) hl (L112_0 (RP (n+1))) (fun i _=>[.d (dB o),.d (.fn 113 [.dp [il f] 0]),.d (il (o.getD []).length),.d (il i)]) (fun _ _=>True)
  (fun i r _=>ixR f i r)
  (fun _ k _=>by simp [L112_0,ixR,bix]) ?_ M0 () trivial (M0_big hl)
 ·simp only [Int.natCast_zero] at this
  rw [this]
  exact ixR_zero _ _ _ _ (fun _=>rfl) rfl
 ·intro i e r _ k hi hd hlt hw _ ih
  have ih':=ih () trivial
  rw [cast1] at ih'
  have hlt':(i:Int) < ((o.getD []).length:Int):=by omega
  rw [ixR_cons,← ih']
  simp only [L112_0,r_ld0,r_lds,r_lss,r_cond,hlt',decide_true,if_true,rowB hi,cB0,cB1,r_callD,d113,r_bnd0,r_out,r_liti,r_add,hw,decide_eq_true_eq]
theorem s74 (n:Nat) (o:Option (List Brd)) (hl:(o.getD []).length≤4611686018427387904) (f:Int):FN (n+1) 74 [dB o,il f]=some (0,[.d (il (ixI f (o.getD [])))]):=by
 rw [F74]
 simp only [G74,r_liti,r_loop]
 have:=range_loop (β:=Unit) (o.getD []) hl (L74_0 (RP n)) (fun i _=>[.d (dB o),.d (il f),.d (il i)]) (fun _ _=>True)
  (fun i r _=>ixR f i r)
  (fun _ k _=>by simp [L74_0,ixR,bix,lenL]) ?_ M0 () trivial (M0_big hl)
 ·simp only [Int.natCast_zero] at this
  rw [this]
  exact ixR_zero _ _ _ _ (fun _=>rfl) rfl
 ·intro i e r _ k hi hd hlt hw _ ih
  have ih':=ih () trivial
  rw [cast1] at ih'
  have hlt':(i:Int) < ((o.getD []).length:Int):=by omega
  rw [ixR_cons,← ih']
  simp only [L74_0,lenL,r_ld0,r_lds,r_lss,r_cond,hlt',decide_true,if_true,rowB hi,cB0,r_eql,r_out,r_liti,r_add,hw,decide_eq_true_eq]
theorem ixI_neg {f:Int} {l:List Brd}:ixI f l < 0↔bix f l=none:=by
 unfold ixI
 cases h:bix f l with
 | none=>simp
 | some i=>simp
theorem s107 (n:Nat) (s:Stk):FN (n+3) 107 [il s.1,il s.2.1,il s.2.2.1,il s.2.2.2]=some (0,[.d (bl (okS s))]):=by
 rw [F107]
 simp only [G107,r_call,s67,r_bnd0,r_ld0,r_liti,r_litb,r_not,r_cond,r_eql,r_out,okS,decide_eq_true_eq]
 by_cases h0:inn s.2.1 1 99=true
 ·by_cases h1:s.1=1
  ·by_cases h:par s.2.2.1=true<;>simp [h0,h1,h,s61,s68]
  ·by_cases h3:s.1=3
   ·by_cases h:par s.2.2.1=true<;>simp [h0,h3,h,s61,s68]
   ·by_cases h2:s.1=2
    ·by_cases h:s.2.2.1=0<;>simp [h0,h2,h,s61,s68]
    ·by_cases h4:s.1=4
     ·by_cases h:s.2.2.1=0<;>simp [h0,h4,h,s61,s68]
     ·simp [h0,h1,h2,h3,h4]
 ·simp [h0]
theorem s73 (n:Nat) (s:Stk):FN (n+3) 73 [il s.1,il s.2.1,il s.2.2.1,il s.2.2.2]=some (0,[.d (bl (okS s))]):=by
 rw [F73]
 simp only [G73,r_call,s70,r_bnd0,r_ld0,r_liti,r_litb,r_not,r_cond,r_eql,r_out,okS,decide_eq_true_eq]
 by_cases h0:inn s.2.1 1 99=true
 ·by_cases h1:s.1=1
  ·by_cases h:par s.2.2.1=true<;>simp [h0,h1,h,s64,s70]
  ·by_cases h3:s.1=3
   ·by_cases h:par s.2.2.1=true<;>simp [h0,h3,h,s64,s70]
   ·by_cases h2:s.1=2
    ·by_cases h:s.2.2.1=0<;>simp [h0,h2,h,s64,s70]
    ·by_cases h4:s.1=4
     ·by_cases h:s.2.2.1=0<;>simp [h0,h4,h,s64,s70]
     ·simp [h0,h1,h2,h3,h4]
 ·simp [h0]
theorem tmod2 (z:Int):decide (z.tmod 2=0)=decide (z % 2=0):=by
 congr 1
 rw [←Int.dvd_iff_tmod_eq_zero,Int.dvd_iff_emod_eq_zero]
theorem s86 (n:Nat) (me o no:Int):FN (n+1) 86 [il me,il o,il no]=some (0,[.d (bl (isWith me o no))]):=by
 rw [F86]
 simp only [G86,r_lss,r_liti,r_rem _ _ _ _ (show (2:Int)≠0 by decide),r_eql,tmod2,r_eqlB,r_out,isWith]
end Go.VE
namespace Go.VE
open Go.RowKit Go.Proofs
def wan (me:Int) (f:Fld) (o:Nat):Int:=if (o:Int)=me then f.wants else f.ask o
def r21 (b:Brd) (me:Int) (f:Fld):List D:=[il b.1,il b.2,il (f.no 0),il (f.no 1),il (f.no 2),il (f.no 3),il (f.no 4),il (f.no 5),bl (f.af 0),bl (f.af 1),bl (f.af 2),bl (f.af 3),bl (f.af 4),bl (f.af 5),il (wan me f 0),il (wan me f 1),il (wan me f 2),il (wan me f 3),il (wan me f 4),il (wan me f 5),bl f.opn]
def z21:List D:=[il 0,il 0,il 0,il 0,il 0,il 0,il 0,il 0,bl false,bl false,bl false,bl false,bl false,bl false,il 0,il 0,il 0,il 0,il 0,il 0,bl false]
theorem r21_0 (b:Brd) (me:Int):r21 b me fd0=il b.1::il b.2::z21.drop 2:=by
 simp [r21,z21,fd0,wan]
section
variable {Fn:Nat→List D→Out} {FnD:D→List Sh→List D→Out} {m:Nat}
theorem r_selIg (n:Nat) (z:Int) (ks:List Out):(real Fn FnD m).selI n (il z) ks=if 0≤z∧z < n then selR ks z.toNat else none:=rfl
theorem r_selN (i:Nat) (ds:List D):(real Fn FnD m).selN i ds=ds.getD i default:=rfl
theorem r_updN (i q:Nat) (a b:D):(real Fn FnD m).updN i q a b=if i=q then a else b:=rfl
theorem r_inx6 {z:Int} (h:par z=true) (k:Nat→Out):(real Fn FnD m).inx (il z) 6 k=k z.toNat:=by
 have:=par_iff.1 h
 rw [r_inxg,if_pos (by omega)]
theorem par_lt {z:Int} (h:par z=true):z.toNat < 6:=by have:=par_iff.1 h;omega
theorem r_le6 {i:Nat} (h:i < 6) (k:Out):(real Fn FnD m).leN (i+1) 6 k=k:=by rw [r_leN,if_pos (by omega)]
end
theorem sel6 (g:Nat→Int) {i:Nat} (h:i < 6):[il (g 0),il (g 1),il (g 2),il (g 3),il (g 4),il (g 5)].getD i default=il (g i):=by
 match i,h with
 | 0,_=>rfl
 | 1,_=>rfl
 | 2,_=>rfl
 | 3,_=>rfl
 | 4,_=>rfl
 | 5,_=>rfl
theorem ite_il (c:Prop) [Decidable c] (a b:Int):(if c then il a else il b)=il (if c then a else b):=by split<;>rfl
theorem ite_bl (c:Prop) [Decidable c] (a b:Bool):(if c then bl a else bl b)=bl (if c then a else b):=by split<;>rfl
theorem wan_w {me:Int} (h:par me=true) (f:Fld) (x:Int) (g:Nat→Bool) (q:Nat):(if me.toNat=q then il x else il (wan me f q))=il (wan me { f with wants:=x,af:=g } q):=by
 have:=par_iff.1 h
 unfold wan
 by_cases h1:(q:Int)=me
 ·rw [if_pos (by omega),if_pos h1]
 ·rw [if_neg (by omega),if_neg h1,if_neg h1]
theorem wan_a {me o:Int} (h:par me=true) (ho:par o=true) (hne:o≠me) (f:Fld) (x:Int) (q:Nat):(if o.toNat=q then il x else il (wan me f q))=il (wan me { f with ask:=upN f.ask o.toNat x } q):=by
 have:=par_iff.1 h
 have:=par_iff.1 ho
 unfold wan upN
 by_cases h1:(q:Int)=me
 ·rw [if_neg (by omega),if_pos h1,if_pos h1]
 ·rw [if_neg h1,if_neg h1]
  by_cases h2:o.toNat=q<;>simp [h2]
theorem wan_me {me:Int} (h:par me=true) (f:Fld):wan me f me.toNat=f.wants:=by
 have:=par_iff.1 h
 unfold wan;rw [if_pos (by omega)]
theorem wan_ne {me o:Int} (h:par o=true) (hne:o≠me) (f:Fld):wan me f o.toNat=f.ask o.toNat:=by
 have:=par_iff.1 h
 unfold wan;rw [if_neg (by omega)]
theorem beq_comm2 (a b:Bool):(a==b)=(b==a):=by cases a<;>cases b<;>rfl
theorem s88 (n:Nat) (b:Brd) (me:Int) (f:Fld) {o:Nat} (ho:o < 6):FN (n+1) 88 (r21 b me f++[il me,il o])=some (0,[.d (bl (isWith me o (f.no o)))]):=by
 simp only [r21,List.cons_append,List.nil_append]
 rw [F88]
 simp only [G88,r_selIg]
 rw [if_pos (by omega)]
 match o,ho with
 | 0,_=>simp only [Int.toNat_natCast,selR,List.getElem?_cons_zero,r_rem _ _ _ _ (show (2:Int)≠0 by decide),r_liti,r_eql,tmod2,r_lss,r_eqlB,r_out,isWith,beq_comm2]
 | 1,_=>simp only [Int.toNat_natCast,selR,List.getElem?_cons_zero,List.getElem?_cons_succ,r_rem _ _ _ _ (show (2:Int)≠0 by decide),r_liti,r_eql,tmod2,r_lss,r_eqlB,r_out,isWith,beq_comm2]
 | 2,_=>simp only [Int.toNat_natCast,selR,List.getElem?_cons_zero,List.getElem?_cons_succ,r_rem _ _ _ _ (show (2:Int)≠0 by decide),r_liti,r_eql,tmod2,r_lss,r_eqlB,r_out,isWith,beq_comm2]
 | 3,_=>simp only [Int.toNat_natCast,selR,List.getElem?_cons_zero,List.getElem?_cons_succ,r_rem _ _ _ _ (show (2:Int)≠0 by decide),r_liti,r_eql,tmod2,r_lss,r_eqlB,r_out,isWith,beq_comm2]
 | 4,_=>simp only [Int.toNat_natCast,selR,List.getElem?_cons_zero,List.getElem?_cons_succ,r_rem _ _ _ _ (show (2:Int)≠0 by decide),r_liti,r_eql,tmod2,r_lss,r_eqlB,r_out,isWith,beq_comm2]
 | 5,_=>simp only [Int.toNat_natCast,selR,List.getElem?_cons_zero,List.getElem?_cons_succ,r_rem _ _ _ _ (show (2:Int)≠0 by decide),r_liti,r_eql,tmod2,r_lss,r_eqlB,r_out,isWith,beq_comm2]
def missF (me P:Int) (f:Fld) (i:Nat):List Nat:=((rg i).filter fun (o:Nat)=>!decide ((o:Int)=me)&&P.toNat.testBit o).filter fun (o:Nat)=>!isWith me o (f.no o)
theorem missF_six (me P:Int) (f:Fld):missF me P f 6=[]:=rfl
theorem missF_succ {me P:Int} {f:Fld} {i:Nat} (h:i < 6):missF me P f i=if (!decide ((i:Int)=me)&&P.toNat.testBit i&&!isWith me i (f.no i))=true then i::missF me P f (i+1) else missF me P f (i+1):=by
 unfold missF
 rw [rg_succ h,List.filter_cons]
 cases h1:(!decide ((i:Int)=me)&&P.toNat.testBit i) with
 | false=>simp
 | true=>simp only [if_true,List.filter_cons,Bool.true_and]
theorem l84 (n:Nat) (b:Brd) (hb:six b.2) (me:Int) (f:Fld):loopR [L84_0 (RP (n+3))] M0 0 (.d (il me)::((r21 b me f).map .d++[.d (il 0)]))=if (missL me b.2 f).isEmpty=true then some (0,[]) else some (1,[.d (bl false)]):=by
 have:=cnt_loop (β:=Unit) 6 (by omega) (L84_0 (RP (n+3))) (fun i _=>.d (il me)::((r21 b me f).map .d++[.d (il i)])) (fun _ _=>True) (fun i _=>if (missF me b.2 f i).isEmpty=true then some (0,[]) else some (1,[.d (bl false)])) ?_ ?_ () trivial
 ·exact this
 ·intro _ k _
  simp [L84_0,r21,missF_six]
 ·intro i _ k hi _ hw ih
  have ih':=ih () trivial
  rw [cast1] at ih'
  have h88:=s88 (n+2) b me f hi
  rw [missF_succ hi]
  simp only [r21,List.cons_append,List.nil_append,List.map_cons,List.map_nil] at ih' h88 ⊢
  simp only [L84_0,r_ld0,r_lds,r_liti,r_lss,r_cond,show ((i:Int) < 6) by omega,decide_true,if_true,r_neq,r_call,s71 _ _ hb,h88,r_bnd0,hasP_nat hi,r_add,hw,r_not,r_out,r_litb]
  by_cases h1:(i:Int)=me
  ·simp only [h1,ne_eq,not_true,decide_false,decide_true,Bool.false_eq_true,if_false,Bool.not_true,Bool.false_and]
   rw [←h1]
   rw [←h1] at ih'
   exact ih'
  ·cases h2:b.2.toNat.testBit i with
   | false =>
    simp only [h1,ne_eq,not_false_eq_true,decide_true,if_true,Bool.false_eq_true,if_false,Bool.and_false,Bool.false_and]
    exact ih'
   | true =>
    cases h3:isWith me i (f.no i) with
    | true =>
     simp only [h1,ne_eq,not_false_eq_true,decide_true,if_true,Bool.false_eq_true,if_false,Bool.and_false,Bool.not_true]
     exact ih'
    | false=>simp [h1]
theorem s84 (n:Nat) (b:Brd) (hb:six b.2) (me:Int) (f:Fld):FN (n+4) 84 (r21 b me f++[il me])=some (0,[.d (bl (missL me b.2 f).isEmpty)]):=by
 have h:=l84 n b hb me f
 simp only [r21,List.cons_append,List.nil_append,List.map_cons,List.map_nil] at h ⊢
 rw [F84]
 simp only [G84,r_liti,r_loop,h]
 cases (missL me b.2 f).isEmpty<;>simp
theorem l104 (n:Nat) (b:Brd) (me:Int) (f:Fld):loopR [L104_0 (RP n)] M0 0 (.d (il 0)::(z21++r21 b me f).map .d)=some (0,(z21++r21 b me { f with af:=fun _=>false }).map .d):=by
 have:=cnt_loop (β:=Nat→Bool) 6 (by omega) (L104_0 (RP n)) (fun i g=>.d (il i)::(z21++r21 b me { f with af:=g }).map .d) (fun _ _=>True) (fun i g=>some (0,(z21++r21 b me { f with af:=fun q=>if i≤q then false else g q }).map .d)) ?_ ?_ f.af trivial
 ·simpa using this
 ·intro g k _
  simp [L104_0,r21,z21,wan]
 ·intro i g k hi _ hw ih
  have ih':=ih (upN g i false) trivial
  rw [cast1] at ih'
  have e:(fun q=>if i+1≤q then false else upN g i false q)=fun q=>if i≤q then false else g q:=by
   funext q
   unfold upN
   by_cases h1:i=q
   ·subst h1;simp
   ·by_cases h2:i≤q
    ·rw [if_pos (by omega),if_pos h2]
    ·rw [if_neg (by omega),if_neg h1,if_neg h2]
  rw [e] at ih'
  rw [←ih']
  simp only [r21,z21,List.cons_append,List.nil_append,List.map_cons,List.map_nil]
  simp only [L104_0,r_ld0,r_lds,r_liti,r_litb,r_lss,r_cond,show ((i:Int) < 6) by omega,decide_true,if_true,r_natN,r_inxg,r_addN,r_add,hw,r_updN]
  rw [if_pos (by omega),Int.toNat_natCast,r_le6 hi]
  simp only [ite_bl]
  rfl
def stepR (b:Brd) (me:Int) (f:Fld) (s:Stk):List D:=match fstep me b.2 f s with
 | some g=>r21 b me g++[bl true]
 | none=>r21 b me f++[bl false]
theorem okS_kind {s:Stk} (h:okS s=true):(s.1=1∧par s.2.2.1=true)∨s.1=2∨(s.1=3∧par s.2.2.1=true)∨s.1=4:=by
 simp only [okS,Bool.and_eq_true] at h
 obtain ⟨-,h⟩:=h
 by_cases h1:s.1=1
 ·rw [if_pos (.inl h1)] at h
  simp only [Bool.and_eq_true] at h
  exact .inl ⟨h1,h.1⟩
 ·by_cases h3:s.1=3
  ·rw [if_pos (.inr h3)] at h
   simp only [Bool.and_eq_true] at h
   exact .inr (.inr (.inl ⟨h3,h.1⟩))
  ·rw [if_neg (by omega)] at h
   by_cases h2:s.1=2
   ·exact .inr (.inl h2)
   ·by_cases h4:s.1=4
    ·exact .inr (.inr (.inr h4))
    ·rw [if_neg h2,if_neg h4] at h;cases h
theorem hasP_par {P o:Int} (h:hasP P o=true):par o=true:=by
 simp only [hasP,Bool.and_eq_true] at h;exact h.1
theorem s104 (n:Nat) (b:Brd) (hb:six b.2) {me:Int} (hm:par me=true) (f:Fld) {s:Stk} (hs:okS s=true) :
  FN (n+5) 104 (r21 b me f++[il me,il s.1,il s.2.1,il s.2.2.1,il s.2.2.2])=some (0,(stepR b me f s).map .d):=by
 have h84:=s84 n b hb me f
 have h104:=l104 (n+4) b me
 unfold stepR fstep
 rcases okS_kind hs with ⟨h1,ho⟩ | h1 | ⟨h1,ho⟩ | h1
 ·simp only [h1,if_true]
  simp only [r21,List.cons_append,List.nil_append]
  rw [F104]
  simp only [G104,r_liti,r_litb,r_eql,r_cond,decide_true,if_true,r_out,r_call,s71 _ _ hb,r_bnd0,r_ld0,r_not,r_natN,r_inx6 ho,r_addN,r_le6 (par_lt ho),r_selN,sel6 _ (par_lt ho),r_leq,r_updN,ite_il,ite_bl,decide_eq_true_eq]
  by_cases h2:s.2.2.1=me
  ·simp [h2]
  ·by_cases h3:hasP b.2 s.2.2.1=true
   ·by_cases h4:s.2.2.2≤f.no s.2.2.1.toNat
    ·simp [h2,h3,h4]
    ·by_cases h5:f.opn=true
     ·simp [h2,h3,h4,h5]
     ·simp [h2,h3,h4,h5,upN,wan]
   ·simp [h2,h3]
 ·simp only [h1,show ¬ ((2:Int)=1) by decide,if_false,if_true]
  have h104':=h104 { f with wants:=s.2.2.2 }
  simp only [r21,z21,List.cons_append,List.nil_append,List.map_cons,List.map_nil] at h104' ⊢
  rw [F104]
  simp only [G104,r_liti,r_litb,r_eql,r_cond,show ¬ ((2:Int)=1) by decide,decide_true,decide_false,Bool.false_eq_true,if_false,if_true,r_out,r_natN,r_inx6 hm,r_addN,r_le6 (par_lt hm),r_selN,sel6 _ (par_lt hm),r_leq,r_updN,wan_w hm f s.2.2.2 f.af,r_loop,wan_me hm,decide_eq_true_eq]
  by_cases h2:s.2.2.2≤f.wants
  ·simp [h2]
  ·simp only [h2,if_false,h104']
   simp [wan]
 ·simp only [h1,show ¬ ((3:Int)=1) by decide,show ¬ ((3:Int)=2) by decide,if_false,if_true]
  simp only [r21,List.cons_append,List.nil_append]
  rw [F104]
  simp only [G104,r_liti,r_litb,r_eql,r_cond,show ¬ ((3:Int)=1) by decide,show ¬ ((3:Int)=2) by decide,decide_true,decide_false,Bool.false_eq_true,if_false,if_true,r_out,r_call,s71 _ _ hb,r_bnd0,r_ld0,r_not,r_natN,r_inx6 ho,r_addN,r_le6 (par_lt ho),r_selN,sel6 _ (par_lt ho),r_leq,r_updN,decide_eq_true_eq]
  by_cases h2:s.2.2.1=me
  ·simp [h2]
  ·by_cases h3:hasP b.2 s.2.2.1=true
   ·rw [wan_ne ho h2]
    by_cases h4:s.2.2.2≤f.ask s.2.2.1.toNat
    ·simp [h2,h3,h4]
    ·simp only [h2,h3,h4,wan_a hm ho h2]
     simp
   ·simp [h2,h3]
 ·simp only [h1,show ¬ ((4:Int)=1) by decide,show ¬ ((4:Int)=2) by decide,show ¬ ((4:Int)=3) by decide,if_false]
  simp only [r21,List.cons_append,List.nil_append] at h84 ⊢
  rw [F104]
  simp only [G104,r_liti,r_litb,r_eql,r_cond,show ¬ ((4:Int)=1) by decide,show ¬ ((4:Int)=2) by decide,show ¬ ((4:Int)=3) by decide,decide_true,decide_false,Bool.false_eq_true,if_false,if_true,r_out,r_call,h84,r_bnd0,r_ld0,r_not,r_eqlB,beq_comm2 _ f.opn]
  by_cases h2:s.2.2.2=1
  ·by_cases h3:f.opn=true
   ·simp [h2,h3]
   ·cases h4:(missL me b.2 f).isEmpty<;>simp [h2,h3,wan]
  ·by_cases h3:f.opn=true
   ·simp [h2,h3,wan]
   ·simp [h2,h3]
end Go.VE
