/- Family: entries and Counting: lists that are collected from lists. -/
import Derived.Test.YtobeabinccohlaaGreatMg0
namespace Go.VE
open Go.RowKit Go.Proofs
def qav (e0:List Yr) (e1:Rr→List Yr):Rr→Out
 | []=>some (0,e0)
 | w::ws=>some (1,e1 (w::ws))
theorem q5k {α:Type} (l:List α) (hl:l.length≤4611686018427387904) (g:α→Option (List D)) (b0 b1:(Nat→List Yr→Out)→List Yr→Out) (z:Nat→List Yr) (nz:Nat→Rr→List Yr) (e0:List Yr) (e1:Rr→List Yr)
  (h0e:∀ k,b0 k (z l.length)=some (0,e0)) (h1e:∀ rs k,b1 k (nz l.length rs)=some (1,e1 rs))
  (h0:∀ (i:Nat) c (k:Nat→List Yr→Out),l[i]?=some c→(i:Int) < (l.length:Int)→IntKind.i64.wrap ((i:Int)+1)=((i+1:Nat):Int)→b0 k (z i)=match g c with
   | none=>k 0 (z (i+1))
   | some w=>k 1 (nz (i+1) [w]))
  (h1:∀ (i:Nat) c (rs:Rr) (k:Nat→List Yr→Out),l[i]?=some c→(i:Int) < (l.length:Int)→IntKind.i64.wrap ((i:Int)+1)=((i+1:Nat):Int)→rs.length≤i→b1 k (nz i rs)=match g c with
   | none=>k 1 (nz (i+1) rs)
   | some w=>k 1 (nz (i+1) (rs++[w]))) :
  q0p [b0,b1] M0 0 (z 0)=qav e0 e1 (l.filterMap g):=by
 have:=q2A (σ:=Nat) [b0,b1] (fun i=>match (l.take i).filterMap g with
   | []=>(0,z i)
   | w::ws=>(1,nz i (w::ws))) (fun i=>l.length - i) (fun i=>i≤l.length) (fun _=>qav e0 e1 (l.filterMap g)) ?_ M0 0 (Nat.zero_le _) (by have:=q2J hl;unfold M0;omega)
 ·simpa using this
 ·intro i k hi ih
  by_cases h:i < l.length
  ·have hc:l[i]?=some l[i]:=List.getElem?_eq_getElem h
   have ht:l.take (i+1)=l.take i++[l[i]]:=by rw [List.take_add_one,hc];rfl
   have hlt:(i:Int) < (l.length:Int):=by omega
   have hw:IntKind.i64.wrap ((i:Int)+1)=((i+1:Nat):Int):=by rw [q0l (by omega) (by omega)];simp
   have ih':=ih (i+1) (by omega) (by omega)
   simp only [ht,List.filterMap_append,List.filterMap_cons,List.filterMap_nil] at ih'
   have hlen:((l.take i).filterMap g).length≤i:=Nat.le_trans (List.length_filterMap_le _ _) (by simp;omega)
   revert ih' hlen
   cases (l.take i).filterMap g with
   | nil =>
    intro ih' _
    refine ⟨b0,rfl,?_⟩
    simp only
    rw [h0 i _ k hc hlt hw]
    cases hg:g l[i] with
    | none=>rw [hg] at ih';simpa using ih'
    | some w=>rw [hg] at ih';simpa using ih'
   | cons w ws =>
    intro ih' hlen
    refine ⟨b1,rfl,?_⟩
    simp only
    rw [h1 i _ (w::ws) k hc hlt hw hlen]
    cases hg:g l[i] with
    | none=>rw [hg] at ih';simpa using ih'
    | some w'=>rw [hg] at ih';simpa using ih'
  ·have hil:i=l.length:=by omega
   subst hil
   simp only [List.take_length]
   cases l.filterMap g with
   | nil=>exact ⟨b0,rfl,h0e k⟩
   | cons w ws=>exact ⟨b1,rfl,h1e _ k⟩
section
variable {Fn:Nat→List D→Out} {FnD:D→List Sh→List D→Out} {m:Nat}
theorem q8e (t:Nat) (g:Bool) (l:List D):(q04 Fn FnD m).ifD t g l=.ifc t g l:=rfl
end
attribute [simp] q8e
def nzO {α:Type}:List α→Option (List α)
 | []=>none
 | x::xs=>some (x::xs)
theorem qbv {α:Type} (l:List α):(nzO l).getD []=l:=by cases l<;>rfl
set_option maxRecDepth 10000 in
theorem l105_0 (n:Nat) (o:Option (List E9)) (hl:(o.getD []).length*72≤140737488351232) (x1 x2 x3:D):q0p [qcf (RP (n)),qce (RP (n))] M0 0 [.d (d9 o),.d x1,.d x2,.d x3,.d (d9 o),.d (il (o.getD []).length),.d (il 0)] =
  qav [.d (d9 o),.d x1,.d x2,.d x3] (fun rs=>[.d (d9 o),.d x1,.d x2,.d x3,.r rs,.n rs.length,.n rs.length]) ((o.getD []).filterMap (fun e=>some [.ifc 200 true (r9 e)])):=by
 refine q5k (o.getD []) (by omega) (fun e=>some [.ifc 200 true (r9 e)]) _ _ (fun i=>[.d (d9 o),.d x1,.d x2,.d x3,.d (d9 o),.d (il (o.getD []).length),.d (il (i:Nat))]) (fun i rs=>[.d (d9 o),.d x1,.d x2,.d x3,.d (d9 o),.d (il (o.getD []).length),.d (il (i:Nat)),.r rs,.n rs.length,.n rs.length]) [.d (d9 o),.d x1,.d x2,.d x3] (fun rs=>[.d (d9 o),.d x1,.d x2,.d x3,.r rs,.n rs.length,.n rs.length]) ?_ ?_ ?_ ?_
 ·intro q;simp [qcf]
 ·intro rs q;simp [qce]
 ·intro i c q hi hlt hw
  simp only [qcf,q03,q08,q0n,q00,hlt,decide_true,if_true,q5t hi,q1i,q0Q,q0K,q0T,q0M,List.length_cons,List.length_nil,List.take_succ_cons,List.take_zero,q1O,q19,q05,q0o,hw,q8e]
  rw [if_pos (by simp [])]
  rfl
 ·intro i c rs q hi hlt hw hrs
  simp only [qce,q03,q08,q0P,q0O,q0F,q0V,q0n,q00,hlt,decide_true,if_true,q5t hi,q1i,q0Q,q0K,q0T,q0M,List.length_cons,List.length_nil,List.take_succ_cons,List.take_zero,q19,q05,q0o,hw,q8e,q1Q,q3V,List.length_append]
  rw [if_pos (by simp [];omega)]
  rfl
set_option maxRecDepth 10000 in
theorem l105_1 (n:Nat) (o:Option (List E9)) (hl:(o.getD []).length*72≤140737488351232) (x0 x2 x3 p0:D):q0p [qcd (RP (n)),qcc (RP (n))] M0 0 [.d x0,.d (d9 o),.d x2,.d x3,.d (d9 o),.d (il (o.getD []).length),.d (il 0),.d p0] =
  qav [.d x0,.d (d9 o),.d x2,.d x3,.d p0] (fun rs=>[.d x0,.d (d9 o),.d x2,.d x3,.r rs,.d p0,.n rs.length,.n rs.length]) ((o.getD []).filterMap (fun e=>some [.ifc 201 true (r9 e)])):=by
 refine q5k (o.getD []) (by omega) (fun e=>some [.ifc 201 true (r9 e)]) _ _ (fun i=>[.d x0,.d (d9 o),.d x2,.d x3,.d (d9 o),.d (il (o.getD []).length),.d (il (i:Nat)),.d p0]) (fun i rs=>[.d x0,.d (d9 o),.d x2,.d x3,.d (d9 o),.d (il (o.getD []).length),.d (il (i:Nat)),.r rs,.d p0,.n rs.length,.n rs.length]) [.d x0,.d (d9 o),.d x2,.d x3,.d p0] (fun rs=>[.d x0,.d (d9 o),.d x2,.d x3,.r rs,.d p0,.n rs.length,.n rs.length]) ?_ ?_ ?_ ?_
 ·intro q;simp [qcd]
 ·intro rs q;simp [qcc]
 ·intro i c q hi hlt hw
  simp only [qcd,q03,q08,q0n,q00,hlt,decide_true,if_true,q5t hi,q1i,q0Q,q0K,q0T,q0M,List.length_cons,List.length_nil,List.take_succ_cons,List.take_zero,q1O,q19,q05,q0o,hw,q8e]
  rw [if_pos (by simp [])]
  rfl
 ·intro i c rs q hi hlt hw hrs
  simp only [qcc,q03,q08,q0P,q0O,q0F,q0V,q0n,q00,hlt,decide_true,if_true,q5t hi,q1i,q0Q,q0K,q0T,q0M,List.length_cons,List.length_nil,List.take_succ_cons,List.take_zero,q19,q05,q0o,hw,q8e,q1Q,q3V,List.length_append]
  rw [if_pos (by simp [];omega)]
  rfl
set_option maxRecDepth 10000 in
theorem l105_2 (n:Nat) (o:Option (List E9)) (hl:(o.getD []).length*72≤140737488351232) (x0 x1 x3 p0 p1:D):q0p [qcb (RP (n)),qca (RP (n))] M0 0 [.d x0,.d x1,.d (d9 o),.d x3,.d (d9 o),.d (il (o.getD []).length),.d (il 0),.d p0,.d p1] =
  qav [.d x0,.d x1,.d (d9 o),.d x3,.d p0,.d p1] (fun rs=>[.d x0,.d x1,.d (d9 o),.d x3,.r rs,.d p0,.d p1,.n rs.length,.n rs.length]) ((o.getD []).filterMap (fun e=>some [.ifc 202 true (r9 e)])):=by
 refine q5k (o.getD []) (by omega) (fun e=>some [.ifc 202 true (r9 e)]) _ _ (fun i=>[.d x0,.d x1,.d (d9 o),.d x3,.d (d9 o),.d (il (o.getD []).length),.d (il (i:Nat)),.d p0,.d p1]) (fun i rs=>[.d x0,.d x1,.d (d9 o),.d x3,.d (d9 o),.d (il (o.getD []).length),.d (il (i:Nat)),.r rs,.d p0,.d p1,.n rs.length,.n rs.length]) [.d x0,.d x1,.d (d9 o),.d x3,.d p0,.d p1] (fun rs=>[.d x0,.d x1,.d (d9 o),.d x3,.r rs,.d p0,.d p1,.n rs.length,.n rs.length]) ?_ ?_ ?_ ?_
 ·intro q;simp [qcb]
 ·intro rs q;simp [qca]
 ·intro i c q hi hlt hw
  simp only [qcb,q03,q08,q0n,q00,hlt,decide_true,if_true,q5t hi,q1i,q0Q,q0K,q0T,q0M,List.length_cons,List.length_nil,List.take_succ_cons,List.take_zero,q1O,q19,q05,q0o,hw,q8e]
  rw [if_pos (by simp [])]
  rfl
 ·intro i c rs q hi hlt hw hrs
  simp only [qca,q03,q08,q0P,q0O,q0F,q0V,q0n,q00,hlt,decide_true,if_true,q5t hi,q1i,q0Q,q0K,q0T,q0M,List.length_cons,List.length_nil,List.take_succ_cons,List.take_zero,q19,q05,q0o,hw,q8e,q1Q,q3V,List.length_append]
  rw [if_pos (by simp [];omega)]
  rfl
set_option maxRecDepth 10000 in
theorem l105_3 (n:Nat) (o:Option (List E5)) (hl:(o.getD []).length*40≤140737488351232) (p0 p1 p2:D):q0p [qc9 (RP (n)),qc8 (RP (n))] M0 0 [.d (d5 o),.d (il (o.getD []).length),.d (il 0),.d p0,.d p1,.d p2] =
  qav [.d p0,.d p1,.d p2] (fun rs=>[.r rs,.d p0,.d p1,.d p2,.n rs.length,.n rs.length]) ((o.getD []).filterMap (fun e=>some [.ifc 203 true (r5 e)])):=by
 refine q5k (o.getD []) (by omega) (fun e=>some [.ifc 203 true (r5 e)]) _ _ (fun i=>[.d (d5 o),.d (il (o.getD []).length),.d (il (i:Nat)),.d p0,.d p1,.d p2]) (fun i rs=>[.d (d5 o),.d (il (o.getD []).length),.d (il (i:Nat)),.r rs,.d p0,.d p1,.d p2,.n rs.length,.n rs.length]) [.d p0,.d p1,.d p2] (fun rs=>[.r rs,.d p0,.d p1,.d p2,.n rs.length,.n rs.length]) ?_ ?_ ?_ ?_
 ·intro q;simp [qc9]
 ·intro rs q;simp [qc8]
 ·intro i c q hi hlt hw
  simp only [qc9,q03,q08,q0n,q00,hlt,decide_true,if_true,qfG hi,q1i,q0Q,q0K,q0T,q0M,List.length_cons,List.length_nil,List.take_succ_cons,List.take_zero,q1O,q19,q05,q0o,hw,q8e]
  rw [if_pos (by simp [])]
  rfl
 ·intro i c rs q hi hlt hw hrs
  simp only [qc8,q03,q08,q0P,q0O,q0F,q0V,q0n,q00,hlt,decide_true,if_true,qfG hi,q1i,q0Q,q0K,q0T,q0M,List.length_cons,List.length_nil,List.take_succ_cons,List.take_zero,q19,q05,q0o,hw,q8e,q1Q,q3V,List.length_append]
  rw [if_pos (by simp [];omega)]
  rfl
def q3P (t:Nat) (l:List E9):D:=dSl 1 (nzO (l.map fun e=>[.ifc t true (r9 e)]))
def qcQ (l:List E5):D:=dSl 1 (nzO (l.map fun e=>[.ifc 203 true (r5 e)]))
theorem qiU {α β:Type} (f:α→β) (l:List α):l.filterMap (fun e=>some (f e))=l.map f:=by
 induction l with
 | nil=>rfl
 | cons x xs ih=>simp
theorem q5l {Fn:Nat→List D→Out} {FnD:D→List Sh→List D→Out} {m:Nat} {l:Rr} {e0:List Yr} {e1:Rr→List Yr} {k0 k1:List Yr→Out} {s:Nat} {R:D→Out} (h0:k0 e0=R (.lit (.slice none 0 0))) (h1:∀ w ws,k1 (e1 (w::ws))=R (.sl s (w::ws))) :
  (q04 Fn FnD m).bnd (qav e0 e1 l) [k0,k1]=R (dSl s (nzO l)):=by
 cases l with
 | nil=>exact h0
 | cons w ws=>exact h1 w ws
set_option maxRecDepth 10000 in
theorem s105 (n:Nat) (a b c:Option (List E9)) (o:Option (List E5)) (ha:(a.getD []).length*72≤140737488351232) (hb:(b.getD []).length*72≤140737488351232) (hc:(c.getD []).length*72≤140737488351232) (ho:(o.getD []).length*40≤140737488351232) :
  FN (n+1) 105 [d9 a,d9 b,d9 c,d5 o]=some (0,[.d (q3P 200 (a.getD [])),.d (q3P 201 (b.getD [])),.d (q3P 202 (c.getD [])),.d (qcQ (o.getD []))]):=by
 rw [F105]
 simp only [G105,q65,q05,q0q,l105_0 n a ha]
 rw [q5l (s:=1) (R:=fun d=>some (0,[.d (d9 a),.d (d9 b),.d (d9 c),.d (d5 o),.d d])) (by simp) (by intros;simp)]
 simp only [q01,q03,q08,q65,l105_1 n b hb]
 rw [q5l (s:=1) (R:=fun d=>some (0,[.d (d9 a),.d (d9 b),.d (d9 c),.d (d5 o),.d (dSl 1 (nzO ((a.getD []).filterMap fun e=>some [.ifc 200 true (r9 e)]))),.d d])) (by simp) (by intros;simp)]
 simp only [q01,q03,q08,q65,l105_2 n c hc]
 rw [q5l (s:=1) (R:=fun d=>some (0,[.d (d9 a),.d (d9 b),.d (d9 c),.d (d5 o),.d (dSl 1 (nzO ((a.getD []).filterMap fun e=>some [.ifc 200 true (r9 e)]))),.d (dSl 1 (nzO ((b.getD []).filterMap fun e=>some [.ifc 201 true (r9 e)]))),.d d])) (by simp) (by intros;simp)]
 simp only [q01,q03,q08,qfl,l105_3 n o ho]
 rw [q5l (s:=1) (R:=fun d=>some (0,[.d (dSl 1 (nzO ((a.getD []).filterMap fun e=>some [.ifc 200 true (r9 e)]))),.d (dSl 1 (nzO ((b.getD []).filterMap fun e=>some [.ifc 201 true (r9 e)]))),.d (dSl 1 (nzO ((c.getD []).filterMap fun e=>some [.ifc 202 true (r9 e)]))),.d d])) (by simp) (by intros;simp)]
 simp only [qiU,q3P,qcQ]
def q4l (k:Int) (l:List E9):List E9:=l.filter fun e=>qa0 e.kn e.un k
def qfp (k:Int) (l:List E5):List E5:=l.filter fun e=>qa0 e.kn e.un k
end Go.VE
namespace Go.VE
open Go.RowKit Go.Proofs
theorem qcg {T:Tb3} {P:Program} {Fn:Nat→List D→Out} {t f:Nat} {name:String} {row:List D} {sh:List Sh} {xs:List D} {z:D} (hlt:f < 1000000) (hm:qhv P t name=some f) (hash:T.ash f=some sh) (hx:q1A sh [.agg row]=some xs)
  (hr:T.rsk f=[[(false,[.d])]]) (hf:Fn f xs=some (0,[.d z])):q1q P (cf3 T P) Fn (.ifc t true row) [.met name 1] []=some (0,[.d z]):=by
 have h1:(cf3 T P).ash f=some sh:=by simp only [cf3,if_pos hlt,hash]
 have h2:(cf3 T P).rsk f=[[(false,[.d])]]:=hr
 show qaL P (cf3 T P) Fn t true row [.met name 1]=_
 simp only [qaL,hm,invV,h1,h2,hx,hf]
 rfl
theorem src200 (n:Nat) (e:E9):FD (n+1) (.ifc 200 true (r9 e)) [.met "leazing/family.source" 1] []=some (0,[.d (il e.src)]) :=
 qcg (f:=236) (sh:=[.agg 9]) (xs:=r9 e) (by decide) (by kernel_rfl) (by kernel_rfl) rfl (by kernel_rfl) (by rw [r9,F236];simp [G236])
theorem src201 (n:Nat) (e:E9):FD (n+1) (.ifc 201 true (r9 e)) [.met "leazing/family.source" 1] []=some (0,[.d (il e.src)]) :=
 qcg (f:=238) (sh:=[.agg 9]) (xs:=r9 e) (by decide) (by kernel_rfl) (by kernel_rfl) rfl (by kernel_rfl) (by rw [r9,F238];simp [G238])
theorem src202 (n:Nat) (e:E9):FD (n+1) (.ifc 202 true (r9 e)) [.met "leazing/family.source" 1] []=some (0,[.d (il e.src)]) :=
 qcg (f:=240) (sh:=[.agg 9]) (xs:=r9 e) (by decide) (by kernel_rfl) (by kernel_rfl) rfl (by kernel_rfl) (by rw [r9,F240];simp [G240])
theorem src203 (n:Nat) (e:E5):FD (n+1) (.ifc 203 true (r5 e)) [.met "leazing/family.source" 1] []=some (0,[.d (il e.src)]) :=
 qcg (f:=242) (sh:=[.agg 5]) (xs:=r5 e) (by decide) (by kernel_rfl) (by kernel_rfl) rfl (by kernel_rfl) (by rw [r5,F242];simp [G242])
section
variable {Fn:Nat→List D→Out} {FnD:D→List Sh→List D→Out} {m:Nat}
def dEn {α:Type} (F:α→D) (l:List α):D:=dSl 1 (nzO (l.map fun e=>[F e]))
theorem qdS {α:Type} (F:α→D) (l:List α):(nzO (l.map fun e=>[F e])).getD []=l.map fun e=>[F e]:=qbv _
theorem q9Z {α:Type} (F:α→D) (l:List α) (k:D→Out):(q04 Fn FnD m).lenD (dEn F l) k=k (il l.length):=by rw [dEn,q6A,qdS,List.length_map]
theorem rowE {α:Type} {F:α→D} {l:List α} {i:Nat} {c:α} (h:l[i]?=some c) (k:List D→Out):(q04 Fn FnD m).rowD 1 (dEn F l) (il i) k=k [F c]:=by
 rw [dEn,q4Z,if_pos (by omega),qdS,Int.toNat_natCast,List.getElem?_map,h];rfl
end
set_option maxRecDepth 10000 in
theorem qgc {α:Type} (n:Nat) (F:α→D) (src:α→Int) (hs:∀ e,FD n (F e) [.met "leazing/family.source" 1] []=some (0,[.d (il (src e))])) (l:List α) (hl:l.length≤60) (x1 x2 x3 x4 x5:D) :
  q0p [qf1 (RP n)] M0 0 [.d (dEn F l),.d x1,.d x2,.d x3,.d x4,.d x5,.d (dEn F l),.d (il l.length),.d (il 0)] =
   if okL (fun _=>true) src none l=true then some (1,[.d x1,.d x2,.d x3,.d x4,.d x5]) else some (0,[.d (il 34)]):=by
 have:=q0u (β:=Unit) l (by omega) (qf1 (RP n)) (fun i _=>[.d (dEn F l),.d x1,.d x2,.d x3,.d x4,.d x5,.d (dEn F l),.d (il l.length),.d (il i)]) (fun _ _=>True)
  (fun i r _=>if okL (fun _=>true) src (q2L src l i) r=true then some (1,[.d x1,.d x2,.d x3,.d x4,.d x5]) else some (0,[.d (il 34)]))
  (fun _ k _=>by simp [qf1,okL]) ?_ M0 () trivial (q2J (by omega))
 ·exact this
 ·intro i e r _ k hi hd hlt hw _ ih
  have ih':=ih () trivial
  rw [q3W _ hi] at ih'
  have hlt':(i:Int) < (l.length:Int):=by omega
  have hse:q1q Tryz.prog (cf3 tb Tryz.prog) (FN n) (F e) [.met "leazing/family.source" 1] []=some (0,[.d (il (src e))]):=hs e
  simp only [qf1,q03,q08,q0n,q00,hlt',decide_true,if_true,rowE hi,q05,q3U,q0o,hw,okL,Bool.true_and]
  by_cases h0:i=0
  ·subst h0
   rw [if_neg (by simp)]
   simp only [q2L,if_true,ltO,Bool.true_and]
   exact ih'
  ·have hq1:l[i - 1]?=some (l[i - 1]'(by omega)):=List.getElem?_eq_getElem (by omega)
   have hsq:q1q Tryz.prog (cf3 tb Tryz.prog) (FN n) (F (l[i - 1]'(by omega))) [.met "leazing/family.source" 1] []=some (0,[.d (il (src (l[i - 1]'(by omega))))]):=hs _
   have hq:q2L src l i=some (src (l[i - 1]'(by omega))):=by simp [q2L,h0,hq1]
   rw [if_pos (by simp;omega),q27,q51 (by omega) (by omega),rowE hq1]
   simp only [q0c,q1P,hsq,hse,q01,q03,q2f,q00,decide_eq_true_eq,q0e]
   rw [hq]
   by_cases h2:src e≤src (l[i - 1]'(by omega))
   ·have h3:ltO (some (src (l[i - 1]'(by omega)))) (src e)=false:=by simp [ltO];omega
    rw [if_pos h2]
    simp only [h3,Bool.false_and,Bool.false_eq_true,if_false]
   ·have h3:ltO (some (src (l[i - 1]'(by omega)))) (src e)=true:=by simp [ltO];omega
    rw [if_neg h2]
    simp only [h3,Bool.true_and]
    exact ih'
theorem l56_1 {α:Type} (n:Nat) (F:α→D) (src:α→Int) (hs:∀ e,FD n (F e) [.met "leazing/family.source" 1] []=some (0,[.d (il (src e))])) (l:List α) (hl:l.length≤60) (x1 x2 x3 x4 x5:D) :
  q0p [L56_1 (RP n)] M0 0 [.d (dEn F l),.d x1,.d x2,.d x3,.d x4,.d x5,.d (dEn F l),.d (il l.length),.d (il 0)] =
   if okL (fun _=>true) src none l=true then some (1,[.d x1,.d x2,.d x3,.d x4,.d x5]) else some (0,[.d (il 34)]):=qgc n F src hs l hl x1 x2 x3 x4 x5
theorem l56_2 {α:Type} (n:Nat) (F:α→D) (src:α→Int) (hs:∀ e,FD n (F e) [.met "leazing/family.source" 1] []=some (0,[.d (il (src e))])) (l:List α) (hl:l.length≤60) (x1 x2 x3 x4 x5:D) :
  q0p [L56_2 (RP n)] M0 0 [.d (dEn F l),.d x1,.d x2,.d x3,.d x4,.d x5,.d (dEn F l),.d (il l.length),.d (il 0)] =
   if okL (fun _=>true) src none l=true then some (1,[.d x1,.d x2,.d x3,.d x4,.d x5]) else some (0,[.d (il 34)]):=qgc n F src hs l hl x1 x2 x3 x4 x5
theorem l56_3 {α:Type} (n:Nat) (F:α→D) (src:α→Int) (hs:∀ e,FD n (F e) [.met "leazing/family.source" 1] []=some (0,[.d (il (src e))])) (l:List α) (hl:l.length≤60) (x1 x2 x3 x4 x5:D) :
  q0p [L56_3 (RP n)] M0 0 [.d (dEn F l),.d x1,.d x2,.d x3,.d x4,.d x5,.d (dEn F l),.d (il l.length),.d (il 0)] =
   if okL (fun _=>true) src none l=true then some (1,[.d x1,.d x2,.d x3,.d x4,.d x5]) else some (0,[.d (il 34)]):=qgc n F src hs l hl x1 x2 x3 x4 x5
theorem q3Y {α:Type} (ok:α→Bool) (src:α→Int):∀ (p:Option Int) (l:List α),okL ok src p l=(l.all ok&&okL (fun _=>true) src p l)
 | _,[]=>rfl
 | p,e::r=>by
  simp only [okL,List.all_cons,q3Y ok src (some (src e)) r,Bool.true_and]
  cases ok e<;>cases ltO p (src e)<;>cases r.all ok<;>rfl
end Go.VE
namespace Go.VE
open Go.RowKit Go.Proofs
theorem q8d {Fn:Nat→List D→Out} {FnD:D→List Sh→List D→Out} {m:Nat} (n:Nat) (z:Int) (ks:List Out):(q04 Fn FnD m).selI n (il z) ks=if 0≤z∧z < n then selR ks z.toNat else none:=rfl
theorem qj8 {α:Type} (p:α→Bool) (l:List α):l.any (fun e=>!p e)=!l.all p:=by
 induction l with
 | nil=>rfl
 | cons x xs ih=>simp only [List.any_cons,List.all_cons,ih,Bool.not_and]
theorem qdX (b:(Nat→List Yr→Out)→List Yr→Out) (n:Nat) (ys:List Yr):q0p [b] (n+1) 0 ys=b (q0p [b] n) ys:=q5G _ _ _ _ _ rfl
set_option maxRecDepth 20000 in
theorem r56_0 {α:Type} (n:Nat) (J:Nat→List Yr→Out) (F:α→D) (src:α→Int) (hs:∀ e,FD n (F e) [.met "leazing/family.source" 1] []=some (0,[.d (il (src e))])) (l:List α) (x1 x2 x3:D) :
  q7f (RP n) J [.d (dEn F l),.d x1,.d x2,.d x3,.d (il 0)]=if (decide (l.length≤60)&&okL (fun _=>true) src none l)=true then J 0 [.d (dEn F l),.d x1,.d x2,.d x3,.d (il 1)] else some (0,[.d (il 34)]):=by
 have hw:IntKind.i64.wrap ((0:Int)+1)=1:=by rw [q0l (by omega) (by omega)];rfl
 simp only [q7f,q03,q08,q05,q0n,q00]
 rw [if_pos (by decide),q8d,if_pos (by decide)]
 show (RP n).lenD (dEn F l) _=_
 rw [q9Z]
 simp only [q3U,q00,decide_eq_true_eq,q0e,q9Z,q0q]
 by_cases hl:l.length≤60
 ·rw [if_neg (by omega),qgc n F src hs l hl]
  by_cases hk:okL (fun _=>true) src none l=true
  ·simp only [hk,hl,decide_true,Bool.and_self,if_true,q3c,q03,q08,q0o,hw]
  ·simp [hk]
 ·rw [if_pos (by omega)]
  simp [hl]
set_option maxRecDepth 20000 in
theorem r56_1 {α:Type} (n:Nat) (J:Nat→List Yr→Out) (F:α→D) (src:α→Int) (hs:∀ e,FD n (F e) [.met "leazing/family.source" 1] []=some (0,[.d (il (src e))])) (l:List α) (x0 x2 x3:D) :
  q7f (RP n) J [.d x0,.d (dEn F l),.d x2,.d x3,.d (il 1)]=if (decide (l.length≤60)&&okL (fun _=>true) src none l)=true then J 0 [.d x0,.d (dEn F l),.d x2,.d x3,.d (il 2)] else some (0,[.d (il 34)]):=by
 have hw:IntKind.i64.wrap ((1:Int)+1)=2:=by rw [q0l (by omega) (by omega)];rfl
 simp only [q7f,q03,q08,q05,q0n,q00]
 rw [if_pos (by decide),q8d,if_pos (by decide)]
 show (RP n).lenD (dEn F l) _=_
 rw [q9Z]
 simp only [q3U,q00,decide_eq_true_eq,q0e,q9Z,q0q]
 by_cases hl:l.length≤60
 ·rw [if_neg (by omega),l56_1 n F src hs l hl]
  by_cases hk:okL (fun _=>true) src none l=true
  ·simp only [hk,hl,decide_true,Bool.and_self,if_true,q3c,q03,q08,q0o,hw]
  ·simp [hk]
 ·rw [if_pos (by omega)]
  simp [hl]
set_option maxRecDepth 20000 in
theorem r56_2 {α:Type} (n:Nat) (J:Nat→List Yr→Out) (F:α→D) (src:α→Int) (hs:∀ e,FD n (F e) [.met "leazing/family.source" 1] []=some (0,[.d (il (src e))])) (l:List α) (x0 x1 x3:D) :
  q7f (RP n) J [.d x0,.d x1,.d (dEn F l),.d x3,.d (il 2)]=if (decide (l.length≤60)&&okL (fun _=>true) src none l)=true then J 0 [.d x0,.d x1,.d (dEn F l),.d x3,.d (il 3)] else some (0,[.d (il 34)]):=by
 have hw:IntKind.i64.wrap ((2:Int)+1)=3:=by rw [q0l (by omega) (by omega)];rfl
 simp only [q7f,q03,q08,q05,q0n,q00]
 rw [if_pos (by decide),q8d,if_pos (by decide)]
 show (RP n).lenD (dEn F l) _=_
 rw [q9Z]
 simp only [q3U,q00,decide_eq_true_eq,q0e,q9Z,q0q]
 by_cases hl:l.length≤60
 ·rw [if_neg (by omega),l56_2 n F src hs l hl]
  by_cases hk:okL (fun _=>true) src none l=true
  ·simp only [hk,hl,decide_true,Bool.and_self,if_true,q3c,q03,q08,q0o,hw]
  ·simp [hk]
 ·rw [if_pos (by omega)]
  simp [hl]
set_option maxRecDepth 20000 in
theorem r56_3 {α:Type} (n:Nat) (J:Nat→List Yr→Out) (F:α→D) (src:α→Int) (hs:∀ e,FD n (F e) [.met "leazing/family.source" 1] []=some (0,[.d (il (src e))])) (l:List α) (x0 x1 x2:D) :
  q7f (RP n) J [.d x0,.d x1,.d x2,.d (dEn F l),.d (il 3)]=if (decide (l.length≤60)&&okL (fun _=>true) src none l)=true then J 0 [.d x0,.d x1,.d x2,.d (dEn F l),.d (il 4)] else some (0,[.d (il 34)]):=by
 have hw:IntKind.i64.wrap ((3:Int)+1)=4:=by rw [q0l (by omega) (by omega)];rfl
 simp only [q7f,q03,q08,q05,q0n,q00]
 rw [if_pos (by decide),q8d,if_pos (by decide)]
 show (RP n).lenD (dEn F l) _=_
 rw [q9Z]
 simp only [q3U,q00,decide_eq_true_eq,q0e,q9Z,q0q]
 by_cases hl:l.length≤60
 ·rw [if_neg (by omega),l56_3 n F src hs l hl]
  by_cases hk:okL (fun _=>true) src none l=true
  ·simp only [hk,hl,decide_true,Bool.and_self,if_true,q3c,q03,q08,q0o,hw]
  ·simp [hk]
 ·rw [if_pos (by omega)]
  simp [hl]
set_option maxRecDepth 20000 in
theorem s56 (n:Nat) (a b c:Option (List E9)) (o:Option (List E5)) (ha:(a.getD []).length*72≤140737488351232) (hb:(b.getD []).length*72≤140737488351232) (hc:(c.getD []).length*72≤140737488351232) (ho:(o.getD []).length*40≤140737488351232) :
  FN (n+9) 56 [d9 a,d9 b,d9 c,d5 o]=some (0,[.d (il (if q0D (a.getD []) (b.getD []) (c.getD []) (o.getD []) then 0 else 34))]):=by
 rw [F56]
 simp only [G56,q0a,q4E,s119 (n+5) a (by omega) (.fn 120 []) _ (fun e _=>d120 n e),s121 (n+5) b (by omega) (.fn 122 []) _ (fun e _=>d122 n e),s123 (n+5) c (by omega) (.fn 124 []) _ (fun e _=>d124 n e),s125 (n+5) o (by omega) (.fn 126 []) _ (fun e _=>d126 n e),qj8,q01,q03,q00,q0e,s105 (n+7) a b c o ha hb hc ho]
 have hk:q0D (a.getD []) (b.getD []) (c.getD []) (o.getD [])=(decide ((a.getD []).length≤60∧(b.getD []).length≤60∧(c.getD []).length≤60∧(o.getD []).length≤60)&&((a.getD []).all fun e=>decide (q22 e))&&okL (fun _=>true) (·.src) none (a.getD [])&&(((b.getD []).all fun e=>decide (q1z e))&&okL (fun _=>true) (·.src) none (b.getD []))&&(((c.getD []).all fun e=>decide (q23 e))&&okL (fun _=>true) (·.src) none (c.getD []))&&(((o.getD []).all fun e=>decide (q3M e))&&okL (fun _=>true) (·.src) none (o.getD []))):=by
  unfold q0D
  rw [q3Y (fun e=>decide (q22 e)),q3Y (fun e=>decide (q1z e)),q3Y (fun e=>decide (q23 e)),q3Y (fun e=>decide (q3M e))]
  simp only [Bool.and_assoc]
 rw [hk]
 generalize (a.getD []).all (fun e=>decide (q22 e))=q1
 generalize (b.getD []).all (fun e=>decide (q1z e))=q2
 generalize (c.getD []).all (fun e=>decide (q23 e))=q3
 generalize (o.getD []).all (fun e=>decide (q3M e))=q4
 cases q1
 ·simp
 cases q2
 ·simp
 cases q3
 ·simp
 cases q4
 ·simp
 simp only [Bool.not_true,Bool.false_eq_true,if_false,Bool.and_true,Bool.true_and,q0q,q08,q03,q05]
 obtain ⟨k,hM⟩:∃ k,M0=k+5:=⟨18446744073709551611,rfl⟩
 have e0:q3P 200 (a.getD [])=dEn (fun e=>.ifc 200 true (r9 e)) (a.getD []):=rfl
 have e1:q3P 201 (b.getD [])=dEn (fun e=>.ifc 201 true (r9 e)) (b.getD []):=rfl
 have e2:q3P 202 (c.getD [])=dEn (fun e=>.ifc 202 true (r9 e)) (c.getD []):=rfl
 have e3:qcQ (o.getD [])=dEn (fun e=>.ifc 203 true (r5 e)) (o.getD []):=rfl
 rw [e0,e1,e2,e3,hM,qdX]
 rw [r56_0 (n+8) _ _ _ (src200 (n+7)),qdX,r56_1 (n+8) _ _ _ (src201 (n+7)),qdX,r56_2 (n+8) _ _ _ (src202 (n+7)),qdX,r56_3 (n+8) _ _ _ (src203 (n+7)),qdX]
 have hend:∀ J x0 x1 x2 x3,q7f (RP (n+8)) J [.d x0,.d x1,.d x2,.d x3,.d (il 4)]=some (1,[]):=by
  intro J x0 x1 x2 x3
  simp [q7f]
 rw [hend]
 by_cases h1:(a.getD []).length≤60<;>by_cases h2:(b.getD []).length≤60<;>by_cases h3:(c.getD []).length≤60<;>by_cases h4:(o.getD []).length≤60<;>simp only [h1,h2,h3,h4,decide_true,decide_false,Bool.true_and,Bool.false_and,and_self,and_true,and_false,Bool.false_eq_true,if_false]
 all_goals (cases okL (fun _=>true) (fun (e:E9)=>e.src) none (a.getD [])<;>cases okL (fun _=>true) (fun (e:E9)=>e.src) none (b.getD [])<;>cases okL (fun _=>true) (fun (e:E9)=>e.src) none (c.getD [])<;>cases okL (fun _=>true) (fun (e:E5)=>e.src) none (o.getD [])<;>simp)
end Go.VE
namespace Go.VE
open Go.RowKit Go.Proofs
section
variable {Fn:Nat→List D→Out} {FnD:D→List Sh→List D→Out} {m:Nat}
theorem q5z (i n:Nat) (k:Nat→Nat→Out) (e:Out) (h:i < n):(q04 Fn FnD m).cut (some (il i)) none n k e=k i (n - i):=by
 show (if 0≤(i:Int)∧(i:Int)≤(n:Int)∧(n:Int)≤(n:Int) then (if (i:Int)=0∨(i:Int) < (n:Int) then k (i:Int).toNat ((n:Int) - (i:Int)).toNat else e) else none)=_
 rw [if_pos (by omega),if_pos (by omega),Int.toNat_natCast,show ((n:Int) - (i:Int)).toNat=n - i by omega]
theorem q5A (i n:Nat) (k:Nat→Nat→Out) (e:Out) (h:i≤n):(q04 Fn FnD m).cut none (some (il i)) n k e=k 0 i:=by
 show (if 0≤(0:Int)∧(0:Int)≤(i:Int)∧(i:Int)≤(n:Int) then (if (0:Int)=0∨(0:Int) < (i:Int) then k (0:Int).toNat ((i:Int) - 0).toNat else e) else none)=_
 rw [if_pos (by omega),if_pos (.inl rfl),show ((i:Int) - 0).toNat=i by omega]
 rfl
end
theorem qfB {α:Type} {l:List α} {i:Nat} {c:α} (h:i < l.length):(l.set i c).take (i+1)=l.take i++[c]:=by
 rw [List.take_add_one,List.take_set_of_le (Nat.le_refl _),List.getElem?_set_self h];rfl
theorem q3B {α:Type} {p:α→Bool}:∀ {l:List α} {i:Nat},fnd p l=some i→i < l.length∧(l.take (i+1)).filter (fun e=>!p e)=l.take i
 | [],i,h=>by cases h
 | x::xs,i,h=>by
  simp only [fnd] at h
  split at h
  ·rename_i hp
   cases h
   simp [hp]
  ·rename_i hp
   obtain ⟨j,hj,rfl⟩:=Option.map_eq_some_iff.1 h
   obtain ⟨h1,h2⟩:=q3B hj
   simp only [Bool.not_eq_true] at hp
   refine ⟨by simp;omega,?_⟩
   rw [List.take_succ_cons,List.filter_cons_of_pos (by simp [hp]),h2,List.take_succ_cons]
theorem q3C {α:Type} {p:α→Bool}:∀ {l:List α},fnd p l=none→l.filter (fun e=>!p e)=l
 | [],_=>rfl
 | x::xs,h=>by
  simp only [fnd] at h
  split at h
  ·cases h
  ·rename_i hp
   simp only [Bool.not_eq_true] at hp
   rw [List.filter_cons_of_pos (by simp [hp]),q3C (by simpa using h)]
theorem q6o {α:Type} (l:List α) (hl:l.length≤4611686018427387904) (p:α→Bool) (body:(Nat→List Yr→Out)→List Yr→Out) (st:Nat→Nat→List α→List Yr) (ex:Nat→List α→Out)
  (e0:∀ i ks k,ks.length=l.length→body k (st i l.length ks)=ex i ks)
  (e1:∀ (i j:Nat) ks c c2 (k:Nat→List Yr→Out),c∈l→ks[j]?=some c→ks[i]?=some c2→i < j→(j:Int) < (l.length:Int)→(i:Int) < (l.length:Int)→ks.length=l.length→IntKind.i64.wrap ((j:Int)+1)=((j+1:Nat):Int)→IntKind.i64.wrap ((i:Int)+1)=((i+1:Nat):Int) →
   body k (st i j ks)=if p c=true then k 0 (st i (j+1) ks) else k 0 (st (i+1) (j+1) (ks.set i c)))
  (i0:Nat) (h0:i0 < l.length) (h1:(l.take (i0+1)).filter (fun e=>!p e)=l.take i0) :
  ∃ i ks,q0p [body] M0 0 (st i0 (i0+1) l)=ex i ks∧i < l.length∧ks.length=l.length∧ks.take i=l.filter (fun e=>!p e):=by
 refine q5F (σ:=Nat×Nat×List α) [body] (fun s=>(0,st s.1 s.2.1 s.2.2)) (fun s=>l.length - s.2.1)
  (fun s=>s.1 < s.2.1∧s.2.1≤l.length∧s.2.2.length=l.length∧s.2.2.drop s.2.1=l.drop s.2.1∧s.2.2.take s.1=(l.take s.2.1).filter (fun e=>!p e))
  (fun r=>∃ i ks,r=ex i ks∧i < l.length∧ks.length=l.length∧ks.take i=l.filter (fun e=>!p e)) ?_ M0 (i0,i0+1,l)
  ⟨Nat.lt_succ_self _,h0,rfl,rfl,h1.symm⟩ (by have:=q2J hl;unfold M0;simp only;omega)
 rintro ⟨i,j,ks⟩ k ⟨g1,g2,g3,g4,g5⟩ ih
 simp only at g1 g2 g3 g4 g5 ih ⊢
 refine ⟨body,rfl,?_⟩
 by_cases hj:j < l.length
 ·obtain ⟨c,hc⟩:∃ c,l[j]?=some c:=⟨l[j],List.getElem?_eq_getElem hj⟩
  have hkc:ks[j]?=some c:=by
   have e1:(ks.drop j)[0]?=(l.drop j)[0]?:=by rw [g4]
   simpa [List.getElem?_drop,hc] using e1
  obtain ⟨c2,hc2⟩:∃ c2,ks[i]?=some c2:=⟨ks[i]'(by omega),List.getElem?_eq_getElem (by omega)⟩
  have ht:l.take (j+1)=l.take j++[c]:=by rw [List.take_add_one,hc];rfl
  have hd:ks.drop (j+1)=l.drop (j+1):=by
   have e2:(ks.drop j).drop 1=(l.drop j).drop 1:=by rw [g4]
   rwa [List.drop_drop,List.drop_drop] at e2
  rw [e1 i j ks c c2 k (List.mem_of_getElem? hc) hkc hc2 g1 (by omega) (by omega) g3 (by rw [q0l (by omega) (by omega)];simp) (by rw [q0l (by omega) (by omega)];simp)]
  by_cases hpv:p c=true
  ·rw [if_pos hpv]
   exact ih (i,j+1,ks) ⟨by simp only;omega,hj,g3,hd,by simp only;rw [ht,List.filter_append,← g5];simp [hpv]⟩ (by simp only;omega)
  ·rw [if_neg hpv]
   refine ih (i+1,j+1,ks.set i c) ⟨by simp only;omega,hj,by simp only [List.length_set];exact g3,?_,?_⟩ (by simp only;omega)
   ·simp only
    rw [List.drop_set_of_lt (by omega)]
    exact hd
   ·simp only
    rw [qfB (by omega),g5,ht,List.filter_append]
    simp [hpv]
 ·have hjl:j=l.length:=by omega
  subst hjl
  rw [e0 i ks k g3]
  exact ⟨i,ks,rfl,by omega,g3,by rw [g5,List.take_length]⟩
set_option maxRecDepth 20000 in
theorem q8o (n:Nat) (x:D) (p:E9→Bool) (l:List E9) (hl:l.length≤4611686018427387904) (hp:∀ e∈l,FD n x [.agg 9] (r9 e)=some (0,[.d (bl (p e))])) (i0:Nat) (h0:i0 < l.length) (h1:(l.take (i0+1)).filter (fun e=>!p e)=l.take i0) :
  ∃ (i:Nat) (ks:List E9),q0p [q2d (RP n)] M0 0 [.n l.length,.n l.length,.d x,.d (il i0),.d (il ((i0+1:Nat):Int)),.r (l.map r9)]=some (0,[.n l.length,.n l.length,.d (il ((i:Nat):Int)),.r (ks.map r9)])∧i < l.length∧ks.length=l.length∧ks.take i=l.filter (fun e=>!p e):=by
 refine q6o l hl p (q2d (RP n)) (fun i j ks=>[.n l.length,.n l.length,.d x,.d (il (i:Nat)),.d (il (j:Nat)),.r (ks.map r9)]) (fun i ks=>some (0,[.n l.length,.n l.length,.d (il ((i:Nat):Int)),.r (ks.map r9)])) ?_ ?_ i0 h0 h1
 ·intro i ks k hk
  simp [q2d]
 ·intro i j ks c c2 k hc hj hi hij hjl hil hks hwj hwi
  have hkr:(ks.map r9)[j]?=some (r9 c):=by rw [List.getElem?_map,hj];rfl
  have hkr2:(ks.map r9)[i]?=some (r9 c2):=by rw [List.getElem?_map,hi];rfl
  have hpc:q1q Tryz.prog (cf3 tb Tryz.prog) (FN n) x [.agg 9] (r9 c)=some (0,[.d (bl (p c))]):=hp c hc
  simp only [q2d,q03,q08,q0P,q0O,q0F,q0V,q99,q0n,q00,hjl,decide_true,if_true,q0Q,List.length_map,q0T,hks]
  rw [q9b _ _ _ ⟨by omega,hjl⟩,Int.toNat_natCast,q3T 9 _ _ _ _ hkr rfl]
  rw [show [(RP n).cell (r9 c) 0,(RP n).cell (r9 c) 1,(RP n).cell (r9 c) 2,(RP n).cell (r9 c) 3,(RP n).cell (r9 c) 4,(RP n).cell (r9 c) 5,(RP n).cell (r9 c) 6,(RP n).cell (r9 c) 7,(RP n).cell (r9 c) 8]=r9 c from rfl]
  rw [q1P,hpc]
  simp only [q01,q03,q0N,q00,q05,q0o,hwj,hwi]
  cases hpv:p c with
  | true=>simp only [Bool.not_true,Bool.false_eq_true,if_false,if_true]
  | false =>
   simp only [Bool.not_false,if_true,Bool.false_eq_true,if_false]
   rw [q9b _ _ _ ⟨by omega,hil⟩,Int.toNat_natCast,q3T 9 _ _ _ _ hkr2 rfl]
   simp only [q98,List.map_set]
set_option maxRecDepth 20000 in
theorem qgd (n:Nat) (x:D) (p:E5→Bool) (l:List E5) (hl:l.length≤4611686018427387904) (hp:∀ e∈l,FD n x [.agg 5] (r5 e)=some (0,[.d (bl (p e))])) (i0:Nat) (h0:i0 < l.length) (h1:(l.take (i0+1)).filter (fun e=>!p e)=l.take i0) :
  ∃ (i:Nat) (ks:List E5),q0p [q3q (RP n)] M0 0 [.n l.length,.n l.length,.d x,.d (il i0),.d (il ((i0+1:Nat):Int)),.r (l.map r5)]=some (0,[.n l.length,.n l.length,.d (il ((i:Nat):Int)),.r (ks.map r5)])∧i < l.length∧ks.length=l.length∧ks.take i=l.filter (fun e=>!p e):=by
 refine q6o l hl p (q3q (RP n)) (fun i j ks=>[.n l.length,.n l.length,.d x,.d (il (i:Nat)),.d (il (j:Nat)),.r (ks.map r5)]) (fun i ks=>some (0,[.n l.length,.n l.length,.d (il ((i:Nat):Int)),.r (ks.map r5)])) ?_ ?_ i0 h0 h1
 ·intro i ks k hk
  simp [q3q]
 ·intro i j ks c c2 k hc hj hi hij hjl hil hks hwj hwi
  have hkr:(ks.map r5)[j]?=some (r5 c):=by rw [List.getElem?_map,hj];rfl
  have hkr2:(ks.map r5)[i]?=some (r5 c2):=by rw [List.getElem?_map,hi];rfl
  have hpc:q1q Tryz.prog (cf3 tb Tryz.prog) (FN n) x [.agg 5] (r5 c)=some (0,[.d (bl (p c))]):=hp c hc
  simp only [q3q,q03,q08,q0P,q0O,q0F,q0V,q99,q0n,q00,hjl,decide_true,if_true,q0Q,List.length_map,q0T,hks]
  rw [q9b _ _ _ ⟨by omega,hjl⟩,Int.toNat_natCast,q3T 5 _ _ _ _ hkr rfl]
  rw [show [(RP n).cell (r5 c) 0,(RP n).cell (r5 c) 1,(RP n).cell (r5 c) 2,(RP n).cell (r5 c) 3,(RP n).cell (r5 c) 4]=r5 c from rfl]
  rw [q1P,hpc]
  simp only [q01,q03,q0N,q00,q05,q0o,hwj,hwi]
  cases hpv:p c with
  | true=>simp only [Bool.not_true,Bool.false_eq_true,if_false,if_true]
  | false =>
   simp only [Bool.not_false,if_true,Bool.false_eq_true,if_false]
   rw [q9b _ _ _ ⟨by omega,hil⟩,Int.toNat_natCast,q3T 5 _ _ _ _ hkr2 rfl]
   simp only [q98,List.map_set]
theorem qgy (n:Nat):q84 (RP n)=q2d (RP n):=rfl
theorem qgx (n:Nat):q83 (RP n)=q2d (RP n):=rfl
set_option maxRecDepth 20000 in
theorem qb8 (n:Nat) (x:D) (p:E9→Bool) (l:List E9) (hl:l.length≤4611686018427387904) (hp:∀ e∈l,FD n x [.agg 9] (r9 e)=some (0,[.d (bl (p e))])) (hp1:∀ e∈l,FD (n+1) x [.agg 9] (r9 e)=some (0,[.d (bl (p e))])) :
  ∃ rest:Rr,FN (n+2) 1000097 [.sl 9 (l.map r9),x]=some (0,[.d (.sl 9 ((l.filter fun e=>!p e).map r9)),.d (.sl 9 rest)]):=by
 have hi:=s181 n (some l) hl x p hp
 simp only [d9,Option.map_some,dSl,Option.getD_some] at hi
 rw [qh0]
 have hlen:(l.map r9).take (l.map r9).length=l.map r9:=List.take_length
 simp only [q8J,q0H,q0Q,q0T,q0M,q1k,hlen,q0a,hi,q01,q03,q2Y,List.all_cons,List.all_nil,qft,Bool.and_true,if_true,q05,q0S,q00,decide_eq_true_eq,q0e]
 unfold q6l
 cases hf:fnd p l with
 | none =>
  refine ⟨l.map r9,?_⟩
  simp only [if_true]
  rw [q3C hf]
 | some i0 =>
  obtain ⟨h0,h1⟩:=q3B hf
  simp only
  rw [if_neg (by omega),q0o,q0l (by omega) (by omega),q0q,List.length_map]
  obtain ⟨i,ks,e1,e2,e3,e4⟩:=q8o (n+1) x p l hl hp1 i0 h0 h1
  rw [show ((i0:Nat):Int)+1=((i0+1:Nat):Int) by simp,e1]
  have ek:(ks.map r9).length=l.length:=by simp [e3]
  simp only [q01,q03,q08,q0P,q0O,q0F,q0V,ek,if_true]
  rw [q5z _ _ _ _ e2]
  have ea:i+(l.length - i)=l.length:=by omega
  have et:((ks.map r9).take i++List.replicate (l.length - i) [il 0,il 0,il 0,il 0,il 0,il 0,il 0,il 0,il 0]).length=l.length:=by
   simp [e3];omega
  simp only [q1Q,ea,q3V,q6y,et,if_true]
  rw [q5A _ _ _ _ (by omega)]
  have er:((ks.map r9).take i++List.replicate (l.length - i) [il 0,il 0,il 0,il 0,il 0,il 0,il 0,il 0,il 0]).take i=(l.filter fun e=>!p e).map r9:=by
   rw [List.take_append_of_le_length (by simp [e3];omega),List.take_take,Nat.min_self,← List.map_take,e4]
  rw [er]
  exact ⟨_,rfl⟩
set_option maxRecDepth 20000 in
theorem qb7 (n:Nat) (x:D) (p:E9→Bool) (l:List E9) (hl:l.length≤4611686018427387904) (hp:∀ e∈l,FD n x [.agg 9] (r9 e)=some (0,[.d (bl (p e))])) (hp1:∀ e∈l,FD (n+1) x [.agg 9] (r9 e)=some (0,[.d (bl (p e))])) :
  ∃ rest:Rr,FN (n+2) 1000099 [.sl 9 (l.map r9),x]=some (0,[.d (.sl 9 ((l.filter fun e=>!p e).map r9)),.d (.sl 9 rest)]):=by
 have hi:=s182 n (some l) hl x p hp
 simp only [d9,Option.map_some,dSl,Option.getD_some] at hi
 rw [qgZ]
 have hlen:(l.map r9).take (l.map r9).length=l.map r9:=List.take_length
 simp only [q8I,q0H,q0Q,q0T,q0M,q1k,hlen,q0a,hi,q01,q03,q2Y,List.all_cons,List.all_nil,qft,Bool.and_true,if_true,q05,q0S,q00,decide_eq_true_eq,q0e]
 unfold q6l
 cases hf:fnd p l with
 | none =>
  refine ⟨l.map r9,?_⟩
  simp only [if_true]
  rw [q3C hf]
 | some i0 =>
  obtain ⟨h0,h1⟩:=q3B hf
  simp only
  rw [if_neg (by omega),q0o,q0l (by omega) (by omega),q0q,List.length_map]
  obtain ⟨i,ks,e1,e2,e3,e4⟩:=q8o (n+1) x p l hl hp1 i0 h0 h1
  rw [show ((i0:Nat):Int)+1=((i0+1:Nat):Int) by simp,qgy,e1]
  have ek:(ks.map r9).length=l.length:=by simp [e3]
  simp only [q01,q03,q08,q0P,q0O,q0F,q0V,ek,if_true]
  rw [q5z _ _ _ _ e2]
  have ea:i+(l.length - i)=l.length:=by omega
  have et:((ks.map r9).take i++List.replicate (l.length - i) [il 0,il 0,il 0,il 0,il 0,il 0,il 0,il 0,il 0]).length=l.length:=by
   simp [e3];omega
  simp only [q1Q,ea,q3V,q6y,et,if_true]
  rw [q5A _ _ _ _ (by omega)]
  have er:((ks.map r9).take i++List.replicate (l.length - i) [il 0,il 0,il 0,il 0,il 0,il 0,il 0,il 0,il 0]).take i=(l.filter fun e=>!p e).map r9:=by
   rw [List.take_append_of_le_length (by simp [e3];omega),List.take_take,Nat.min_self,← List.map_take,e4]
  rw [er]
  exact ⟨_,rfl⟩
set_option maxRecDepth 20000 in
theorem qb6 (n:Nat) (x:D) (p:E9→Bool) (l:List E9) (hl:l.length≤4611686018427387904) (hp:∀ e∈l,FD n x [.agg 9] (r9 e)=some (0,[.d (bl (p e))])) (hp1:∀ e∈l,FD (n+1) x [.agg 9] (r9 e)=some (0,[.d (bl (p e))])) :
  ∃ rest:Rr,FN (n+2) 1000101 [.sl 9 (l.map r9),x]=some (0,[.d (.sl 9 ((l.filter fun e=>!p e).map r9)),.d (.sl 9 rest)]):=by
 have hi:=s183 n (some l) hl x p hp
 simp only [d9,Option.map_some,dSl,Option.getD_some] at hi
 rw [qgY]
 have hlen:(l.map r9).take (l.map r9).length=l.map r9:=List.take_length
 simp only [q8H,q0H,q0Q,q0T,q0M,q1k,hlen,q0a,hi,q01,q03,q2Y,List.all_cons,List.all_nil,qft,Bool.and_true,if_true,q05,q0S,q00,decide_eq_true_eq,q0e]
 unfold q6l
 cases hf:fnd p l with
 | none =>
  refine ⟨l.map r9,?_⟩
  simp only [if_true]
  rw [q3C hf]
 | some i0 =>
  obtain ⟨h0,h1⟩:=q3B hf
  simp only
  rw [if_neg (by omega),q0o,q0l (by omega) (by omega),q0q,List.length_map]
  obtain ⟨i,ks,e1,e2,e3,e4⟩:=q8o (n+1) x p l hl hp1 i0 h0 h1
  rw [show ((i0:Nat):Int)+1=((i0+1:Nat):Int) by simp,qgx,e1]
  have ek:(ks.map r9).length=l.length:=by simp [e3]
  simp only [q01,q03,q08,q0P,q0O,q0F,q0V,ek,if_true]
  rw [q5z _ _ _ _ e2]
  have ea:i+(l.length - i)=l.length:=by omega
  have et:((ks.map r9).take i++List.replicate (l.length - i) [il 0,il 0,il 0,il 0,il 0,il 0,il 0,il 0,il 0]).length=l.length:=by
   simp [e3];omega
  simp only [q1Q,ea,q3V,q6y,et,if_true]
  rw [q5A _ _ _ _ (by omega)]
  have er:((ks.map r9).take i++List.replicate (l.length - i) [il 0,il 0,il 0,il 0,il 0,il 0,il 0,il 0,il 0]).take i=(l.filter fun e=>!p e).map r9:=by
   rw [List.take_append_of_le_length (by simp [e3];omega),List.take_take,Nat.min_self,← List.map_take,e4]
  rw [er]
  exact ⟨_,rfl⟩
set_option maxRecDepth 20000 in
theorem qb5 (n:Nat) (x:D) (p:E5→Bool) (l:List E5) (hl:l.length≤4611686018427387904) (hp:∀ e∈l,FD n x [.agg 5] (r5 e)=some (0,[.d (bl (p e))])) (hp1:∀ e∈l,FD (n+1) x [.agg 5] (r5 e)=some (0,[.d (bl (p e))])) :
  ∃ rest:Rr,FN (n+2) 1000103 [.sl 5 (l.map r5),x]=some (0,[.d (.sl 5 ((l.filter fun e=>!p e).map r5)),.d (.sl 5 rest)]):=by
 have hi:=s184 n (some l) hl x p hp
 simp only [d5,Option.map_some,dSl,Option.getD_some] at hi
 rw [qgX]
 have hlen:(l.map r5).take (l.map r5).length=l.map r5:=List.take_length
 simp only [q8G,q0H,q0Q,q0T,q0M,q1k,hlen,q0a,hi,q01,q03,q2Y,List.all_cons,List.all_nil,qft,Bool.and_true,if_true,q05,q0S,q00,decide_eq_true_eq,q0e]
 unfold q6l
 cases hf:fnd p l with
 | none =>
  refine ⟨l.map r5,?_⟩
  simp only [if_true]
  rw [q3C hf]
 | some i0 =>
  obtain ⟨h0,h1⟩:=q3B hf
  simp only
  rw [if_neg (by omega),q0o,q0l (by omega) (by omega),q0q,List.length_map]
  obtain ⟨i,ks,e1,e2,e3,e4⟩:=qgd (n+1) x p l hl hp1 i0 h0 h1
  rw [show ((i0:Nat):Int)+1=((i0+1:Nat):Int) by simp,e1]
  have ek:(ks.map r5).length=l.length:=by simp [e3]
  simp only [q01,q03,q08,q0P,q0O,q0F,q0V,ek,if_true]
  rw [q5z _ _ _ _ e2]
  have ea:i+(l.length - i)=l.length:=by omega
  have et:((ks.map r5).take i++List.replicate (l.length - i) [il 0,il 0,il 0,il 0,il 0]).length=l.length:=by
   simp [e3];omega
  simp only [q1Q,ea,q3V,q6y,et,if_true]
  rw [q5A _ _ _ _ (by omega)]
  have er:((ks.map r5).take i++List.replicate (l.length - i) [il 0,il 0,il 0,il 0,il 0]).take i=(l.filter fun e=>!p e).map r5:=by
   rw [List.take_append_of_le_length (by simp [e3];omega),List.take_take,Nat.min_self,← List.map_take,e4]
  rw [er]
  exact ⟨_,rfl⟩
end Go.VE
namespace Go.VE
open Go.RowKit Go.Proofs
theorem s177n (n:Nat):FN (n+1) 177 [d9 none]=some (1,[.d (d9 none)]):=by
 rw [F177];simp [G177,d9,dSl]
theorem s177s (n:Nat) (l:List E9) (hl:l.length*72≤140737488351232):FN (n+1) 177 [d9 (some l)]=some (0,[.r (l.map r9)]):=by
 rw [F177]
 simp only [G177,d9,Option.map_some,dSl,q6z,q0H,q1i,q0Q,q0K,List.length_nil,q0T,if_true,q1Q,Nat.zero_add,List.length_map,q3V,List.nil_append,qcq,Nat.le_refl,q0M,q0e,q19]
 rw [if_pos (by omega)]
 rw [show l.length=(l.map r9).length by simp,List.take_length]
theorem s178n (n:Nat):FN (n+1) 178 [d9 none]=some (1,[.d (d9 none)]):=by
 rw [F178];simp [G178,d9,dSl]
theorem s178s (n:Nat) (l:List E9) (hl:l.length*72≤140737488351232):FN (n+1) 178 [d9 (some l)]=some (0,[.r (l.map r9)]):=by
 rw [F178]
 simp only [G178,d9,Option.map_some,dSl,q6z,q0H,q1i,q0Q,q0K,List.length_nil,q0T,if_true,q1Q,Nat.zero_add,List.length_map,q3V,List.nil_append,qcq,Nat.le_refl,q0M,q0e,q19]
 rw [if_pos (by omega)]
 rw [show l.length=(l.map r9).length by simp,List.take_length]
theorem s179n (n:Nat):FN (n+1) 179 [d9 none]=some (1,[.d (d9 none)]):=by
 rw [F179];simp [G179,d9,dSl]
theorem s179s (n:Nat) (l:List E9) (hl:l.length*72≤140737488351232):FN (n+1) 179 [d9 (some l)]=some (0,[.r (l.map r9)]):=by
 rw [F179]
 simp only [G179,d9,Option.map_some,dSl,q6z,q0H,q1i,q0Q,q0K,List.length_nil,q0T,if_true,q1Q,Nat.zero_add,List.length_map,q3V,List.nil_append,qcq,Nat.le_refl,q0M,q0e,q19]
 rw [if_pos (by omega)]
 rw [show l.length=(l.map r9).length by simp,List.take_length]
theorem s180n (n:Nat):FN (n+1) 180 [d5 none]=some (1,[.d (d5 none)]):=by
 rw [F180];simp [G180,d5,dSl]
theorem s180s (n:Nat) (l:List E5) (hl:l.length*40≤140737488351232):FN (n+1) 180 [d5 (some l)]=some (0,[.r (l.map r5)]):=by
 rw [F180]
 simp only [G180,d5,Option.map_some,dSl,q6z,q0H,q1i,q0Q,q0K,List.length_nil,q0T,if_true,q1Q,Nat.zero_add,List.length_map,q3V,List.nil_append,qcq,Nat.le_refl,q0M,q0e,q19]
 rw [if_pos (by omega)]
 rw [show l.length=(l.map r5).length by simp,List.take_length]
theorem s97n (n:Nat) (x:D):FN (n+2) 97 [d9 none,x]=some (0,[.d (d9 none)]):=by
 rw [F97]
 simp only [G97,q0a,s181 n none (by simp) x (fun _=>true) (by simp),q01,q03,q05,q0S,q00]
 rw [if_pos (by simp [q6l,fnd])]
 rfl
theorem s99n (n:Nat) (x:D):FN (n+2) 99 [d9 none,x]=some (0,[.d (d9 none)]):=by
 rw [F99]
 simp only [G99,q0a,s182 n none (by simp) x (fun _=>true) (by simp),q01,q03,q05,q0S,q00]
 rw [if_pos (by simp [q6l,fnd])]
 rfl
theorem s101n (n:Nat) (x:D):FN (n+2) 101 [d9 none,x]=some (0,[.d (d9 none)]):=by
 rw [F101]
 simp only [G101,q0a,s183 n none (by simp) x (fun _=>true) (by simp),q01,q03,q05,q0S,q00]
 rw [if_pos (by simp [q6l,fnd])]
 rfl
theorem s103n (n:Nat) (x:D):FN (n+2) 103 [d5 none,x]=some (0,[.d (d5 none)]):=by
 rw [F103]
 simp only [G103,q0a,s184 n none (by simp) x (fun _=>true) (by simp),q01,q03,q05,q0S,q00]
 rw [if_pos (by simp [q6l,fnd])]
 rfl
theorem s172 (n:Nat) (e:E9) (k:Int):FN (n+2) 172 (r9 e++[il k])=some (0,[.d (bl (!qa0 e.kn e.un k))]):=by
 rw [r9]
 simp only [List.cons_append,List.nil_append]
 rw [F172]
 simp only [G172,q0a,s173,q01,q03,q0N,q0e]
theorem d172 (n:Nat) (e:E9) (k:Int):FD (n+2) (.fn 172 [.dp [il k] 0]) [.agg 9] (r9 e)=some (0,[.d (bl (!qa0 e.kn e.un k))]) :=
 q3F [.agg 9,.ptr 1] [.agg (r9 e)] (by decide) rfl (by kernel_rfl) rfl (by kernel_rfl) (s172 n e k)
theorem s174 (n:Nat) (e:E9) (k:Int):FN (n+2) 174 (r9 e++[il k])=some (0,[.d (bl (!qa0 e.kn e.un k))]):=by
 rw [r9]
 simp only [List.cons_append,List.nil_append]
 rw [F174]
 simp only [G174,q0a,s173,q01,q03,q0N,q0e]
theorem d174 (n:Nat) (e:E9) (k:Int):FD (n+2) (.fn 174 [.dp [il k] 0]) [.agg 9] (r9 e)=some (0,[.d (bl (!qa0 e.kn e.un k))]) :=
 q3F [.agg 9,.ptr 1] [.agg (r9 e)] (by decide) rfl (by kernel_rfl) rfl (by kernel_rfl) (s174 n e k)
theorem s175 (n:Nat) (e:E9) (k:Int):FN (n+2) 175 (r9 e++[il k])=some (0,[.d (bl (!qa0 e.kn e.un k))]):=by
 rw [r9]
 simp only [List.cons_append,List.nil_append]
 rw [F175]
 simp only [G175,q0a,s173,q01,q03,q0N,q0e]
theorem d175 (n:Nat) (e:E9) (k:Int):FD (n+2) (.fn 175 [.dp [il k] 0]) [.agg 9] (r9 e)=some (0,[.d (bl (!qa0 e.kn e.un k))]) :=
 q3F [.agg 9,.ptr 1] [.agg (r9 e)] (by decide) rfl (by kernel_rfl) rfl (by kernel_rfl) (s175 n e k)
theorem s176 (n:Nat) (e:E5) (k:Int):FN (n+2) 176 (r5 e++[il k])=some (0,[.d (bl (!qa0 e.kn e.un k))]):=by
 rw [r5]
 simp only [List.cons_append,List.nil_append]
 rw [F176]
 simp only [G176,q0a,s173,q01,q03,q0N,q0e]
theorem d176 (n:Nat) (e:E5) (k:Int):FD (n+2) (.fn 176 [.dp [il k] 0]) [.agg 5] (r5 e)=some (0,[.d (bl (!qa0 e.kn e.un k))]) :=
 q3F [.agg 5,.ptr 1] [.agg (r5 e)] (by decide) rfl (by kernel_rfl) rfl (by kernel_rfl) (s176 n e k)
def kn9 (k:Int) (o:Option (List E9)):Option (List E9):=o.map (q4l k)
def kn5 (k:Int) (o:Option (List E5)):Option (List E5):=o.map (qfp k)
def q0I (a b c:Option (List E9)) (o:Option (List E5)):D:=.dp [d9 a,d9 b,d9 c,d5 o] 0
theorem q3a {Fn:Nat→List D→Out} {FnD:D→List Sh→List D→Out} {m:Nat} (j:Nat) (ys:List Yr) (k0:List Yr→Out) (ks:List (List Yr→Out)):(q04 Fn FnD m).bnd (some (j+1,ys)) (k0::ks)=(q04 Fn FnD m).bnd (some (j,ys)) ks:=by simp [r_bnd]
theorem qgh (n:Nat) (k:Int) (l:List E9) (hl:l.length*72≤140737488351232):∃ rest:Rr,FN (n+4) 1000097 [.sl 9 (l.map r9),.fn 172 [.dp [il k] 0]]=some (0,[.d (d9 (kn9 k (some l))),.d (.sl 9 rest)]):=by
 obtain ⟨rest,h⟩:=qb8 (n+2) (.fn 172 [.dp [il k] 0]) (fun e=>!qa0 e.kn e.un k) l (by omega) (fun e _=>d172 n e k) (fun e _=>d172 (n+1) e k)
 refine ⟨rest,h.trans ?_⟩
 simp only [Bool.not_not,d9,kn9,q4l,Option.map_some,dSl]
theorem qgg (n:Nat) (k:Int) (l:List E9) (hl:l.length*72≤140737488351232):∃ rest:Rr,FN (n+4) 1000099 [.sl 9 (l.map r9),.fn 174 [.dp [il k] 0]]=some (0,[.d (d9 (kn9 k (some l))),.d (.sl 9 rest)]):=by
 obtain ⟨rest,h⟩:=qb7 (n+2) (.fn 174 [.dp [il k] 0]) (fun e=>!qa0 e.kn e.un k) l (by omega) (fun e _=>d174 n e k) (fun e _=>d174 (n+1) e k)
 refine ⟨rest,h.trans ?_⟩
 simp only [Bool.not_not,d9,kn9,q4l,Option.map_some,dSl]
theorem qgf (n:Nat) (k:Int) (l:List E9) (hl:l.length*72≤140737488351232):∃ rest:Rr,FN (n+4) 1000101 [.sl 9 (l.map r9),.fn 175 [.dp [il k] 0]]=some (0,[.d (d9 (kn9 k (some l))),.d (.sl 9 rest)]):=by
 obtain ⟨rest,h⟩:=qb6 (n+2) (.fn 175 [.dp [il k] 0]) (fun e=>!qa0 e.kn e.un k) l (by omega) (fun e _=>d175 n e k) (fun e _=>d175 (n+1) e k)
 refine ⟨rest,h.trans ?_⟩
 simp only [Bool.not_not,d9,kn9,q4l,Option.map_some,dSl]
theorem qge (n:Nat) (k:Int) (l:List E5) (hl:l.length*40≤140737488351232):∃ rest:Rr,FN (n+4) 1000103 [.sl 5 (l.map r5),.fn 176 [.dp [il k] 0]]=some (0,[.d (d5 (kn5 k (some l))),.d (.sl 5 rest)]):=by
 obtain ⟨rest,h⟩:=qb5 (n+2) (.fn 176 [.dp [il k] 0]) (fun e=>!qa0 e.kn e.un k) l (by omega) (fun e _=>d176 n e k) (fun e _=>d176 (n+1) e k)
 refine ⟨rest,h.trans ?_⟩
 simp only [Bool.not_not,d5,kn5,qfp,Option.map_some,dSl]
theorem sk {α:Type} {p:List α→Prop} {q:List α→Rr→Prop} (h:∀ l,p l→∃ r,q l r):∃ f:List α→Rr,∀ l,p l→q l (f l):=by
 have h':∀ l,∃ r:Rr,p l→q l r:=fun l=>by
  by_cases hp:p l
  ·obtain ⟨r,hr⟩:=h l hp
   exact ⟨r,fun _=>hr⟩
  ·exact ⟨[],fun h=>absurd h hp⟩
 exact Classical.skolem.1 h'
def ix96:Bool→Bool→Bool→Bool→Nat
 | true,true,true,true=>0
 | true,true,true,false=>4
 | true,true,false,true=>1
 | true,true,false,false=>10
 | true,false,true,true=>3
 | true,false,true,false=>6
 | true,false,false,true=>7
 | true,false,false,false=>14
 | false,true,true,true=>2
 | false,true,true,false=>9
 | false,true,false,true=>8
 | false,true,false,false=>12
 | false,false,true,true=>5
 | false,false,true,false=>13
 | false,false,false,true=>11
 | false,false,false,false=>15
def lv9:Option (List E9)→Yr
 | none=>.d (d9 none)
 | some l=>.r (l.map r9)
def lv5:Option (List E5)→Yr
 | none=>.d (d5 none)
 | some l=>.r (l.map r5)
theorem s96 (n:Nat) (a b c:Option (List E9)) (o:Option (List E5)) (ha:(a.getD []).length*72≤140737488351232) (hb:(b.getD []).length*72≤140737488351232) (hc:(c.getD []).length*72≤140737488351232) (ho:(o.getD []).length*40≤140737488351232) :
  FN (n+2) 96 [d9 a,d9 b,d9 c,d5 o]=some (ix96 a.isSome b.isSome c.isSome o.isSome,[lv9 a,lv9 b,lv9 c,lv5 o]):=by
 rw [F96]
 cases a<;>cases b<;>cases c<;>cases o<;>try simp only [Option.getD_some] at ha hb hc ho
 all_goals
  simp (disch:=first | exact ha | exact hb | exact hc | exact ho) only [G96,q0a,s177n,s178n,s179n,s180n,s177s,s178s,s179s,s180s,q01,q3a,q03,q0F,q0Q,q0T,qcq,Nat.le_refl,if_true,q0M,List.take_length,q0e]
  rfl
set_option maxRecDepth 20000 in
set_option maxHeartbeats 1000000 in
theorem s94 (n:Nat) (k:Int) (a b c:Option (List E9)) (o:Option (List E5)) (ha:(a.getD []).length*72≤140737488351232) (hb:(b.getD []).length*72≤140737488351232) (hc:(c.getD []).length*72≤140737488351232) (ho:(o.getD []).length*40≤140737488351232) :
  FN (n+5) 94 [d9 a,d9 b,d9 c,d5 o,il k]=some (0,[.d (q0I (kn9 k a) (kn9 k b) (kn9 k c) (kn5 k o))]):=by
 rw [F94]
 obtain ⟨_,ka⟩:=sk (qgh n k)
 obtain ⟨_,kb⟩:=sk (qgg n k)
 obtain ⟨_,kc⟩:=sk (qgf n k)
 obtain ⟨_,ko⟩:=sk (qge n k)
 unfold G94
 rw [q0a,s96 (n+2) a b c o ha hb hc ho]
 cases a<;>cases b<;>cases c<;>cases o<;>try simp only [Option.getD_some] at ha hb hc ho
 all_goals
  simp only [Option.isSome_none,Option.isSome_some,ix96,↓q01,↓q3a,lv9,lv5]
  simp (disch:=first | exact ha | exact hb | exact hc | exact ho) only [q0a,s97n,s99n,s101n,s103n,ka,kb,kc,ko,q01,q03,q08,q0F,q0V,q0Q,q0T,if_true,q0e,q1k,q4E,q68,q0H]
  rfl
end Go.VE
namespace Go.VE
open Go.RowKit Go.Proofs
def q2l (ok ps fs:Bool) (p f:Int) (ds:List Int):Int:=if ok=false then 34 else if ps=true∧¬ (1≤p∧p≤999) then 35 else if fs=true∧¬ (1≤f∧f≤99) then 36 else if (ds.any fun d=>!decide (0≤d∧d≤4166))=true then 6 else 0
def q4R (e:Int) (d:D):Out:=if e=0 then some (0,[.d d,.d (il 0)]) else some (0,[.d (.lit (.pointer none)),.d (il e)])
set_option maxRecDepth 20000 in
theorem s73 (n:Nat) (p f:Int) (ps fs:Bool) (a b c:Option (List E9)) (o:Option (List E5)) (ds:List Int) (k:Int) (hds:ds.length≤100) (ha:(a.getD []).length*72≤140737488351232) (hb:(b.getD []).length*72≤140737488351232) (hc:(c.getD []).length*72≤140737488351232) (ho:(o.getD []).length*40≤140737488351232) :
  FN (n+10) 73 [il p,il f,bl ps,bl fs,d9 a,d9 b,d9 c,d5 o,dI (some (ds++[k]))]=q4R (q2l (q0D (a.getD []) (b.getD []) (c.getD []) (o.getD [])) ps fs p f (ds++[k])) (q0I (kn9 k a) (kn9 k b) (kn9 k c) (kn5 k o)):=by
 rw [F73]
 have hany:=s154 (n+6) (some (ds++[k])) (by simp;omega) (.fn 155 []) _ (fun e _=>d155 (n+3) e)
 have hlast:∀ q:List D→Out,(RP (n+9)).rowD 1 (dI (some (ds++[k]))) (il (IntKind.i64.wrap (((ds++[k]).length:Int) - 1))) q=q (rI k):=by
  intro q
  rw [show IntKind.i64.wrap (((ds++[k]).length:Int) - 1)=((ds.length:Nat):Int) by rw [q0l (by rw [List.length_append,List.length_singleton];omega) (by rw [List.length_append,List.length_singleton];omega)];simp]
  exact q5s (by simp) q
 have h56:=s56 n a b c o ha hb hc ho
 cases hq:q0D (a.getD []) (b.getD []) (c.getD []) (o.getD []) with
 | false =>
  rw [hq,if_neg (by decide)] at h56
  simp only [G73,q0a,h56,q01,q03,q05,q12,q00,q0e,s128,s129,q0N,q4E,hany,q5K,Option.getD_some,q27,hlast,rI,q0c,s94 (n+4) k a b c o ha hb hc ho,q15,q08,q3b]
  simp [q4R,q2l];rfl
 | true =>
  rw [hq,if_pos rfl] at h56
  simp only [G73,q0a,h56,q01,q03,q05,q12,q00,q0e,s128,s129,q0N,q4E,hany,q5K,Option.getD_some,q27,hlast,rI,q0c,s94 (n+4) k a b c o ha hb hc ho,q15,q08,q3b,ne_eq,not_true_eq_false,decide_false,Bool.false_eq_true,if_false]
  cases ps with
  | false =>
   simp only [Bool.false_eq_true,if_false]
   cases fs with
   | false =>
    simp only [Bool.false_eq_true,if_false]
    by_cases h:((ds++[k]).any fun d=>!decide (0≤d∧d≤4166))=true
    ·simp only [h,if_true,q4R,q2l,Bool.true_eq_false,if_false,false_and,Bool.false_eq_true];rfl
    ·simp only [h,if_false,q4R,q2l,Bool.true_eq_false,false_and,Bool.false_eq_true,if_true]
   | true =>
    simp only [if_true]
    by_cases hf:1≤f∧f≤99
    ·simp only [hf,and_self,decide_true,Bool.not_true,Bool.false_eq_true,if_false]
     by_cases h:((ds++[k]).any fun d=>!decide (0≤d∧d≤4166))=true
     ·simp only [h,if_true,q4R,q2l,Bool.true_eq_false,if_false,false_and,Bool.false_eq_true,hf,and_self,not_true,and_false];rfl
     ·simp only [h,if_false,q4R,q2l,Bool.true_eq_false,false_and,Bool.false_eq_true,if_true,hf,and_self,not_true,and_false]
    ·simp only [hf,decide_false,Bool.not_false,if_true,q4R,q2l,Bool.true_eq_false,if_false,false_and,Bool.false_eq_true,not_false_eq_true,and_self];rfl
  | true =>
   simp only [if_true]
   by_cases hp:1≤p∧p≤999
   ·simp only [hp,and_self,decide_true,Bool.not_true,Bool.false_eq_true,if_false]
    cases fs with
    | false =>
     simp only [Bool.false_eq_true,if_false]
     by_cases h:((ds++[k]).any fun d=>!decide (0≤d∧d≤4166))=true
     ·simp only [h,if_true,q4R,q2l,Bool.true_eq_false,if_false,false_and,Bool.false_eq_true,hp,and_self,not_true,and_false];rfl
     ·simp only [h,if_false,q4R,q2l,Bool.true_eq_false,false_and,Bool.false_eq_true,if_true,hp,and_self,not_true,and_false]
    | true =>
     simp only [if_true]
     by_cases hf:1≤f∧f≤99
     ·simp only [hf,and_self,decide_true,Bool.not_true,Bool.false_eq_true,if_false]
      by_cases h:((ds++[k]).any fun d=>!decide (0≤d∧d≤4166))=true
      ·simp only [h,if_true,q4R,q2l,Bool.true_eq_false,if_false,hp,hf,and_self,not_true,and_false];rfl
      ·simp only [h,if_false,q4R,q2l,Bool.true_eq_false,Bool.false_eq_true,if_true,hp,hf,and_self,not_true,and_false]
     ·simp only [hp,hf,decide_false,Bool.not_false,if_true,q4R,q2l,Bool.true_eq_false,if_false,not_false_eq_true,and_self,not_true,and_false];rfl
   ·simp only [hp,decide_false,Bool.not_false,if_true,q4R,q2l,Bool.true_eq_false,if_false,not_false_eq_true,and_self];rfl
theorem s72 (n:Nat) (p:Int):FN (n+1) 72 [il p]=some (0,[.d (il p),.d (il 0),.d (bl true),.d (bl false)]):=by
 rw [F72];simp [G72]
theorem s79 (n:Nat) (f:Int):FN (n+1) 79 [il f]=some (0,[.d (il 0),.d (il f),.d (bl false),.d (bl true)]):=by
 rw [F79];simp [G79]
end Go.VE
namespace Go.VE
open Go.RowKit Go.Proofs
def ins (x:Int):List Int→List Int
 | []=>[x]
 | y::r=>if x < y then x::y::r else if x=y then y::r else y::ins x r
abbrev Up (l:List Int):Prop:=l.Pairwise (· < ·)
def lb (x:Int):List Int→Nat
 | []=>0
 | y::r=>if y < x then lb x r+1 else 0
theorem q7o (x:Int):∀ l:List Int,lb x l≤l.length
 | []=>Nat.le_refl _
 | y::r=>by
  simp only [lb];split
  ·have:=q7o x r;simp;omega
  ·simp
theorem qiE (x:Int):∀ {l:List Int} {i:Nat} {y:Int},i < lb x l→l[i]?=some y→y < x
 | [],i,y,h,_=>by simp [lb] at h
 | z::r,i,y,h,hi=>by
  simp only [lb] at h
  split at h
  ·rename_i hz
   cases i with
   | zero=>simp at hi;subst hi;exact hz
   | succ i=>exact qiE x (l:=r) (i:=i) (by omega) (by simpa using hi)
  ·omega
theorem qiF (x:Int):∀ {l:List Int} {i:Nat} {y:Int},Up l→lb x l≤i→l[i]?=some y→x≤y
 | [],i,y,_,_,hi=>by simp at hi
 | z::r,i,y,hu,h,hi=>by
  rw [Up,List.pairwise_cons] at hu
  simp only [lb] at h
  split at h
  ·cases i with
   | zero=>omega
   | succ i=>exact qiF x (l:=r) (i:=i) hu.2 (by omega) (by simpa using hi)
  ·rename_i hz
   cases i with
   | zero=>simp at hi;omega
   | succ i =>
    have:=hu.1 y (List.mem_of_getElem? (by simpa using hi))
    omega
theorem qhF (x:Int):∀ {l:List Int},Up l→ins x l=if l[lb x l]?=some x then l else l.take (lb x l)++x::l.drop (lb x l)
 | [],_=>rfl
 | y::r,hu=>by
  rw [Up,List.pairwise_cons] at hu
  simp only [ins]
  by_cases h1:x < y
  ·have h0:lb x (y::r)=0:=by simp only [lb];rw [if_neg (by omega)]
   rw [if_pos h1]
   simp only [h0,List.getElem?_cons_zero,Option.some.injEq,List.take_zero,List.drop_zero,List.nil_append]
   rw [if_neg (by omega)]
  ·rw [if_neg h1]
   by_cases h2:x=y
   ·have h0:lb x (y::r)=0:=by simp only [lb];rw [if_neg (by omega)]
    rw [if_pos h2]
    simp only [h0,List.getElem?_cons_zero,Option.some.injEq]
    rw [if_pos h2.symm]
   ·have h0:lb x (y::r)=lb x r+1:=by simp only [lb];rw [if_pos (by omega)]
    rw [if_neg h2,qhF x hu.2]
    simp only [h0,List.getElem?_cons_succ,List.take_succ_cons,List.drop_succ_cons,List.cons_append]
    split<;>rfl
theorem q30 (x z:Int):∀ l:List Int,z∈ins x l↔z=x∨z∈l
 | []=>by simp [ins]
 | y::r=>by
  simp only [ins]
  split
  ·simp
  ·split
   ·rename_i h;subst h;simp
   ·simp only [List.mem_cons,q30 x z r]
    constructor
    ·rintro (h | h | h)
     ·exact .inr (.inl h)
     ·exact .inl h
     ·exact .inr (.inr h)
    ·rintro (h | h | h)
     ·exact .inr (.inl h)
     ·exact .inl h
     ·exact .inr (.inr h)
theorem q35 (x:Int):∀ {l:List Int},Up l→Up (ins x l)
 | [],_=>by simp [ins]
 | y::r,hu=>by
  have hu':=hu
  rw [Up,List.pairwise_cons] at hu
  simp only [ins]
  split
  ·rename_i h
   rw [Up,List.pairwise_cons]
   refine ⟨fun z hz=>?_,hu'⟩
   rcases List.mem_cons.1 hz with rfl | hz
   ·exact h
   ·have:=hu.1 z hz;omega
  ·split
   ·exact hu'
   ·rw [Up,List.pairwise_cons]
    refine ⟨fun z hz=>?_,q35 x hu.2⟩
    rcases (q30 x z r).1 hz with rfl | hz
    ·omega
    ·exact hu.1 z hz
theorem qh3:∀ {l m:List Int},Up l→Up m→(∀ z,z∈l↔z∈m)→l=m
 | [],[],_,_,_=>rfl
 | [],y::r,_,_,h=>by have:=(h y).2 (by simp);simp at this
 | y::r,[],_,_,h=>by have:=(h y).1 (by simp);simp at this
 | x::l,y::m,hl,hm,h=>by
  rw [Up,List.pairwise_cons] at hl hm
  have e:x=y:=by
   have h1:=(h x).1 (by simp)
   have h2:=(h y).2 (by simp)
   rcases List.mem_cons.1 h1 with e | h1
   ·exact e
   ·rcases List.mem_cons.1 h2 with e | h2
    ·exact e.symm
    ·have:=hl.1 y h2;have:=hm.1 x h1;omega
  subst e
  congr 1
  refine qh3 hl.2 hm.2 fun z=>?_
  constructor
  ·intro hz
   rcases List.mem_cons.1 ((h z).1 (by simp [hz])) with e | h1
   ·have:=hl.1 z hz;omega
   ·exact h1
  ·intro hz
   rcases List.mem_cons.1 ((h z).2 (by simp [hz])) with e | h1
   ·have:=hm.1 z hz;omega
   ·exact h1
end Go.VE
namespace Go.VE
open Go.RowKit Go.Proofs
theorem u64_id {x:Int} (h1:0≤x) (h2:x < 18446744073709551616):IntKind.u64.wrap x=x:=by
 have hb:(2:Int) ^ IntKind.u64.bits=18446744073709551616:=by decide
 have hs:IntKind.u64.signed=false:=rfl
 unfold IntKind.wrap
 simp only [hb,hs]
 have:x % 18446744073709551616=x:=Int.emod_eq_of_lt h1 h2
 simp [this]
section
variable {Fn:Nat→List D→Out} {FnD:D→List Sh→List D→Out} {m:Nat}
theorem r_mid (i j:Nat) (h:i+j≤9223372036854775807) (k:D→Out):((q04 Fn FnD m).cvI .u64 (il ((i:Int)+(j:Int))) fun x4=>(q04 Fn FnD m).bin .shr false x4 ((q04 Fn FnD m).lit (.int .u64 (1))) fun x5=>(q04 Fn FnD m).cvI .i64 x5 k)=k (il (((i+j) / 2:Nat):Int)):=by
 have e1:IntKind.u64.wrap ((i:Int)+(j:Int))=((i+j:Nat):Int):=by rw [u64_id (by omega) (by omega)];simp
 have e2:((i+j:Nat):Int).fdiv (2 ^ (min (1:Int).toNat IntKind.u64.bits))=(((i+j) / 2:Nat):Int):=by
  have:(min (1:Int).toNat IntKind.u64.bits)=1:=by decide
  rw [this]
  rw [Int.fdiv_eq_ediv_of_nonneg _ (by decide)]
  omega
 have e3:IntKind.i64.wrap (((i+j) / 2:Nat):Int)=(((i+j) / 2:Nat):Int):=q0l (by omega) (by omega)
 show (q04 Fn FnD m).bin .shr false (.lit (.int .u64 (IntKind.u64.wrap ((i:Int)+(j:Int))))) (.lit (.int .u64 1)) (fun x5=>(q04 Fn FnD m).cvI .i64 x5 k)=_
 rw [e1]
 show qfY (qhQ .shr false (.lit (.int .u64 ((i+j:Nat):Int))) (.lit (.int .u64 1))) (fun x5=>(q04 Fn FnD m).cvI .i64 x5 k)=_
 have e4:qhQ .shr false (.lit (.int .u64 ((i+j:Nat):Int))) (.lit (.int .u64 1))=some (.lit (.int .u64 (((i+j) / 2:Nat):Int))):=by
  simp only [qhQ,aBin]
  rw [if_neg (by decide),e2]
  rfl
 rw [e4]
 show k (.lit (.int .i64 (IntKind.i64.wrap (((i+j) / 2:Nat):Int))))=_
 rw [e3]
 rfl
end
theorem s187 (n:Nat) (x:Int):FN (n+1) 187 [il x]=some (0,[.d (bl false)]):=by rw [F187];simp [G187]
theorem s211 (n:Nat) (x:Int):FN (n+1) 211 [il x]=some (0,[.d (bl false)]):=by rw [F211];simp [G211]
theorem s210 (n:Nat) (x y:Int):FN (n+2) 210 [il x,il y]=some (0,[.d (bl (decide (x < y)))]):=by
 rw [F210];simp [G210,s187]
set_option maxRecDepth 20000 in
theorem l158 (n:Nat) (o:Option (List Int)) (x:Int) (hl:(o.getD []).length≤4611686018427387904) (hu:Up (o.getD [])) :
  q0p [q9U (RP (n+2))] M0 0 [.d (dI o),.d (il x),.d (il (o.getD []).length),.d (il 0),.d (il (o.getD []).length)]=some (0,[.d (dI o),.d (il x),.d (il (o.getD []).length),.d (il (lb x (o.getD []):Nat))]):=by
 have:=q2A (σ:=Nat×Nat) [q9U (RP (n+2))] (fun s=>(0,[.d (dI o),.d (il x),.d (il (o.getD []).length),.d (il s.1),.d (il s.2)])) (fun s=>s.2 - s.1) (fun s=>s.1≤lb x (o.getD [])∧lb x (o.getD [])≤s.2∧s.2≤(o.getD []).length)
  (fun _=>some (0,[.d (dI o),.d (il x),.d (il (o.getD []).length),.d (il (lb x (o.getD []):Nat))])) ?_ M0 (0,(o.getD []).length) ⟨Nat.zero_le _,q7o _ _,Nat.le_refl _⟩ (by have:=q2J hl;unfold M0;simp only;omega)
 ·exact this
 ·rintro ⟨i,j⟩ k ⟨h1,h2,h3⟩ ih
  simp only at h1 h2 h3 ih ⊢
  refine ⟨q9U (RP (n+2)),rfl,?_⟩
  simp only [q9U,q03,q08,q0n,q00,q0o]
  by_cases hij:i < j
  ·rw [if_pos (by simp;omega),q0l (by omega) (by omega),r_mid i j (by omega)]
   have hh:(i+j) / 2 < (o.getD []).length:=by omega
   have hc:(o.getD [])[(i+j) / 2]?=some ((o.getD [])[(i+j) / 2]'hh):=List.getElem?_eq_getElem hh
   rw [q5s hc]
   simp only [rI,q0c,q0a,s210,q01,q03,q00,decide_eq_true_eq,q05,q0o]
   by_cases hx:(o.getD [])[(i+j) / 2]'hh < x
   ·rw [if_pos hx]
    have hlb:(i+j) / 2 < lb x (o.getD []):=by
     refine Nat.lt_of_not_le fun hle=>?_
     have:=qiF x hu hle hc
     omega
    rw [show IntKind.i64.wrap ((((i+j) / 2:Nat):Int)+1)=(((i+j) / 2+1:Nat):Int) by rw [q0l (by omega) (by omega)];simp]
    exact ih ((i+j) / 2+1,j) ⟨hlb,h2,h3⟩ (by simp only;omega)
   ·rw [if_neg hx]
    have hlb:lb x (o.getD [])≤(i+j) / 2:=by
     refine Nat.le_of_not_lt fun hlt=>?_
     have:=qiE x hlt hc
     omega
    exact ih (i,(i+j) / 2) ⟨h1,hlb,by omega⟩ (by simp only;omega)
  ·rw [if_neg (by simp;omega),q0e]
   rw [show i=lb x (o.getD []) by omega]
theorem s158 (n:Nat) (o:Option (List Int)) (x:Int) (hl:(o.getD []).length≤4611686018427387904) (hu:Up (o.getD [])):FN (n+3) 158 [dI o,il x]=some (0,[.d (il (lb x (o.getD []):Nat)),.d (bl (decide ((o.getD [])[lb x (o.getD [])]?=some x)))]):=by
 rw [F158]
 simp only [G158,q5K,q05,q0q,l158 n o x hl hu,q01,q03,q08,q0n,q00,decide_eq_true_eq]
 by_cases h:lb x (o.getD []) < (o.getD []).length
 ·have hc:(o.getD [])[lb x (o.getD [])]?=some ((o.getD [])[lb x (o.getD [])]'h):=List.getElem?_eq_getElem h
  rw [if_pos (by omega),q5s hc]
  simp only [rI,q0c,q0S,q00,decide_eq_true_eq,q15,q0e]
  rw [hc]
  by_cases he:(o.getD [])[lb x (o.getD [])]'h=x
  ·simp [he]
  ·rw [if_neg he,q5s hc]
   simp [rI,s211,he]
 ·have hn:(o.getD [])[lb x (o.getD [])]?=none:=List.getElem?_eq_none (by omega)
  rw [if_neg (by omega),hn]
  simp
end Go.VE
namespace Go.VE
open Go.RowKit Go.Proofs
section
variable {Fn:Nat→List D→Out} {FnD:D→List Sh→List D→Out} {m:Nat}
theorem qfS (z:Nat) (rows new:Rr) (k:Rr→Out) (h:z≤rows.length):(q04 Fn FnD m).ins (il z) rows new k=k (rows.take z++new++rows.drop z):=by
 show (if 0≤(z:Int)∧(z:Int).toNat≤rows.length then k (rows.take (z:Int).toNat++new++rows.drop (z:Int).toNat) else none)=_
 rw [Int.toNat_natCast,if_pos ⟨by omega,h⟩]
end
theorem q31 (x:Int):∀ l:List Int,(ins x l).length≤l.length+1
 | []=>by simp [ins]
 | y::r=>by
  simp only [ins]
  split
  ·simp
  ·split
   ·simp
   ·have:=q31 x r;simp;omega
set_option maxRecDepth 20000 in
theorem q10 (n:Nat) (l:List Int) (x:Int) (hl:l.length≤1000000000000) (hu:Up l):FN (n+4) 1000075 [.sl 1 (l.map rI),il x]=some (0,[.d (.sl 1 ((ins x l).map rI))]):=by
 rw [qh1]
 have hb:=s158 n (some l) x (by simp;omega) hu
 simp only [dI,Option.map_some,dSl,Option.getD_some] at hb
 have hlen:(l.map rI).take (l.map rI).length=l.map rI:=List.take_length
 simp only [q8K,q0H,q0Q,q0T,if_true,q0M,q1k,hlen,q0a,hb,q01,q03,q08,q2Y,List.all_cons,List.all_nil,qft,yl_b,Bool.and_self,q00,decide_eq_true_eq,q0e]
 rw [qhF x hu]
 by_cases h:l[lb x l]?=some x
 ·rw [if_pos h,if_pos h]
 ·rw [if_neg h,if_neg h]
  have hle:lb x l≤(l.map rI).length:=by rw [List.length_map];exact q7o x l
  have h1:(l.map rI).length=l.length:=List.length_map _
  simp only [q1i,q0K,List.length_cons,List.length_nil,List.take_succ_cons,List.take_zero,q1O,q19,q1Q]
  simp only [if_true]
  rw [qfS _ _ _ _ hle]
  have h2:((l.map rI).take (lb x l)++[[il x]]++(l.map rI).drop (lb x l))=(l.take (lb x l)++x::l.drop (lb x l)).map rI:=by
   simp [rI,List.map_take,List.map_drop]
  have h3:(l.map rI).length+(0+1)=((l.take (lb x l)++x::l.drop (lb x l)).map rI).length:=by
   have:=q7o x l
   simp;omega
  rw [h2]
  simp only [h3,if_true]
  rw [if_pos (by rw [←h3,h1];omega)]
theorem qg1 (x:Int) (n:Nat):FN (n+3) 158 [.lit (.slice none 0 0),il x]=some (0,[.d (il (0:Int)),.d (bl false)]):=by
 have:=s158 n none x (by simp) (by simp)
 simpa [dI,dSl,lb] using this
end Go.VE
