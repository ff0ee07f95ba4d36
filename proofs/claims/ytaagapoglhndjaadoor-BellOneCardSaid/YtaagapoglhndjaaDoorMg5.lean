/- Bell: a book that is written anew says what it said. -/
import Derived.Test.YtaagapoglhndjaaDoorMg4
namespace Go.VE
open Go.RowKit Go.Proofs
section
theorem q6x {me:Int} {e:Brd} {f:Fld}:∀ (l:List Nat) (g:Fld),l.Nodup→(∀ o∈l,o < 6∧q3h e.2 (o:Int)=true∧(o:Int)≠me∧0 < f.no o∧g.no o=0)→g.opn=false →
  q0x me e g (l.map (q8G e.1 f))=({ g with no:=fun o=>if o∈l then f.no o else g.no o,af:=fun o=>if o∈l then true else g.af o },true)
 | [],g,_,_,_=>by simp [q0x]
 | o::r,g,hn,hg,ho=>by
  simp only [List.nodup_cons] at hn
  obtain ⟨h6,hP,hme,hp,hz⟩:=hg o (by simp)
  have hst:q0N me e.2 g (q8G e.1 f o)=some { g with no:=upN g.no o (f.no o),af:=upN g.af o true }:=by
   simp [q0N,q8G,hme,hP,ho,hz]
   omega
  rw [List.map_cons,q13 rfl hst,q6x r { g with no:=upN g.no o (f.no o),af:=upN g.af o true } hn.2 (fun q hq=>?_) ho]
  ·refine Prod.ext ?_ rfl
   simp only [Fld.mk.injEq,and_true]
   constructor
   ·funext q
    by_cases hq:q=o
    ·subst hq;simp [upN,hn.1]
    ·have:¬ o=q:=fun h=>hq h.symm
     simp [upN,hq,this]
   ·funext q
    by_cases hq:q=o
    ·subst hq;simp [upN,hn.1]
    ·have:¬ o=q:=fun h=>hq h.symm
     simp [upN,hq,this]
  ·obtain ⟨q1,q2,q3,q4,q5⟩:=hg q (by simp [hq])
   refine ⟨q1,q2,q3,q4,?_⟩
   simp only [upN]
   rw [if_neg (fun h:o=q=>hn.1 (by rw [h];exact hq)),q5]
theorem qcp {me:Int} {e:Brd} {f:Fld}:∀ (l:List Nat) (g:Fld),l.Nodup→(∀ o∈l,o < 6∧q3h e.2 (o:Int)=true∧(o:Int)≠me∧0 < f.ask o∧g.ask o=0) →
  q0x me e g (l.map (qda e.1 f))=({ g with ask:=fun o=>if o∈l then f.ask o else g.ask o },true)
 | [],g,_,_=>by simp [q0x]
 | o::r,g,hn,hg=>by
  simp only [List.nodup_cons] at hn
  obtain ⟨h6,hP,hme,hp,hz⟩:=hg o (by simp)
  have hst:q0N me e.2 g (qda e.1 f o)=some { g with ask:=upN g.ask o (f.ask o) }:=by
   simp [q0N,qda,hme,hP,hz]
   omega
  rw [List.map_cons,q13 rfl hst,qcp r { g with ask:=upN g.ask o (f.ask o) } hn.2 (fun q hq=>?_)]
  ·refine Prod.ext ?_ rfl
   simp only [Fld.mk.injEq,true_and,and_true]
   funext q
   by_cases hq:q=o
   ·subst hq;simp [upN,hn.1]
   ·have:¬ o=q:=fun h=>hq h.symm
    simp [upN,hq,this]
  ·obtain ⟨q1,q2,q3,q4,q5⟩:=hg q (by simp [hq])
   refine ⟨q1,q2,q3,q4,?_⟩
   simp only [upN]
   rw [if_neg (fun h:o=q=>hn.1 (by rw [h];exact hq)),q5]
theorem qhi {me P:Int} {f g:Fld} {s:Stk} (h:q0N me P f s=some g) (hf:∀ o:Nat,(f.no o≠0∨f.ask o≠0)→(o:Int)≠me):∀ o:Nat,(g.no o≠0∨g.ask o≠0)→(o:Int)≠me:=by
 unfold q0N at h
 repeat' split at h
 all_goals first
  | (cases h;done)
  | (simp only [Option.some.injEq] at h;subst h;exact hf)
  | skip
 ·rename_i hc
  simp only [Option.some.injEq] at h
  subst h
  intro o ho
  simp only [Bool.or_eq_true,decide_eq_true_eq,not_or,Bool.not_eq_true'] at hc
  have:=q16.1 (q3r (by simpa using hc.1.1.2))
  simp only [upN] at ho
  by_cases he:s.2.2.1.toNat=o
  ·have:=hc.1.1.1;omega
  ·rw [if_neg he] at ho;exact hf o ho
 ·rename_i hc
  simp only [Option.some.injEq] at h
  subst h
  intro o ho
  simp only [Bool.or_eq_true,decide_eq_true_eq,not_or,Bool.not_eq_true'] at hc
  have:=q16.1 (q3r (by simpa using hc.1.2))
  simp only [upN] at ho
  by_cases he:s.2.2.1.toNat=o
  ·have:=hc.1.1;omega
  ·rw [if_neg he] at ho;exact hf o ho
theorem q6J {me:Int} {e:Brd}:∀ {l:List Stk} {f:Fld},(∀ o:Nat,(f.no o≠0∨f.ask o≠0)→(o:Int)≠me)→∀ o:Nat,((q0x me e f l).1.no o≠0∨(q0x me e f l).1.ask o≠0)→(o:Int)≠me
 | [],_,hf=>hf
 | s::r,f,hf=>by
  rw [q0x]
  split
  ·cases hs:q0N me e.2 f s with
   | none=>exact hf
   | some g=>exact q6J (qhi hs hf)
  ·exact q6J hf
structure FldOK (me:Int) (e:Brd) (f:Fld):Prop where
 rng:qdL f
 no:∀ o:Nat,f.no o≠0→o < 6∧q3h e.2 (o:Int)=true∧(o:Int)≠me
 ask:∀ o:Nat,f.ask o≠0→o < 6∧q3h e.2 (o:Int)=true∧(o:Int)≠me
 all:f.opn=true→q3x me e.2 f=[]
theorem bit6 {P:Int} (h:six P) {o:Nat} (hb:P.toNat.testBit o=true):o < 6:=by
 rcases Nat.lt_or_ge o 6 with h6 | h6
 ·exact h6
 ·have h1:=Nat.ge_two_pow_of_testBit hb
  have h2:2 ^ 6≤2 ^ o:=Nat.pow_le_pow_right (by omega) h6
  unfold six at h
  omega
theorem qgw {me h:Int} {bs:List Brd} {ss:List Stk} (h1:okP me bs ss h=true) {e:Brd} (he:e∈bs):FldOK me e (rf me e ss) where
 rng:=qdO h1 he
 no:=fun o ho=>by
  have hb:=q6I me e ss fd0 (by simp [fd0]) o ho
  have h6:=bit6 (q2O h1 e he) hb
  exact ⟨h6,qb1 h6 hb,q6J (by simp [fd0]) o (.inl ho)⟩
 ask:=fun o ho=>by
  have hb:=q5C me e ss fd0 (by simp [fd0]) o ho
  have h6:=bit6 (q2O h1 e he) hb
  exact ⟨h6,qb1 h6 hb,q6J (by simp [fd0]) o (.inr ho)⟩
 all:=q7i (by simp [fd0])
def renF (me:Int) (f:Fld):Fld:={ f with af:=fun o=>decide (o∈(rg 0).filter (q1c me f))||(decide (f.wants=0)&&decide (o∈(rg 0).filter (q0X me f))) }
theorem q9Q {o:Nat}:o∈rg 0↔o < 6:=by simp [rg,List.mem_range']
theorem qfy {me:Int} {e:Brd} {f:Fld} (hf:FldOK me e f):q0x me e fd0 (q7B me e.1 f)=(renF me f,true):=by
 have hn:(rg 0).Nodup:=List.nodup_range' ..
 have hd:∀ o∈(rg 0).filter (q0X me f),o < 6∧q3h e.2 (o:Int)=true∧(o:Int)≠me∧0 < f.no o∧fd0.no o=0:=fun o ho=>by
  obtain ⟨_,h2⟩:=List.mem_filter.1 ho
  simp only [q0X,Bool.and_eq_true,decide_eq_true_eq] at h2
  obtain ⟨a,b,c⟩:=hf.no o h2.2.1
  have:=(hf.rng.2 o).1
  exact ⟨a,b,c,by omega,rfl⟩
 have hc:∀ o∈(rg 0).filter (q1c me f),o < 6∧q3h e.2 (o:Int)=true∧(o:Int)≠me∧0 < f.no o∧o∉(rg 0).filter (q0X me f):=fun o ho=>by
  obtain ⟨_,h2⟩:=List.mem_filter.1 ho
  simp only [q1c,Bool.and_eq_true,decide_eq_true_eq] at h2
  obtain ⟨a,b,c⟩:=hf.no o h2.2.1
  have:=(hf.rng.2 o).1
  refine ⟨a,b,c,by omega,fun hm=>?_⟩
  have:=(List.mem_filter.1 hm).2
  simp only [q0X,Bool.and_eq_true,h2.2.2] at this
  simp at this
 have ha:∀ o∈(rg 0).filter (q1Q me f),o < 6∧q3h e.2 (o:Int)=true∧(o:Int)≠me∧0 < f.ask o:=fun o ho=>by
  obtain ⟨_,h2⟩:=List.mem_filter.1 ho
  simp only [q1Q,Bool.and_eq_true,decide_eq_true_eq] at h2
  obtain ⟨a,b,c⟩:=hf.ask o h2.2
  have:=(hf.rng.2 o).2
  exact ⟨a,b,c,by omega⟩
 have hcov:∀ o:Nat,f.no o≠0→o∈(rg 0).filter (q0X me f)∨o∈(rg 0).filter (q1c me f):=fun o ho=>by
  obtain ⟨a,_,c⟩:=hf.no o ho
  simp only [List.mem_filter,q9Q,a,q0X,q1c,c,ho,ne_eq,not_false_eq_true,decide_true,decide_false,Bool.not_false,Bool.true_and,true_and]
  cases q4e me o f<;>simp
 have haov:∀ o:Nat,f.ask o≠0→o∈(rg 0).filter (q1Q me f):=fun o ho=>by
  obtain ⟨a,_,c⟩:=hf.ask o ho
  simp [q9Q,a,q1Q,c,ho]
 unfold q7B q1u q2p q2W
 rw [q1U (by rw [q6x _ _ (hn.filter _) hd rfl])]
 rw [q6x _ _ (hn.filter _) hd rfl]
 have hw0:=hf.rng.1
 have wr:∀ g:Fld,g.wants=0→q0x me e g (if f.wants≠0 then [(2,e.1,0,f.wants)] else [])=((if f.wants≠0 then { g with wants:=f.wants,af:=fun _=>false } else g),true):=fun g hg=>by
  by_cases h0:f.wants=0
  ·simp [h0,q0x]
  ·rw [if_pos h0,if_pos h0,q13 (g:={ g with wants:=f.wants,af:=fun _=>false }) rfl]
   ·rfl
   ·simp [q0N,hg]
    omega
 rw [q1U (by rw [wr _ rfl]),wr _ rfl]
 generalize hg1:(if f.wants≠0 then ({ ({ fd0 with no:=fun o=>if o∈(rg 0).filter (q0X me f) then f.no o else fd0.no o,af:=fun o=>if o∈(rg 0).filter (q0X me f) then true else fd0.af o }:Fld) with wants:=f.wants,af:=fun _=>false }:Fld) else { fd0 with no:=fun o=>if o∈(rg 0).filter (q0X me f) then f.no o else fd0.no o,af:=fun o=>if o∈(rg 0).filter (q0X me f) then true else fd0.af o })=g1
 have g1n:∀ o,g1.no o=if o∈(rg 0).filter (q0X me f) then f.no o else 0:=fun o=>by rw [←hg1];split<;>rfl
 have g1a:∀ o,g1.ask o=0:=fun o=>by rw [←hg1];split<;>rfl
 have g1o:g1.opn=false:=by rw [←hg1];split<;>rfl
 have g1w:g1.wants=f.wants:=by
  rw [←hg1]
  split
  ·rfl
  ·rename_i h;simpa [fd0] using (by simpa using h:f.wants=0).symm
 have g1f:∀ o,g1.af o=(decide (f.wants=0)&&decide (o∈(rg 0).filter (q0X me f))):=fun o=>by
  rw [←hg1]
  by_cases h0:f.wants=0
  ·by_cases hm:o∈(rg 0).filter (q0X me f)<;>simp [h0,hm,fd0]<;>simpa using hm
  ·simp [h0]
 have hcr:=q6x (me:=me) (e:=e) (f:=f) _ g1 (hn.filter (q1c me f)) (fun o ho=>by
  obtain ⟨a,b,c,d,e'⟩:=hc o ho
  exact ⟨a,b,c,d,by rw [g1n,if_neg e']⟩) g1o
 rw [q1U (by rw [hcr]),hcr]
 have har:=qcp (me:=me) (e:=e) (f:=f) _ { g1 with no:=fun o=>if o∈(rg 0).filter (q1c me f) then f.no o else g1.no o,af:=fun o=>if o∈(rg 0).filter (q1c me f) then true else g1.af o } (hn.filter (q1Q me f)) (fun o ho=>by
  obtain ⟨a,b,c,d⟩:=ha o ho
  exact ⟨a,b,c,d,g1a o⟩)
 rw [q1U (by rw [har]),har]
 have eno:(fun o=>if o∈(rg 0).filter (q1c me f) then f.no o else g1.no o)=f.no:=by
  funext o
  rw [g1n]
  by_cases h1:o∈(rg 0).filter (q1c me f)
  ·rw [if_pos h1]
  ·rw [if_neg h1]
   by_cases h2:o∈(rg 0).filter (q0X me f)
   ·rw [if_pos h2]
   ·rw [if_neg h2]
    by_cases h0:f.no o=0
    ·exact h0.symm
    ·rcases hcov o h0 with h | h
     ·exact absurd h h2
     ·exact absurd h h1
 have eas:(fun o=>if o∈(rg 0).filter (q1Q me f) then f.ask o else g1.ask o)=f.ask:=by
  funext o
  rw [g1a]
  by_cases h1:o∈(rg 0).filter (q1Q me f)
  ·rw [if_pos h1]
  ·rw [if_neg h1]
   by_cases h0:f.ask o=0
   ·exact h0.symm
   ·exact absurd (haov o h0) h1
 have eaf:(fun o=>if o∈(rg 0).filter (q1c me f) then true else g1.af o)=(renF me f).af:=by
  funext o
  rw [g1f]
  by_cases h1:o∈(rg 0).filter (q1c me f)
  ·simp only [if_pos h1,renF,decide_eq_true h1,Bool.true_or]
  ·simp only [if_neg h1,renF,decide_eq_false h1,Bool.false_or]
 simp only [eno,eas,eaf,g1w,g1o]
 by_cases ho:f.opn=true
 ·rw [if_pos ho,q13 (g:=renF me f) rfl]
  ·rfl
  ·have hm:=hf.all ho
   have e2:∀ af:Nat→Bool,q3x me e.2 ⟨f.no,af,f.ask,f.wants,false⟩=[]:=fun _=>hm
   simp [q0N,e2,renF,ho]
 ·rw [if_neg ho]
  have ho':f.opn=false:=by simpa using ho
  simp [q0x,renF,ho']
end
section
theorem q7A {me fld:Int} {f:Fld} {s:Stk} (h:s∈q7B me fld f):(∃ o,(q0X me f o=true∨q1c me f o=true)∧o < 6∧s=q8G fld f o)∨(f.wants≠0∧s=(2,fld,0,f.wants))∨(∃ o,q1Q me f o=true∧o < 6∧s=qda fld f o)∨(s=(4,fld,0,1)):=by
 unfold q7B q1u q2p q2W at h
 simp only [List.mem_append] at h
 rcases h with h | h | h | h | h
 ·obtain ⟨o,ho,rfl⟩:=List.mem_map.1 h
  obtain ⟨h1,h2⟩:=List.mem_filter.1 ho
  exact .inl ⟨o,.inl h2,q9Q.1 h1,rfl⟩
 ·split at h
  ·rename_i hw
   simp only [List.mem_singleton] at h
   exact .inr (.inl ⟨hw,h⟩)
  ·cases h
 ·obtain ⟨o,ho,rfl⟩:=List.mem_map.1 h
  obtain ⟨h1,h2⟩:=List.mem_filter.1 ho
  exact .inl ⟨o,.inr h2,q9Q.1 h1,rfl⟩
 ·obtain ⟨o,ho,rfl⟩:=List.mem_map.1 h
  obtain ⟨h1,h2⟩:=List.mem_filter.1 ho
  exact .inr (.inr (.inl ⟨o,h2,q9Q.1 h1,rfl⟩))
 ·split at h
  ·simp only [List.mem_singleton] at h
   exact .inr (.inr (.inr h))
  ·cases h
theorem qam {me fld:Int} {f:Fld} {s:Stk} (h:s∈q7B me fld f):s.2.1=fld:=by
 rcases q7A h with ⟨o,_,_,rfl⟩ | ⟨_,rfl⟩ | ⟨o,_,_,rfl⟩ | rfl<;>rfl
theorem qhM {me:Int} {e:Brd} {f:Fld} (hf:FldOK me e f) (hfl:inn e.1 1 99=true) {s:Stk} (h:s∈q7B me e.1 f):okS s=true:=by
 have hw:=hf.rng.1
 have hp:∀ o:Nat,o < 6→par (o:Int)=true:=fun o ho=>q16.2 (by omega)
 rcases q7A h with ⟨o,ho,h6,rfl⟩ | ⟨h0,rfl⟩ | ⟨o,ho,h6,rfl⟩ | rfl
 ·have hn:f.no o≠0:=by
   rcases ho with ho | ho
   ·simp only [q0X,Bool.and_eq_true,decide_eq_true_eq] at ho;exact ho.2.1
   ·simp only [q1c,Bool.and_eq_true,decide_eq_true_eq] at ho;exact ho.2.1
  have:=(hf.rng.2 o).1
  simp only [q8G,okS,hfl,hp o h6,Bool.true_and,true_or,if_true]
  simp [inn]
  omega
 ·simp only [okS,hfl,Bool.true_and]
  simp [inn]
  omega
 ·have hn:f.ask o≠0:=by simp only [q1Q,Bool.and_eq_true,decide_eq_true_eq] at ho;exact ho.2
  have:=(hf.rng.2 o).2
  simp only [qda,okS,hfl,hp o h6,Bool.true_and,or_true,if_true]
  simp [inn]
  omega
 ·simp only [okS,hfl,Bool.true_and]
  simp [inn]
theorem qbE {me h:Int} {bs:List Brd} {ss:List Stk} (h1:okP me bs ss h=true) {e:Brd} (he:e∈bs):q0x me e fd0 (q5S me bs ss)=(renF me (rf me e ss),true):=by
 unfold q5S
 rw [q47 (key:=fun e:Brd=>e.1) (fun x s hs=>qam hs) (qdM (q12 h1)) he rfl]
 exact qfy (qgw h1 he)
theorem rec_ok {me h:Int} {bs:List Brd} {ss:List Stk} (h1:okP me bs ss h=true):okP me bs (q5S me bs ss) (q5S me bs ss).length=true:=by
 obtain ⟨a1,a2,_,_,_,_⟩:=q3w.1 h1
 have h4:=q8b h1
 have hl:=qbF (me:=me) (ss:=ss) bs
 refine q3w.2 ⟨a1,a2,by omega,⟨by omega,by omega⟩,fun s hs=>?_,fun e he=>?_⟩
 ·obtain ⟨e,he,hs⟩:=List.mem_flatMap.1 hs
  obtain ⟨b1,j,b2,_⟩:=qbV h1 he
  exact q8T (qhM (qgw h1 he) b1 hs) (by rw [qam hs];exact b2)
 ·unfold rk
  rw [qbE h1 he]
theorem qiT {me h:Int} {bs:List Brd} {ss:List Stk} (_:okP me bs ss h=true) {s:Stk} (hs:s∈q5S me bs ss) (h1s:s.1=1):s∈ss:=by
 obtain ⟨e,he,hs⟩:=List.mem_flatMap.1 hs
 rcases q7A hs with ⟨o,ho,_,rfl⟩ | ⟨_,rfl⟩ | ⟨o,_,_,rfl⟩ | rfl
 ·have hn:(q0x me e fd0 ss).1.no o≠0:=by
   rcases ho with ho | ho
   ·simp only [q0X,Bool.and_eq_true,decide_eq_true_eq] at ho;exact ho.2.1
   ·simp only [q1c,Bool.and_eq_true,decide_eq_true_eq] at ho;exact ho.2.1
  exact q4y (f:=fd0) (by simpa [fd0] using hn)
 ·simp at h1s
 ·simp [qda] at h1s
 ·simp at h1s
theorem qdx {me h:Int} {bs:List Brd} {ss:List Stk} (h1:okP me bs ss h=true) {n:Nat} (h2:h≤n):okP me bs (ss.take n) h=true:=by
 obtain ⟨a1,a2,a3,a4,a5,a6⟩:=q3w.1 h1
 refine q3w.2 ⟨a1,a2,by rw [List.length_take];omega,⟨a4.1,by rw [List.length_take];omega⟩,fun s hs=>a5 s (List.mem_of_mem_take hs),fun e he=>?_⟩
 have:=a6 e he
 unfold rk at this ⊢
 rw [←List.take_append_drop n ss] at this
 exact q5B this
theorem qjL {me h:Int} {bs:List Brd} {ss:List Stk} (h1:okP me bs ss h=true):okP me bs ss ss.length=true:=by
 obtain ⟨a1,a2,a3,a4,a5,a6⟩:=q3w.1 h1
 exact q3w.2 ⟨a1,a2,a3,⟨by omega,by omega⟩,a5,a6⟩
theorem q8H {me h:Int} {bs:List Brd} {ss:List Stk} (h1:okP me bs ss h=true) {e:Brd} (he:e∈bs) (n o:Nat):(rf me e (ss.take n)).no o≤(rf me e ss).no o:=by
 have h6:=(q3w.1 h1).2.2.2.2.2 e he
 unfold rk at h6
 have h7:=h6
 rw [←List.take_append_drop n ss] at h7
 have h8:=q1U (l2:=ss.drop n) (q5B h7)
 rw [List.take_append_drop] at h8
 unfold rf
 rw [h8]
 exact q5A o
end
section
set_option maxRecDepth 100000
abbrev W4:=Int×Option (List Brd)×Option (List Stk)×Int
def rWt (w:W4):List D:=[il w.1,dB w.2.1,dS w.2.2.1,il w.2.2.2]
def rI (x:Int):List D:=[il x]
abbrev dW (o:Option (List W4)):D:=dL 4 rWt o
def okWt (w:W4):Bool:=okP w.1 (w.2.1.getD []) (w.2.2.1.getD []) w.2.2.2
def qdF (w:W4):Prop:=(w.2.1.getD []).length≤4611686018427387904∧(w.2.2.1.getD []).length≤4611686018427387904
def chk:Option Int→List W4→Bool
 | _,[]=>true
 | q,w::r=>okWt w&&(ltO q w.1&&chk (some w.1) r)
def qcJ (l:List W4):Nat→Option Int
 | 0=>none
 | i+1=>(l[i]?).map (·.1)
def opnW (fld:Int) (w:W4):Bool:=match bix fld (w.2.1.getD []) with
 | none=>false
 | some j=>(fl w.1 (w.2.1.getD []) (w.2.2.1.getD []) j).opn
def q7J (fld:Int) (l:List W4):List Int:=(l.filter (opnW fld)).map (·.1)
def whoR (l:List W4) (fld:Int):Out:=if chk none l=true then (if 6 < l.length then badN 98 else if inn fld 1 99=true then some (0,[.d (dL 1 rI (opN (q7J fld l))),.d (il 0)]) else badN 94) else badN 98
section
variable {Fn:Nat→List D→Out} {FnD:D→List Sh→List D→Out} {m:Nat}
theorem rowW {o:Option (List W4)} {i:Nat} {c:W4} (h:(o.getD [])[i]?=some c) (k:List D→Out):(q01 Fn FnD m).rowD 4 (dW o) (il i) k=k (rWt c):=qi4 h rfl k
theorem lenW (o:Option (List W4)) (k:D→Out):(q01 Fn FnD m).lenD (dW o) k=k (il (o.getD []).length):=q5c 4 rWt o k
theorem cW0 (w:W4):(q01 Fn FnD m).cell (rWt w) 0=il w.1:=rfl
theorem cW1 (w:W4):(q01 Fn FnD m).cell (rWt w) 1=dB w.2.1:=rfl
theorem cW2 (w:W4):(q01 Fn FnD m).cell (rWt w) 2=dS w.2.2.1:=rfl
theorem cW3 (w:W4):(q01 Fn FnD m).cell (rWt w) 3=il w.2.2.2:=rfl
end
theorem q5W {l:List W4} {i:Nat} {w:W4} (h:l[i]?=some w):qcJ l (i+1)=some w.1:=by simp [qcJ,h]
end
section
abbrev P3:=Int×Int×Option (List Tld)
def bk (k:Nat):List Brd:=([(3,63),(5,7),(8,42),(9,12)]:List Brd).filter fun b=>b.2.toNat.testBit k
def stk (w:W4):List Stk:=w.2.2.1.getD []
def bnd (w:W4):List Stk:=(stk w).take w.2.2.2.toNat
structure GoodW (ws:List W4) (ps:List P3):Prop where
 len:ws.length=6
 wat:∀ (k:Nat) w,ws[k]?=some w→w.1=(k:Int)∧w.2.1.getD []=bk k∧okP k (bk k) (stk w) w.2.2.2=true
 tal:∀ (k:Nat) w (a:Nat) v,ws[k]?=some w→ws[a]?=some v→∀ s∈stk w,s.1=1→s.2.2.1=(a:Int)→q0C k a s.2.2.2=true→∀ e∈bk a,e.1=s.2.1→s.2.2.2≤(rf a e (bnd v)).no k
 pl:∀ p∈ps,qcL p.1 p.2.1 (p.2.2.getD [])=true∧∀ t∈p.2.2.getD [],∀ (a b:Nat) v,p.1=(a:Int)→p.2.1=(b:Int)→ws[a]?=some v→∀ e∈bk a,e.1=t.1→t.2.1≤(rf a e (bnd v)).no b
theorem qb5 {α:Type} {l:List α} {i j:Nat} {x y:α} (h:(l.set i x)[j]?=some y):(j=i∧y=x∧i < l.length)∨(j≠i∧l[j]?=some y):=by
 rw [List.getElem?_set] at h
 split at h
 ·rename_i e
  split at h
  ·rename_i hl
   cases h
   exact .inl ⟨e.symm,rfl,hl⟩
  ·cases h
 ·rename_i e
  exact .inr ⟨fun h=>e h.symm,h⟩
theorem GoodW.chg {ws:List W4} {ps:List P3} (hG:GoodW ws ps) {k:Nat} {w w':W4} (hw:ws[k]?=some w) (h1:w'.1=(k:Int)) (h2:w'.2.1.getD []=bk k) (h3:okP k (bk k) (stk w') w'.2.2.2=true)
  (hup:∀ e∈bk k,∀ o,(rf k e (bnd w)).no o≤(rf k e (bnd w')).no o)
  (hs:∀ s∈stk w',s.1=1→q0C k s.2.2.1 s.2.2.2=true→s∈stk w∨∀ (a:Nat) v,ws[a]?=some v→s.2.2.1=(a:Int)→∀ e∈bk a,e.1=s.2.1→s.2.2.2≤(rf a e (bnd v)).no k):GoodW (ws.set k w') ps:=by
 have old:∀ {a:Nat} {v':W4},(ws.set k w')[a]?=some v'→∃ v,ws[a]?=some v∧∀ e∈bk a,∀ o,(rf a e (bnd v)).no o≤(rf a e (bnd v')).no o:=fun {a v'} h=>by
  rcases qb5 h with ⟨rfl,rfl,_⟩ | ⟨_,h⟩
  ·exact ⟨w,hw,hup⟩
  ·exact ⟨v',h,fun e _ o=>Int.le_refl _⟩
 refine ⟨by rw [List.length_set];exact hG.len,fun j v hj=>?_,fun j x a v' hj ha s hsm h1s hsa hwi e he hes=>?_,fun p hp=>⟨(hG.pl p hp).1,fun t ht a b v' ha hb hv e he het=>?_⟩⟩
 ·rcases qb5 hj with ⟨rfl,rfl,_⟩ | ⟨_,h⟩
  ·exact ⟨h1,h2,h3⟩
  ·exact hG.wat j v h
 ·obtain ⟨v,hv,hle⟩:=old ha
  refine Int.le_trans ?_ (hle e he j)
  rcases qb5 hj with ⟨rfl,rfl,_⟩ | ⟨_,h⟩
  ·rcases hs s hsm h1s (by rw [hsa];exact hwi) with h | h
   ·exact hG.tal j w a v hw hv s h h1s hsa hwi e he hes
   ·exact h a v hv hsa e he hes
  ·exact hG.tal j x a v h hv s hsm h1s hsa hwi e he hes
 ·obtain ⟨v,hv',hle⟩:=old hv
  exact Int.le_trans ((hG.pl p hp).2 t ht a b v ha hb hv' e he het) (hle e he b)
theorem GoodW.add {ws:List W4} {ps:List P3} (hG:GoodW ws ps) {p:P3} (h1:qcL p.1 p.2.1 (p.2.2.getD [])=true) (h2:∀ t∈p.2.2.getD [],∀ (a b:Nat) v,p.1=(a:Int)→p.2.1=(b:Int)→ws[a]?=some v→∀ e∈bk a,e.1=t.1→t.2.1≤(rf a e (bnd v)).no b):GoodW ws (ps++[p]):=by
 refine ⟨hG.len,hG.wat,hG.tal,fun q hq=>?_⟩
 rcases List.mem_append.1 hq with hq | hq
 ·exact hG.pl q hq
 ·simp only [List.mem_singleton] at hq
  subst hq
  exact ⟨h1,h2⟩
theorem GoodW.one {ws:List W4} {ps:List P3} (hG:GoodW ws ps) {a b:Nat} (hab:a≠b) {v w:W4} (hv:ws[a]?=some v) (hw:ws[b]?=some w) {e e':Brd} (he:e∈bk a) (he':e'∈bk b) (hee:e.1=e'.1)
  (h1:q0C a b ((rf a e (stk v)).no b)=true) (h2:q0C b a ((rf b e' (stk w)).no a)=true):False:=by
 obtain ⟨_,_,ov⟩:=hG.wat a v hv
 obtain ⟨_,_,ow⟩:=hG.wat b w hw
 have hx:(rf a e (stk v)).no b≤(rf b e' (stk w)).no a:=by
  by_cases h0:(rf a e (stk v)).no b=0
  ·rw [h0]
   exact q5A (f:=fd0) a
  ·have hm:=q4y (me:=a) (e:=e) (l:=stk v) (f:=fd0) (o:=b) (by simpa [fd0,rf] using h0)
   exact Int.le_trans (hG.tal a v b w hv hw _ hm rfl rfl h1 e' he' hee.symm) (q8H ow he' _ a)
 have hy:(rf b e' (stk w)).no a≤(rf a e (stk v)).no b:=by
  by_cases h0:(rf b e' (stk w)).no a=0
  ·rw [h0]
   exact q5A (f:=fd0) b
  ·have hm:=q4y (me:=b) (e:=e') (l:=stk w) (f:=fd0) (o:=a) (by simpa [fd0,rf] using h0)
   exact Int.le_trans (hG.tal b w a v hw hv _ hm rfl rfl h2 e he hee) (q8H ov he _ b)
 have hxy:(rf a e (stk v)).no b=(rf b e' (stk w)).no a:=by omega
 rw [hxy] at h1
 generalize (rf b e' (stk w)).no a=x at h1 h2
 unfold q0C at h1 h2
 by_cases hx:x % 2=0
 ·simp only [hx,decide_true,beq_true,decide_eq_true_eq] at h1 h2
  omega
 ·simp only [hx,decide_false,beq_false,Bool.not_eq_true',decide_eq_false_iff_not] at h1 h2
  omega
theorem bk_all {k j:Nat} {e e':Brd} (he:e∈bk k) (he':e'∈bk j) (h:e.1=e'.1):e=e'∧e.2.toNat.testBit k=true∧e.2.toNat.testBit j=true:=by
 unfold bk at he he'
 obtain ⟨h1,h2⟩:=List.mem_filter.1 he
 obtain ⟨h3,h4⟩:=List.mem_filter.1 he'
 have:e=e':=by
  simp only [List.mem_cons,List.not_mem_nil,or_false] at h1 h3
  rcases h1 with rfl | rfl | rfl | rfl<;>rcases h3 with rfl | rfl | rfl | rfl<;>first | rfl | (simp at h)
 subst this
 exact ⟨rfl,h2,h4⟩
theorem GoodW.open1 {ws:List W4} {ps:List P3} (hG:GoodW ws ps) {a b:Nat} (hab:a≠b) {v w:W4} (hv:ws[a]?=some v) (hw:ws[b]?=some w) {e e':Brd} (he:e∈bk a) (he':e'∈bk b) (hee:e.1=e'.1)
  (h1:(rf a e (stk v)).opn=true) (h2:(rf b e' (stk w)).opn=true):False:=by
 obtain ⟨_,_,ov⟩:=hG.wat a v hv
 obtain ⟨_,_,ow⟩:=hG.wat b w hw
 obtain ⟨rfl,ta,tb⟩:=bk_all he he' hee
 have key:∀ {x y:Nat} {f:Fld},y < 6→x≠y→e.2.toNat.testBit y=true→q3x x e.2 f=[]→q0C x y (f.no y)=true:=fun {x y f} h6 hxy hb hm=>by
  have hy:y∈oth x e.2:=by
   unfold oth
   refine List.mem_filter.2 ⟨List.mem_range.2 h6,?_⟩
   rw [hb]
   have:¬ (y:Int)=(x:Int):=by omega
   simp [this]
  cases hwi:q0C x y (f.no y) with
  | true=>rfl
  | false =>
   have:y∈q3x x e.2 f:=List.mem_filter.2 ⟨hy,by simp [hwi]⟩
   rw [hm] at this
   cases this
 have la:a < 6:=by rw [←hG.len];exact (List.getElem?_eq_some_iff.1 hv).1
 have lb:b < 6:=by rw [←hG.len];exact (List.getElem?_eq_some_iff.1 hw).1
 exact hG.one hab hv hw he he' rfl (key lb hab tb ((qgw ov he).all h1)) (key la (Ne.symm hab) ta ((qgw ow he').all h2))
end
section
def Ans (ws:List W4) (ps:List P3) (k:Nat) (E:Int→Prop) (X:Out):Prop:=∃ m b s h e,X=some (0,[.d (il m),.d (dB b),.d (dS s),.d (il h),.d (il e)])∧((e=0∧GoodW (ws.set k (m,b,s,h)) ps)∨(e≠0∧E e))
section
variable {ws:List W4} {ps:List P3} (hG:GoodW ws ps) {k:Nat} {w:W4} (hw:ws[k]?=some w)
include hG hw
theorem qhJ {L:List Stk} (h1:okP k (bk k) (stk w++L) w.2.2.2=true) (hs:∀ s∈L,s.1=1→q0C k s.2.2.1 s.2.2.2=true→∀ (a:Nat) v,ws[a]?=some v→s.2.2.1=(a:Int)→∀ e∈bk a,e.1=s.2.1→s.2.2.2≤(rf a e (bnd v)).no k):GoodW (ws.set k (w.1,w.2.1,some (stk w++L),w.2.2.2)) ps:=by
 obtain ⟨a1,a2,a3⟩:=hG.wat k w hw
 have hh:=qgQ a3
 refine hG.chg hw a1 a2 h1 (fun e _ o=>?_) fun s hm h1s hwi=>?_
 ·have:bnd (w.1,w.2.1,some (stk w++L),w.2.2.2)=bnd w:=by
   show ((stk w++L).take w.2.2.2.toNat)=(stk w).take w.2.2.2.toNat
   rw [List.take_append_of_le_length (by omega)]
  rw [this]
  exact Int.le_refl _
 ·rcases List.mem_append.1 (show s∈stk w++L from hm) with hm | hm
  ·exact .inl hm
  ·exact .inr (hs s hm h1s hwi)
theorem q7n {q:Wrt} {E:Int→Prop} (h0:q.1=0→(stk w).length+q.2.length≤120→okP k (bk k) (stk w++q.2) w.2.2.2=true∧∀ s∈q.2,s.1=1→q0C k s.2.2.1 s.2.2.2=true→∀ (a:Nat) v,ws[a]?=some v→s.2.2.1=(a:Int)→∀ e∈bk a,e.1=s.2.1→s.2.2.2≤(rf a e (bnd v)).no k) (h2:E 2) (h3:q.1≠0→E q.1):Ans ws ps k E (q6q w.1 w.2.2.2 w.2.1 (stk w) q):=by
 unfold q6q
 split
 ·rename_i hq
  split
  ·exact ⟨0,none,none,0,2,rfl,.inr ⟨by decide,h2⟩⟩
  ·rename_i hl
   obtain ⟨a,b⟩:=h0 hq (by omega)
   exact ⟨w.1,w.2.1,some (stk w++q.2),w.2.2.2,0,rfl,.inl ⟨rfl,qhJ hG hw a b⟩⟩
 ·rename_i hq
  exact ⟨0,none,none,0,q.1,rfl,.inr ⟨hq,h3 hq⟩⟩
theorem wOK:okP w.1 (w.2.1.getD []) (stk w) w.2.2.2=true:=by
 obtain ⟨a1,a2,a3⟩:=hG.wat k w hw
 rw [a1,a2];exact a3
theorem qbu {fld:Int} {j:Nat} (hx:bix fld (bk k)=some j):Ans ws ps k (fun e=>e=2∨e=95) (ofR w.1 (w.2.1.getD []) (stk w) w.2.2.2 fld noW fun j=>q6q w.1 w.2.2.2 w.2.1 (stk w) (q6M fld (fl w.1 (w.2.1.getD []) (stk w) j))):=by
 obtain ⟨a1,a2,a3⟩:=hG.wat k w hw
 unfold ofR
 rw [if_pos (wOK hG hw),a2,hx]
 refine q7n hG hw (fun hq hl=>?_) (.inl rfl) fun hq=>?_
 ·have:=qiI a3 hx (by rw [←a1];exact hq) (by rw [←a1];exact hl)
  rw [←a1] at this ⊢
  exact ⟨this.1,fun s hs h1=>absurd h1 (this.2 s hs)⟩
 ·revert hq
  unfold q6M
  split
  ·intro _;exact .inr rfl
  ·split<;>(intro h;exact absurd rfl h)
theorem qbC {fld:Int} {j:Nat} (hx:bix fld (bk k)=some j):Ans ws ps k (fun e=>e=2∨e=95∨e=97) (ofR w.1 (w.2.1.getD []) (stk w) w.2.2.2 fld noW fun j=>q6q w.1 w.2.2.2 w.2.1 (stk w) (q51 w.1 ((w.2.1.getD []).getD j (0,0)).2 fld (fl w.1 (w.2.1.getD []) (stk w) j))):=by
 obtain ⟨a1,a2,a3⟩:=hG.wat k w hw
 unfold ofR
 rw [if_pos (wOK hG hw),a2,hx]
 refine q7n hG hw (fun hq hl=>?_) (.inl rfl) fun hq=>?_
 ·have:=qiQ a3 hx (by rw [←a1];exact hq) (by rw [←a1];exact hl)
  rw [←a1] at this ⊢
  exact ⟨this.1,fun s hs h1=>absurd h1 (this.2 s hs)⟩
 ·revert hq
  unfold q51
  split
  ·intro _;exact .inr (.inl rfl)
  ·split
   ·split
    ·intro _;exact .inl rfl
    ·intro h;exact absurd rfl h
   ·intro _;exact .inr (.inr rfl)
theorem qgm {fld:Int} {j:Nat} (hx:bix fld (bk k)=some j):Ans ws ps k (fun e=>e=2∨e=96) (ofR w.1 (w.2.1.getD []) (stk w) w.2.2.2 fld noW fun j=>q6q w.1 w.2.2.2 w.2.1 (stk w) (q7K fld (fl w.1 (w.2.1.getD []) (stk w) j))):=by
 obtain ⟨a1,a2,a3⟩:=hG.wat k w hw
 unfold ofR
 rw [if_pos (wOK hG hw),a2,hx]
 refine q7n hG hw (fun hq hl=>?_) (.inl rfl) fun hq=>?_
 ·have:=qiK a3 hx (by rw [←a1];exact hq) (by rw [←a1];exact hl)
  rw [←a1] at this ⊢
  exact ⟨this.1,fun s hs h1=>absurd h1 (this.2 s hs)⟩
 ·revert hq
  unfold q7K
  split
  ·intro h;exact absurd rfl h
  ·intro _;exact .inr rfl
theorem q9q:Ans ws ps k (fun e=>e=2) (if okP w.1 (w.2.1.getD []) (stk w) w.2.2.2=true then q6q w.1 w.2.2.2 w.2.1 (stk w) (0,q37 w.1 (w.2.1.getD []) (stk w)) else noW 92):=by
 obtain ⟨a1,a2,a3⟩:=hG.wat k w hw
 rw [if_pos (wOK hG hw),a2]
 refine q7n hG hw (fun _ hl=>?_) rfl fun hq=>absurd rfl hq
 have:=qgo a3 (by rw [←a1];exact hl)
 rw [←a1] at this ⊢
 exact ⟨this.1,fun s hs h1 hwi=>by rw [this.2 s hs h1] at hwi;cases hwi⟩
theorem qh8 {p:P3} (hp:p∈ps) (hto:p.2.1=(k:Int)):Ans ws ps k (fun e=>e=2) (if okP w.1 (w.2.1.getD []) (stk w) w.2.2.2=true then (if qcL p.1 p.2.1 (p.2.2.getD [])=true∧p.2.1=w.1 then q6q w.1 w.2.2.2 w.2.1 (stk w) (0,q6v w.1 p.1 (w.2.1.getD []) (stk w) (p.2.2.getD [])) else noW 93) else noW 92):=by
 obtain ⟨a1,a2,a3⟩:=hG.wat k w hw
 obtain ⟨p1,p2⟩:=hG.pl p hp
 rw [if_pos (wOK hG hw),a2,if_pos ⟨p1,by rw [hto,a1]⟩]
 refine q7n hG hw (fun _ hl=>?_) rfl fun hq=>absurd rfl hq
 have:=qjt a3 p1 hto (by rw [←a1];exact hl)
 rw [←a1] at this ⊢
 refine ⟨this.1,fun s hs h1 hwi a v hv hsa e he hes=>?_⟩
 obtain ⟨t,ht,rfl⟩:=this.2 s hs h1
 exact p2 t ht a k v hsa hto hv e he hes
theorem qhH:Ans ws ps k (fun _=>False) (if okP w.1 (w.2.1.getD []) (stk w) w.2.2.2=true then some (0,[.d (il w.1),.d (dB w.2.1),.d (dS (some (stk w))),.d (il (stk w).length),.d (il 0)]) else noW 92):=by
 obtain ⟨a1,a2,a3⟩:=hG.wat k w hw
 rw [if_pos (wOK hG hw)]
 refine ⟨_,_,_,_,0,rfl,.inl ⟨rfl,hG.chg hw a1 a2 (qjL a3) (fun e he o=>?_) fun s hs _ _=>.inl hs⟩⟩
 have:bnd (w.1,w.2.1,some (stk w),((stk w).length:Int))=stk w:=by simp [bnd,stk]
 rw [this]
 exact q8H a3 he _ o
theorem qgi {left:Int}:Ans ws ps k (fun _=>False) (if okP w.1 (w.2.1.getD []) (stk w) w.2.2.2=true then some (0,[.d (il w.1),.d (dB w.2.1),.d (dS (some ((stk w).take (q50 (stk w) w.2.2.2 left)))),.d (il w.2.2.2),.d (il 0)]) else noW 92):=by
 obtain ⟨a1,a2,a3⟩:=hG.wat k w hw
 rw [if_pos (wOK hG hw)]
 have hh:=qgQ a3
 obtain ⟨t1,t2⟩:=q80 (left:=left) hh.1 hh.2
 have t3:=q2Z (x:=left) (m:=((stk w).length:Int) - w.2.2.2+1) (by omega)
 refine ⟨_,_,_,_,0,rfl,.inl ⟨rfl,hG.chg hw a1 a2 (qdx a3 (by omega)) (fun e he o=>?_) fun s hs _ _=>.inl (List.mem_of_mem_take hs)⟩⟩
 have:bnd (w.1,w.2.1,some ((stk w).take (q50 (stk w) w.2.2.2 left)),w.2.2.2)=bnd w:=by
  show ((stk w).take (q50 (stk w) w.2.2.2 left)).take w.2.2.2.toNat=(stk w).take w.2.2.2.toNat
  rw [List.take_take,Nat.min_eq_left (by omega)]
 rw [this]
 exact Int.le_refl _
theorem qiU:Ans ws ps k (fun _=>False) (if okP w.1 (w.2.1.getD []) (stk w) w.2.2.2=true then some (0,[.d (il w.1),.d (dB w.2.1),.d (dS (opN (q5S w.1 (w.2.1.getD []) (stk w)))),.d (il (q5S w.1 (w.2.1.getD []) (stk w)).length),.d (il 0)]) else noW 92):=by
 obtain ⟨a1,a2,a3⟩:=hG.wat k w hw
 rw [if_pos (wOK hG hw),a2,a1]
 refine ⟨_,_,_,_,0,rfl,.inl ⟨rfl,hG.chg hw rfl a2 (by show okP k (bk k) ((opN (q5S k (bk k) (stk w))).getD []) _=true;rw [q42];exact rec_ok a3) (fun e he o=>?_) fun s hs h1 _=>.inl ?_⟩⟩
 ·have:bnd ((k:Int),w.2.1,opN (q5S k (bk k) (stk w)),((q5S k (bk k) (stk w)).length:Int))=q5S k (bk k) (stk w):=by simp [bnd,stk,q42]
  rw [this]
  have hr:(rf k e (q5S k (bk k) (stk w))).no=(rf k e (stk w)).no:=by
   unfold rf
   rw [qbE a3 he]
   rfl
  rw [hr]
  exact q8H a3 he _ o
 ·have hs':s∈q5S k (bk k) (stk w):=by
   have:stk ((k:Int),w.2.1,opN (q5S k (bk k) (stk w)),((q5S k (bk k) (stk w)).length:Int))=q5S k (bk k) (stk w):=q42 _
   rw [this] at hs
   exact hs
  exact qiT a3 hs' h1
end
end
section
set_option maxRecDepth 100000
section
variable {Δ N R W M E Ω:Type} (p:Pr Δ N R W M E Ω)
def qj7 (y1:E) (w3:W):Ω:=(p.bnd (p.call 61 [p.cell w3 0]) [fun y4=>p.un .not (p.ld y4 0) fun x5=>p.cond x5 (p.out 0 [.d (p.ld y1 0),.d (p.ld y1 1),.n (p.ln y1 2),.d (p.ld y1 5),.d (p.lit (.int .i64 92)),.d (p.ld y1 3),.d (p.ld y1 4),.d (p.ld y1 5),.d (p.cell w3 0),.d (p.cell w3 1),.d (p.cell w3 2),.d (p.cell w3 3),.r (p.lr y1 6)]) (p.bnd (p.call 62 [p.cell w3 0,p.cell w3 1]) [fun y6=>p.un .not (p.ld y6 0) fun x7=>p.cond x7 (p.out 0 [.d (p.ld y1 0),.d (p.ld y1 1),.n (p.ln y1 2),.d (p.ld y1 5),.d (p.lit (.int .i64 92)),.d (p.ld y1 3),.d (p.ld y1 4),.d (p.ld y1 5),.d (p.cell w3 0),.d (p.cell w3 1),.d (p.cell w3 2),.d (p.cell w3 3),.r (p.lr y1 6)]) (p.lenD (p.cell w3 2) fun x8=>p.bin .gtr false x8 (p.lit (.int .i64 120)) fun x9=>p.cond x9 (p.out 0 [.d (p.ld y1 0),.d (p.ld y1 1),.n (p.ln y1 2),.d (p.ld y1 5),.d (p.lit (.int .i64 92)),.d (p.ld y1 3),.d (p.ld y1 4),.d (p.ld y1 5),.d (p.cell w3 0),.d (p.cell w3 1),.d (p.cell w3 2),.d (p.cell w3 3),.r (p.lr y1 6)]) (p.lenD (p.cell w3 2) fun x10=>p.bnd (p.call 68 [p.cell w3 3,(p.lit (.int .i64 0)),x10]) [fun y11=>p.un .not (p.ld y11 0) fun x12=>p.cond x12 (p.out 0 [.d (p.ld y1 0),.d (p.ld y1 1),.n (p.ln y1 2),.d (p.ld y1 5),.d (p.lit (.int .i64 92)),.d (p.ld y1 3),.d (p.ld y1 4),.d (p.ld y1 5),.d (p.cell w3 0),.d (p.cell w3 1),.d (p.cell w3 2),.d (p.cell w3 3),.r (p.lr y1 6)]) (p.bnd (p.call 63 [p.cell w3 1]) [fun y13=>p.lenD (p.cell w3 2) fun x14=>p.mkN 32 x14 x14 fun n15=>p.rowsD 4 (p.cell w3 2) fun r16=>p.eqN n15 (p.len (p.repl n15 [(p.lit (.int .i64 0)),(p.lit (.int .i64 0)),(p.lit (.int .i64 0)),(p.lit (.int .i64 0))])) (p.eqN n15 (p.len (p.repl n15 [(p.lit (.int .i64 0)),(p.lit (.int .i64 0)),(p.lit (.int .i64 0)),(p.lit (.int .i64 0))])) (p.lenD (p.ld y13 0) fun x17=>p.bnd (p.loop [(qde p)] 0 [.d (p.ld y13 0),.d x17,.d (p.lit (.int .i64 0)),.m p.emp,.d (p.cell w3 0),.d (p.ld y13 0),.n n15,.n n15,.d (p.cell w3 3),.r (p.lr y1 6),.d (p.cell w3 0),.d (p.cell w3 1),.d (p.cell w3 2),.d (p.cell w3 3),.r (p.app (p.seg r16 none n15) (p.seg (p.repl n15 [(p.lit (.int .i64 0)),(p.lit (.int .i64 0)),(p.lit (.int .i64 0)),(p.lit (.int .i64 0))]) (some (p.len r16)) n15)),.d (p.cell w3 0),.d (p.ld y13 0),.n n15,.n n15,.d (p.cell w3 3)]) [fun y18=>p.eqN n15 (p.len (p.lr y18 11)) (p.eqN n15 (p.len (p.lr y18 11)) (p.bnd (p.call 1000095 [p.ld y18 1,p.ld y18 2,(p.natD (p.ln y18 3)),(p.natD (p.ln y18 4)),p.ld y18 5,(p.slD 4 (p.lr y18 11)),(p.mpD true (p.lm y18 0))]) [fun y19=>p.rowsD 4 (p.ld y19 6) fun r20=>p.asM true (p.ld y19 7) fun q21=>p.un .not (p.ld y19 0) fun x22=>p.cond x22 (p.out 0 [.d (p.ld y1 0),.d (p.ld y1 1),.n (p.ln y1 2),.d (p.ld y1 5),.d (p.lit (.int .i64 92)),.d (p.ld y1 3),.d (p.ld y1 4),.d (p.ld y1 5),.d (p.ld y18 7),.d (p.ld y18 8),.d (p.ld y18 9),.d (p.ld y18 10),.r (p.lr y18 6)]) (p.out 1 [.d (p.ld y1 0),.d (p.ld y1 1),.n (p.ln y1 2),.d (p.ld y1 5),.d (p.lit (.int .i64 0)),.d (p.ld y1 3),.d (p.ld y1 4),.d (p.ld y1 5),.m q21,.r r20,.d (p.ld y19 1),.d (p.ld y19 2),.n (p.dN (p.ld y19 3)),.n (p.dN (p.ld y19 4)),.d (p.ld y19 5),.d (p.ld y18 7),.d (p.ld y18 8),.d (p.ld y18 9),.d (p.ld y18 10),.r (p.lr y18 6)])]))]))])]))])])
def L47x:K N R M E Δ Ω:=fun J1 y1=>p.bin .lss false (p.ld y1 5) (p.ld y1 4) fun x2=>p.cond x2 (p.rowD 4 (p.ld y1 3) (p.ld y1 5) fun w3=>p.bnd (qj7 p y1 w3) [fun y4=>p.bin .neq false (p.ld y4 4) (p.lit (.int .i64 0)) fun x5=>p.cond x5 (p.out 1 [.d (p.lit (.int .i64 98))]) (p.bin .gtr false (p.ld y4 3) (p.lit (.int .i64 0)) fun x6=>p.cond x6 (p.bin .sub false (p.ld y4 3) (p.lit (.int .i64 1)) fun x7=>p.rowD 4 (p.ld y4 0) x7 fun w8=>p.bin .geq false (p.cell w8 0) (p.ld y4 8) fun x9=>p.cond x9 (p.out 1 [.d (p.lit (.int .i64 98))]) p.fail) p.fail),fun y4=>p.bin .neq false (p.ld y4 4) (p.lit (.int .i64 0)) fun x5=>p.cond x5 (p.out 1 [.d (p.lit (.int .i64 98))]) (p.bin .gtr false (p.ld y4 3) (p.lit (.int .i64 0)) fun x6=>p.cond x6 (p.bin .sub false (p.ld y4 3) (p.lit (.int .i64 1)) fun x7=>p.rowD 4 (p.ld y4 0) x7 fun w8=>p.bin .geq false (p.cell w8 0) (p.ld y4 15) fun x9=>p.cond x9 (p.out 1 [.d (p.lit (.int .i64 98))]) (p.find 0 (p.lm y4 8) (p.ld y4 1) (fun n10=>p.rowAt 20 (p.mrows (p.lm y4 8)) n10 fun w11=>p.leN (p.addN (p.addN (p.natN 0) (p.natN 19)) (p.natN 1)) (p.natN 20) (p.cond (p.cellN w11 (p.addN (p.natN 0) (p.natN 19)) 0) (p.eqN (p.natN 1) (p.len (p.rows [[p.ld y4 15]])) (p.eqN (p.ln y4 2) (p.len (p.lr y4 19)) (p.fits 8 (p.addN (p.ln y4 2) (p.len (p.seg (p.rows [[p.ld y4 15]]) none (p.natN 1)))) (p.bin .add false (p.ld y4 7) (p.lit (.int .i64 1)) fun x12=>J1 0 [.d (p.ld y4 0),.d (p.ld y4 1),.n (p.addN (p.ln y4 2) (p.len (p.seg (p.rows [[p.ld y4 15]]) none (p.natN 1)))),.d (p.ld y4 5),.d (p.ld y4 6),.d x12,.r (p.app (p.lr y4 19) (p.seg (p.rows [[p.ld y4 15]]) none (p.natN 1)))])))) (p.bin .add false (p.ld y4 7) (p.lit (.int .i64 1)) fun x12=>J1 0 [.d (p.ld y4 0),.d (p.ld y4 1),.n (p.ln y4 2),.d (p.ld y4 5),.d (p.ld y4 6),.d x12,.r (p.lr y4 19)]))) (p.bin .add false (p.ld y4 7) (p.lit (.int .i64 1)) fun x10=>J1 0 [.d (p.ld y4 0),.d (p.ld y4 1),.n (p.ln y4 2),.d (p.ld y4 5),.d (p.ld y4 6),.d x10,.r (p.lr y4 19)]))) (p.find 0 (p.lm y4 8) (p.ld y4 1) (fun n7=>p.rowAt 20 (p.mrows (p.lm y4 8)) n7 fun w8=>p.leN (p.addN (p.addN (p.natN 0) (p.natN 19)) (p.natN 1)) (p.natN 20) (p.cond (p.cellN w8 (p.addN (p.natN 0) (p.natN 19)) 0) (p.eqN (p.natN 1) (p.len (p.rows [[p.ld y4 15]])) (p.eqN (p.ln y4 2) (p.len (p.lr y4 19)) (p.fits 8 (p.addN (p.ln y4 2) (p.len (p.seg (p.rows [[p.ld y4 15]]) none (p.natN 1)))) (p.bin .add false (p.ld y4 7) (p.lit (.int .i64 1)) fun x9=>J1 0 [.d (p.ld y4 0),.d (p.ld y4 1),.n (p.addN (p.ln y4 2) (p.len (p.seg (p.rows [[p.ld y4 15]]) none (p.natN 1)))),.d (p.ld y4 5),.d (p.ld y4 6),.d x9,.r (p.app (p.lr y4 19) (p.seg (p.rows [[p.ld y4 15]]) none (p.natN 1)))])))) (p.bin .add false (p.ld y4 7) (p.lit (.int .i64 1)) fun x9=>J1 0 [.d (p.ld y4 0),.d (p.ld y4 1),.n (p.ln y4 2),.d (p.ld y4 5),.d (p.ld y4 6),.d x9,.r (p.lr y4 19)]))) (p.bin .add false (p.ld y4 7) (p.lit (.int .i64 1)) fun x7=>J1 0 [.d (p.ld y4 0),.d (p.ld y4 1),.n (p.ln y4 2),.d (p.ld y4 5),.d (p.ld y4 6),.d x7,.r (p.lr y4 19)])))]) (p.out 0 [.d (p.ld y1 0),.d (p.ld y1 1),.n (p.ln y1 2),.r (p.lr y1 6)])
end
theorem eL47:@qfL=@L47x:=rfl
theorem l47_0 (n:Nat) (o:Option (List Brd)) (hl:(o.getD []).length≤4611686018427387904) (hr:qat (o.getD [])) (c0:D) (c1:D) (c2:Nat) (c3:Nat) (c4:D) (c5:Rr) (c6:D) (c7:D) (c8:D) (c9:D) (c10:Rr) (c11:D) (c12:D) (c13:Nat) (c14:Nat) (c15:D) :
  q1b [qde (RP n)] M0 0 [.d (dB o),.d (il (o.getD []).length),.d (il 0),.m ([],[]),.d c0,.d c1,.n c2,.n c3,.d c4,.r c5,.d c6,.d c7,.d c8,.d c9,.r c10,.d c11,.d c12,.n c13,.n c14,.d c15] =
   some (0,[.m (mapM (o.getD []) (new (o.getD []))),.d c0,.d c1,.n c2,.n c3,.d c4,.r c5,.d c6,.d c7,.d c8,.d c9,.r c10,.d c11,.d c12,.n c13,.n c14,.d c15]):=by
 have:=q0L (β:=Unit) (o.getD []) hl (qde (RP n)) (fun i _=>[.d (dB o),.d (il (o.getD []).length),.d (il i),.m (mapM ((o.getD []).take i) (new ((o.getD []).take i))),.d c0,.d c1,.n c2,.n c3,.d c4,.r c5,.d c6,.d c7,.d c8,.d c9,.r c10,.d c11,.d c12,.n c13,.n c14,.d c15]) (fun _ _=>True)
  (fun _ _ _=>some (0,[.m (mapM (o.getD []) (new (o.getD []))),.d c0,.d c1,.n c2,.n c3,.d c4,.r c5,.d c6,.d c7,.d c8,.d c9,.r c10,.d c11,.d c12,.n c13,.n c14,.d c15])) ?_ ?_ M0 () trivial (q2K hl)
 ·exact this
 ·intro _ k _
  simp [qde,List.take_length]
 ·intro i e r _ k hi hd hlt hw _ ih
  have hlt':(i:Int) < ((o.getD []).length:Int):=by omega
  have ih':=ih () trivial
  rw [q1h,q4k hi,q5s] at ih'
  have hadd:=fun k=>q9G (Fn:=FN n) (FnD:=q2L Tryd.prog (cf3 tb Tryd.prog) (FN n)) (m:=M0) (q1l ((o.getD []).take i)) (q7v hr hi) fd0 k
  have hlen:((o.getD []).take i).length=i:=by simp;omega
  simp only [q6U,hlen] at hadd
  simp only [qde,mapM,q06,q0a,q0p,q0q,q0e,q0g,q0h,q0j,q0V,hlt',decide_true,q04,if_true,q6y hi,cB0,q0k,q0O,q2b,q0I,q11,q0o,q09,q0u,q0v,List.length_map,q1l,hlen,hadd,q0T,hw]
  exact ih'
theorem op47 (n:Nat) (me h:Int) (b:Option (List Brd)) (o:Option (List Stk)) (hl:(o.getD []).length≤4611686018427387904) (hb:(b.getD []).length≤4611686018427387904) (c0 c1 c3 c4 c5:D) (c2:Nat) (c6:Rr) :
  qj7 (RP (n+4)) [.d c0,.d c1,.n c2,.d c3,.d c4,.d c5,.r c6] (rWt (me,b,o,h))=if okP me (b.getD []) (o.getD []) h=true then some (1,[.d c0,.d c1,.n c2,.d c5,.d (il 0),.d c3,.d c4,.d c5,.m (mapM (b.getD []) (pg me (b.getD []) (o.getD []))),.r ((o.getD []).map rS),.d (il me),.d (dB b),.n (o.getD []).length,.n (o.getD []).length,.d (il h),.d (il me),.d (dB b),.d (dS o),.d (il h),.r c6]) else some (0,[.d c0,.d c1,.n c2,.d c5,.d (il 92),.d c3,.d c4,.d c5,.d (il me),.d (dB b),.d (dS o),.d (il h),.r c6]):=by
 simp only [qj7,cW0,cW1,cW2,cW3,q0i,s61,s62 _ _ _ hb,s68,q5c,q02,q06,q0a,q0e,q0g,q0h,q0j,q0E,q04,q0t,q09,q2s,okP]
 by_cases h1:par me=true
 ·by_cases h2:q1T me (b.getD [])=true
  ·have h2':=h2
   simp only [q1T,Bool.and_eq_true,decide_eq_true_eq] at h2'
   by_cases h3:(o.getD []).length≤120
   ·have h3':¬ ((120:Int) < (o.getD []).length):=by omega
    by_cases h4:inn h 0 (o.getD []).length=true
    ·have hmk:0≤((o.getD []).length:Int)∧((32:Nat):Int)*((o.getD []).length:Int)≤140737488355328∧((o.getD []).length:Int)≤9223372036854775807:=by omega
     simp only [h1,h2,h3,h3',h4,Bool.not_true,Bool.false_eq_true,if_false,if_true,decide_true,decide_false,Bool.true_and,s63 _ _ h2'.2,q02,q06,q6Z,hmk,and_self,Int.toNat_natCast,q6T,q6Y,q0v,List.length_replicate,q0O,q5c,q9F,q0I,q0K,q6X,q10,List.length_map]
     have hseg:=q4G ((o.getD []).map rS) [il 0,il 0,il 0,il 0]
     rw [List.length_map] at hseg
     rw [hseg,l47_0 _ _ hb (q2Y h2'.1)]
     simp only [q02,q06,q0a,q0p,q0e,q0g,q0h,q0j,List.length_map,if_true,q1A,q2N,q4O,mapM]
     rw [q4H _ _ hb (q1M h2) _ (by omega) _ _ _ _ _ (q1l _)]
     simp only [q02,q06,q0a,q1O,q0E,q04,qaK]
     have ha:∀ (a:List Value) (b:Rr) (k:Mr→Out),(RP (n+4)).asM true (.mp true a b) k=k (a,b):=fun _ _ _=>rfl
     rw [ha]
     simp only [pg]
     rw [show (b.getD []).map (fun _=>fd0)=new (b.getD []) from rfl]
     cases (q19 me (b.getD []) (new (b.getD [])) (o.getD [])).2<;>rfl
    ·simp [h1,h2,h3,h3',h4]
   ·have h3':((120:Int) < (o.getD []).length):=by omega
    simp [h1,h2,h3,h3']
  ·simp [h1,h2]
 ·simp [h1]
theorem l47_1 (n:Nat) (o:Option (List W4)) (hl:(o.getD []).length≤2199023255552) (hs:∀ w∈o.getD [],qdF w) (fld:Int) :
  q1b [qfL (RP (n+4))] M0 0 [.d (dW o),.d (il fld),.n 0,.d (dW o),.d (il (o.getD []).length),.d (il 0),.r []]=if chk none (o.getD [])=true then some (0,[.d (dW o),.d (il fld),.n (q7J fld (o.getD [])).length,.r ((q7J fld (o.getD [])).map rI)]) else some (1,[.d (il 98)]):=by
 have:=q0L (β:=List Int) (o.getD []) (by omega) (qfL (RP (n+4))) (fun i g=>[.d (dW o),.d (il fld),.n g.length,.d (dW o),.d (il (o.getD []).length),.d (il i),.r (g.map rI)]) (fun i g=>g.length≤i)
  (fun i r g=>if chk (qcJ (o.getD []) i) r=true then some (0,[.d (dW o),.d (il fld),.n (g++q7J fld r).length,.r ((g++q7J fld r).map rI)]) else some (1,[.d (il 98)])) ?_ ?_ M0 [] (by simp) (q2K (by omega))
 ·exact this
 ·intro g k _
  simp [qfL,chk,q7J]
 ·rintro i ⟨me,b,s,h⟩ r g k hi hd hlt hw hg ih
  have hsw:=hs _ (List.mem_of_getElem? hi)
  have hlt':(i:Int) < ((o.getD []).length:Int):=by omega
  have hfit:(g.length+1)*8≤140737488355328∧g.length+1≤9223372036854775807:=by omega
  have hN:g.length≤9223372036854775806:=by omega
  rw [eL47]
  simp only [L47x,q06,q0a,q0e,q0g,q0h,q0j,q09,q0V,hlt',decide_true,q04,if_true,rowW hi]
  rw [op47 n me h b s hsw.2 hsw.1]
  rw [chk]
  show _=if (okP me (b.getD []) (s.getD []) h&&_)=true then _ else _
  by_cases h1:okP me (b.getD []) (s.getD []) h=true
  ·have hrow:∀ {j:Nat},bix fld (b.getD [])=some j→(pg me (b.getD []) (s.getD []))[j]?=some (fl me (b.getD []) (s.getD []) j):=fun {j} hx=>by
    obtain ⟨_,_,_,_,hj⟩:=q4C hx
    exact q7O h1 hj
   simp only [h1,if_true,Bool.true_and,q1C,q06,q0a,q0p,q0q,q0e,q0g,q0h,q0j,q2a,ne_eq,not_true,decide_false,Bool.false_eq_true,if_false,q2s,q04,q0T,hw]
   have rest:ltO (qcJ (o.getD []) i) me=true→∀ X:Out,X=(match bix fld (b.getD []) with
     | none=>k 0 [.d (dW o),.d (il fld),.n g.length,.d (dW o),.d (il (o.getD []).length),.d (il ((i:Int)+1)),.r (g.map rI)]
     | some j=>if (fl me (b.getD []) (s.getD []) j).opn=true then k 0 [.d (dW o),.d (il fld),.n (g.length+1),.d (dW o),.d (il (o.getD []).length),.d (il ((i:Int)+1)),.r (g.map rI++[[il me]])]
      else k 0 [.d (dW o),.d (il fld),.n g.length,.d (dW o),.d (il (o.getD []).length),.d (il ((i:Int)+1)),.r (g.map rI)]) →
     X=if (ltO (qcJ (o.getD []) i) (me,b,s,h).1&&chk (some (me,b,s,h).1) r)=true then some (0,[.d (dW o),.d (il fld),.n (g++q7J fld ((me,b,s,h)::r)).length,.r ((g++q7J fld ((me,b,s,h)::r)).map rI)]) else some (1,[.d (il 98)]):=by
    intro hlt X hX
    rw [hX]
    simp only [hlt,Bool.true_and]
    have ih0:=ih g (by omega)
    rw [q1h,q5W hi] at ih0
    have ih1:=ih (g++[me]) (by simp;omega)
    rw [q1h,q5W hi] at ih1
    cases hx:bix fld (b.getD []) with
    | none =>
     simp only
     rw [show q7J fld ((me,b,s,h)::r)=q7J fld r by simp [q7J,opnW,hx]]
     exact ih0
    | some j =>
     simp only
     by_cases ho:(fl me (b.getD []) (s.getD []) j).opn=true
     ·rw [if_pos ho,show q7J fld ((me,b,s,h)::r)=[me]++q7J fld r by simp [q7J,opnW,hx,ho],← List.append_assoc]
      simpa [rI] using ih1
     ·rw [if_neg ho,show q7J fld ((me,b,s,h)::r)=q7J fld r by simp [q7J,opnW,hx,ho]]
      exact ih0
   have fin:∀ X Y:Nat→Out,True:=fun _ _=>trivial
   cases i with
   | zero =>
    refine rest rfl _ ?_
    simp only [Int.natCast_zero,Int.lt_irrefl,decide_false,Bool.false_eq_true,if_false,q1P]
    cases hx:bix fld (b.getD []) with
    | none=>rfl
    | some j=>simp only [q0k,q0n,Nat.zero_add,q0U,q0s (hrow hx),q1G,Nat.reduceAdd,Nat.reduceLeDiff,if_true,q0F,q1W,q04,q0o,q0v,List.length_cons,List.length_nil,List.length_map,q0O,q0K,List.take,q0Q,hfit.1,hN,and_self,q0I]
   | succ i =>
    have hi1:i < (o.getD []).length:=by omega
    have hv:=List.getElem?_eq_getElem hi1
    have hp:=q8S (i:=i+1) (by omega) (by omega)
    simp only [show (0:Int) < ((i+1:Nat):Int) by omega,decide_true,if_true,qe1,hp,Nat.add_sub_cancel,rowW hv,cW0,qe7,q04]
    by_cases h2:(o.getD [])[i].1 < me
    ·refine rest (by simp [q5W hv,ltO,h2]) _ ?_
     simp only [show ¬ ((o.getD [])[i].1≥me) by omega,decide_false,Bool.false_eq_true,if_false,q1P]
     cases hx:bix fld (b.getD []) with
     | none=>rfl
     | some j=>simp only [q0k,q0n,Nat.zero_add,q0U,q0s (hrow hx),q1G,Nat.reduceAdd,Nat.reduceLeDiff,if_true,q0F,q1W,q04,q0o,q0v,List.length_cons,List.length_nil,List.length_map,q0O,q0K,List.take,q0Q,hfit.1,hN,and_self,q0I]
    ·simp only [show ((o.getD [])[i].1≥me) by omega,decide_true,if_true,q5W hv,ltO,h2,decide_false,Bool.false_and,Bool.false_eq_true,if_false,q0t]
  ·simp [h1]
theorem s47 (n:Nat) (o:Option (List W4)) (hl:(o.getD []).length≤2199023255552) (hs:∀ w∈o.getD [],qdF w) (fld:Int):FN (n+5) 47 [dW o,il fld]=whoR (o.getD []) fld:=by
 rw [FS,G47_eq]
 simp only [G47,lenW,q09,q10,q0k,q0o,whoR]
 rw [l47_1 n o hl hs]
 by_cases hc:chk none (o.getD [])=true
 ·simp only [hc,if_true,q02,q06,q0a,lenW,q2s,q04]
  by_cases h6:6 < (o.getD []).length
  ·have h6':(6:Int) < ((o.getD []).length:Int):=by omega
   simp [h6',h6,badN,q4L]
  ·have h6':¬ (6:Int) < ((o.getD []).length:Int):=by omega
   simp only [h6',h6,decide_false,Bool.false_eq_true,if_false,q0i,s67,q02,q06,q0E,q04]
   by_cases hf:inn fld 1 99=true
   ·simp only [hf,Bool.not_true,Bool.false_eq_true,if_false,if_true,q0e,q0g,q0h,q0j,q0v,List.length_map,q0O,qgG,q0t]
   ·simp [hf,badN,q4L]
 ·simp [hc,badN,q4L]
end
end Go.VE
