/- Family: the reference's Put, Has and Same. -/
import Derived.Test.YtobeabinccohlaaGreatMg1
namespace Go.VE
open Go.RowKit Go.Proofs
def pu (x:Int) (d:Bool):List Int→List Int
 | []=>if d then [] else [x]
 | y::r=>(if x≤y∧d=false then [x] else [])++((if y≠x then [y] else [])++pu x (d||decide (x≤y)) r)
theorem qa9 (x:Int):∀ {r:List Int},(∀ y∈r,x < y)→pu x true r=r
 | [],_=>rfl
 | y::r,h=>by
  have:=h y (by simp)
  simp only [pu,Bool.true_or]
  rw [if_neg (by simp),if_pos (by omega),qa9 x fun z hz=>h z (by simp [hz])]
  rfl
theorem qho (x:Int):∀ {l:List Int},Up l→pu x false l=ins x l
 | [],_=>rfl
 | y::r,hu=>by
  rw [Up,List.pairwise_cons] at hu
  simp only [pu,ins,Bool.false_or]
  by_cases h1:x < y
  ·rw [if_pos ⟨by omega,trivial⟩,if_pos (by omega:y≠x),if_pos h1,decide_eq_true (by omega:x≤y),qa9 x fun z hz=>by have:=hu.1 z hz;omega]
   rfl
  ·by_cases h2:x=y
   ·subst h2
    rw [if_pos ⟨by omega,trivial⟩,if_neg (by simp),if_neg h1,if_pos rfl,decide_eq_true (by omega:x≤x),qa9 x fun z hz=>hu.1 z hz]
    rfl
   ·rw [if_neg (by omega),if_pos (by omega:y≠x),if_neg h1,if_neg h2,decide_eq_false (by omega:¬ x≤y),qho x hu.2]
    rfl
def stI (o:Option (List Int)) (x:Int) (acc:List Int) (d:Bool) (i:Nat):List Yr:=[.d (dI o),.d (il x),.n acc.length,.n acc.length,.d (bl d),.d (il i),.r (acc.map rI)]
def st0 (o:Option (List Int)) (x:Int) (d:Bool) (i:Nat):List Yr:=[.d (dI o),.d (il x),.d (bl d),.d (il i)]
set_option maxRecDepth 20000 in
theorem b92_0 (n:Nat) (o:Option (List Int)) (x y:Int) (d:Bool) (i:Nat) (k:Nat→List Yr→Out) (hi:(o.getD [])[i]?=some y) (hlt:(i:Int) < ((o.getD []).length:Int)) (hw:IntKind.i64.wrap ((i:Int)+1)=((i+1:Nat):Int)) :
  q7v (RP n) k (st0 o x d i)=if x≤y∧d=false then (if y=x then k 2 (stI o x [x] true (i+1)) else k 2 (stI o x [x,y] true (i+1))) else (if y=x then k 0 (st0 o x d (i+1)) else k 1 (stI o x [y] d (i+1))):=by
 simp only [st0,stI,q7v,q03,q08,q5K,q0n,q00,hlt,decide_true,if_true,q5s hi,rI,q0c,q2f,q0N,decide_eq_true_eq]
 by_cases h1:x≤y<;>cases d<;>by_cases h2:y=x<;>simp [h1,h2,q5s hi,rI,hw]
 all_goals (subst h2;simp [q5s hi,rI,hw] at *)
set_option maxRecDepth 20000 in
theorem b92_1 (n:Nat) (o:Option (List Int)) (x y:Int) (acc:List Int) (d:Bool) (i:Nat) (k:Nat→List Yr→Out) (ha:acc.length≤1000000000000) (hi:(o.getD [])[i]?=some y) (hlt:(i:Int) < ((o.getD []).length:Int)) (hw:IntKind.i64.wrap ((i:Int)+1)=((i+1:Nat):Int)) :
  q7u (RP n) k (stI o x acc d i)=k 1 (stI o x (acc++((if x≤y∧d=false then [x] else [])++(if y≠x then [y] else []))) (d||decide (x≤y)) (i+1)):=by
 have f1:(acc.length+1)*8≤140737488355328∧acc.length+1≤9223372036854775807:=by omega
 have f2:(acc.length+1+1)*8≤140737488355328∧acc.length+1+1≤9223372036854775807:=by omega
 simp only [stI,q7u,q03,q08,q0P,q0O,q0F,q0V,q5K,q0n,q00,hlt,decide_true,if_true,q5s hi,rI,q0c,q2f,q0N,decide_eq_true_eq]
 by_cases h1:x≤y<;>cases d<;>by_cases h2:y=x<;>simp [h1,h2,q5s hi,rI,hw,f1,f2]
 all_goals (intros;omega)
set_option maxRecDepth 20000 in
theorem b92_2 (n:Nat) (o:Option (List Int)) (x y:Int) (acc:List Int) (d:Bool) (i:Nat) (k:Nat→List Yr→Out) (ha:acc.length≤1000000000000) (hi:(o.getD [])[i]?=some y) (hlt:(i:Int) < ((o.getD []).length:Int)) (hw:IntKind.i64.wrap ((i:Int)+1)=((i+1:Nat):Int)) :
  q7t (RP n) k (stI o x acc d i)=k 2 (stI o x (acc++((if x≤y∧d=false then [x] else [])++(if y≠x then [y] else []))) (d||decide (x≤y)) (i+1)):=by
 have f1:(acc.length+1)*8≤140737488355328∧acc.length+1≤9223372036854775807:=by omega
 have f2:(acc.length+1+1)*8≤140737488355328∧acc.length+1+1≤9223372036854775807:=by omega
 simp only [stI,q7t,q03,q08,q0P,q0O,q0F,q0V,q5K,q0n,q00,hlt,decide_true,if_true,q5s hi,rI,q0c,q2f,q0N,decide_eq_true_eq]
 by_cases h1:x≤y<;>cases d<;>by_cases h2:y=x<;>simp [h1,h2,q5s hi,rI,hw,f1,f2]
 all_goals (intros;omega)
theorem ex92 (n:Nat) (o:Option (List Int)) (x:Int) (acc:List Int) (d:Bool) (k:Nat→List Yr→Out) :
  q7v (RP n) k (st0 o x d (o.getD []).length)=some (0,[.d (il x),.d (bl d)])∧q7u (RP n) k (stI o x acc d (o.getD []).length)=some (1,[.d (il x),.n acc.length,.n acc.length,.d (bl d),.r (acc.map rI)])∧q7t (RP n) k (stI o x acc d (o.getD []).length)=some (2,[.d (il x),.n acc.length,.n acc.length,.d (bl d),.r (acc.map rI)]):=by
 refine ⟨?_,?_,?_⟩
 ·simp [q7v,st0,q5K]
 ·simp [q7u,stI,q5K]
 ·simp [q7t,stI,q5K]
set_option maxRecDepth 20000 in
theorem l92 (n:Nat) (o:Option (List Int)) (x:Int) (hl:(o.getD []).length≤100000000000) (T:List Int) (hT:T=pu x false (o.getD [])) :
  ∃ d acc,acc++(if d=true then [] else [x])=T∧acc.length≤1000000000000∧((acc=[]∧q0p [q7v (RP n),q7u (RP n),q7t (RP n)] M0 0 (st0 o x false 0)=some (0,[.d (il x),.d (bl d)]))∨(∃ w,(w=1∨w=2)∧q0p [q7v (RP n),q7u (RP n),q7t (RP n)] M0 0 (st0 o x false 0)=some (w,[.d (il x),.n acc.length,.n acc.length,.d (bl d),.r (acc.map rI)]))):=by
 have:=q5F (σ:=Nat×Nat×Bool×List Int) [q7v (RP n),q7u (RP n),q7t (RP n)] (fun s=>(s.1,if s.1=0 then st0 o x s.2.2.1 s.2.1 else stI o x s.2.2.2 s.2.2.1 s.2.1)) (fun s=>(o.getD []).length - s.2.1)
  (fun s=>s.1≤2∧(s.1=0→s.2.2.2=[])∧s.2.1≤(o.getD []).length∧s.2.2.2.length≤2*s.2.1∧s.2.2.2++pu x s.2.2.1 ((o.getD []).drop s.2.1)=T)
  (fun r=>∃ d acc,acc++(if d=true then [] else [x])=T∧acc.length≤1000000000000∧((acc=[]∧r=some (0,[.d (il x),.d (bl d)]))∨(∃ w,(w=1∨w=2)∧r=some (w,[.d (il x),.n acc.length,.n acc.length,.d (bl d),.r (acc.map rI)])))) ?_ M0 (0,0,false,[]) ⟨by simp,fun _=>rfl,Nat.zero_le _,by simp,by simpa using hT.symm⟩ (by unfold M0;simp only;omega)
 ·exact this
 ·rintro ⟨w,i,d,acc⟩ k ⟨g1,g2,g3,g4,g5⟩ ih
  simp only at g1 g2 g3 g4 g5 ih ⊢
  by_cases hi:i < (o.getD []).length
  ·obtain ⟨y,hy⟩:∃ y,(o.getD [])[i]?=some y:=⟨_,List.getElem?_eq_getElem hi⟩
   have hd:(o.getD []).drop i=y::(o.getD []).drop (i+1):=by
    rw [List.drop_eq_getElem_cons hi]
    congr 1
    rw [List.getElem?_eq_getElem hi] at hy
    exact Option.some.inj hy
   rw [hd,pu] at g5
   have hlt:(i:Int) < ((o.getD []).length:Int):=by omega
   have hw:IntKind.i64.wrap ((i:Int)+1)=((i+1:Nat):Int):=by rw [q0l (by omega) (by omega)];simp
   match w,g1 with
   | 0,_ =>
    refine ⟨q7v (RP n),rfl,?_⟩
    have hacc:=g2 rfl
    subst hacc
    simp only [if_true]
    rw [b92_0 n o x y d i k hy hlt hw]
    by_cases h1:x≤y∧d=false
    ·obtain ⟨h1,rfl⟩:=h1
     by_cases h2:y=x
     ·rw [if_pos ⟨h1,rfl⟩,if_pos h2]
      exact ih (2,i+1,true,[x]) ⟨by simp,by simp,hi,by simp;omega,by simpa [h1,h2] using g5⟩ (by simp only;omega)
     ·rw [if_pos ⟨h1,rfl⟩,if_neg h2]
      exact ih (2,i+1,true,[x,y]) ⟨by simp,by simp,hi,by simp;omega,by simpa [h1,h2] using g5⟩ (by simp only;omega)
    ·have hdd:(d||decide (x≤y))=d:=by
      cases d with
      | true=>rfl
      | false=>simp at h1;simp;omega
     rw [hdd,if_neg h1] at g5
     by_cases h2:y=x
     ·rw [if_neg h1,if_pos h2]
      exact ih (0,i+1,d,[]) ⟨by simp,by simp,hi,by simp,by simpa [h2] using g5⟩ (by simp only;omega)
     ·rw [if_neg h1,if_neg h2]
      exact ih (1,i+1,d,[y]) ⟨by simp,by simp,hi,by simp;omega,by simpa [h2] using g5⟩ (by simp only;omega)
   | 1,_ =>
    refine ⟨q7u (RP n),rfl,?_⟩
    simp only [Nat.one_ne_zero,if_false]
    rw [b92_1 n o x y acc d i k (by omega) hy hlt hw]
    refine ih (1,i+1,(d||decide (x≤y)),acc++((if x≤y∧d=false then [x] else [])++(if y≠x then [y] else []))) ⟨by simp,by simp,hi,?_,by simp only;rw [List.append_assoc,List.append_assoc];exact g5⟩ (by simp only;omega)
    simp only [List.length_append]
    split<;>split<;>simp<;>omega
   | 2,_ =>
    refine ⟨q7t (RP n),rfl,?_⟩
    simp only [show ¬ ((2:Nat)=0) by decide,if_false]
    rw [b92_2 n o x y acc d i k (by omega) hy hlt hw]
    refine ih (2,i+1,(d||decide (x≤y)),acc++((if x≤y∧d=false then [x] else [])++(if y≠x then [y] else []))) ⟨by simp,by simp,hi,?_,by simp only;rw [List.append_assoc,List.append_assoc];exact g5⟩ (by simp only;omega)
    simp only [List.length_append]
    split<;>split<;>simp<;>omega
  ·have hil:i=(o.getD []).length:=by omega
   subst hil
   obtain ⟨e0,e1,e2⟩:=ex92 n o x acc d k
   rw [List.drop_length,pu] at g5
   match w,g1 with
   | 0,_=>exact ⟨q7v (RP n),rfl,d,[],by rw [←g5,g2 rfl],by simp,.inl ⟨rfl,e0⟩⟩
   | 1,_=>exact ⟨q7u (RP n),rfl,d,acc,g5,by omega,.inr ⟨1,.inl rfl,e1⟩⟩
   | 2,_=>exact ⟨q7t (RP n),rfl,d,acc,g5,by omega,.inr ⟨2,.inr rfl,e2⟩⟩
set_option maxRecDepth 20000 in
theorem s92 (n:Nat) (o:Option (List Int)) (x:Int) (hl:(o.getD []).length≤100000000000) (hu:Up (o.getD [])):FN (n+1) 92 [dI o,il x]=some (0,[.d (dI (some (ins x (o.getD []))))]):=by
 rw [F92]
 obtain ⟨d,acc,h1,h2,h3⟩:=l92 n o x hl _ rfl
 rw [qho x hu] at h1
 have f1:(acc.length+1)*8≤140737488355328∧acc.length+1≤9223372036854775807:=by omega
 simp only [st0,Int.natCast_zero] at h3
 simp only [G92,q0q,q05,q15]
 rcases h3 with ⟨rfl,h3⟩ | ⟨w,hw,h3⟩
 ·rw [h3]
  cases d with
  | true =>
   exfalso
   have:x∈ins x (o.getD []):=(q30 x x _).2 (.inl rfl)
   rw [←h1] at this
   simp at this
  | false=>rw [←h1];simp [dI,dSl,rI]
 ·rw [h3]
  rcases hw with rfl | rfl
  ·cases d with
   | false=>rw [←h1];simp [dI,dSl,rI,f1];exact ⟨by omega,List.take_of_length_le (by simp)⟩
   | true=>rw [←h1];simp [dI,dSl];exact List.take_of_length_le (by simp)
  ·cases d with
   | false=>rw [←h1];simp [dI,dSl,rI,f1];exact ⟨by omega,List.take_of_length_le (by simp)⟩
   | true=>rw [←h1];simp [dI,dSl];exact List.take_of_length_le (by simp)
end Go.VE
namespace Go.VE
open Go.RowKit Go.Proofs
theorem s22 (n:Nat) (a b:Option (List Int)) (ha:(a.getD []).length≤4611686018427387904):FN (n+1) 22 [dI a,dI b]=some (0,[.d (bl (decide (a.getD []=b.getD [])))]):=by
 rw [F22]
 simp only [G22,q5K,q0S,q05,q0q]
 have:=q0u (β:=Bool) (a.getD []) ha (qfe (RP n)) (fun i s=>[.d (dI a),.d (dI b),.d (bl s),.d (il i)]) (fun _ s=>s=true→(a.getD []).length=(b.getD []).length)
  (fun i r s=>some (0,[.d (bl (s&&decide (r=(b.getD []).drop i)))]))
  (fun s k hs=>?_) ?_ M0 (decide (((a.getD []).length:Int)=((b.getD []).length:Int))) (fun h=>by have:=of_decide_eq_true h;omega) (q2J ha)
 ·simp only [Int.natCast_zero,List.drop_zero] at this
  rw [this]
  simp only [q01,q03,q0e]
  by_cases h:(a.getD []).length=(b.getD []).length
  ·simp [h]
  ·have:¬ (a.getD []=b.getD []):=fun e=>h (by rw [e])
   simp [this]
 ·cases s with
  | false=>simp [qfe,q5K]
  | true =>
   have:List.drop (a.getD []).length (b.getD [])=[]:=by rw [hs rfl,List.drop_length]
   simp [qfe,q5K,this]
 ·intro i e r s k hi hd hlt hw hs ih
  have hlt':(i:Int) < ((a.getD []).length:Int):=by omega
  simp only [qfe,q03,q08,q5K,q0n,q00,hlt',decide_true,if_true,q0e]
  cases s with
  | false=>simp
  | true =>
   have hlb:i < (b.getD []).length:=by rw [←hs rfl];exact hlt
   have hb:(b.getD [])[i]?=some ((b.getD [])[i]'hlb):=List.getElem?_eq_getElem hlb
   have hdb:(b.getD []).drop i=(b.getD [])[i]'hlb::(b.getD []).drop (i+1):=List.drop_eq_getElem_cons hlb
   simp only [if_true,q5s hi,q5s hb,rI,q0c,q0S,q05,q0o,hw]
   refine Eq.trans (ih _ fun _=>hs rfl) ?_
   rw [hdb]
   generalize (b.getD [])[i]'hlb=f
   generalize (b.getD []).drop (i+1)=q
   by_cases h:e=f
   ·subst h;simp
   ·simp [h]
end Go.VE
namespace Go.VE
open Go.RowKit Go.Proofs
theorem s157 (n:Nat) (a b c:Option (List E9)) (o:Option (List E5)) (i:Nat) (e:E9) (who:Int) (hi:(a.getD [])[i]?=some e):FN (n+1) 157 [il i,q0I a b c o,il who]=some (0,[.d (bl (decide (e.a=who))),.d (il e.f1),.d (il e.f2),.d (il e.t1),.d (il e.t2),.d (il e.b)]):=by
 rw [F157]
 simp only [G157,q0I,q3w]
 rw [q21 _ 4 _ rfl]
 simp only [q0c,q0B,q5t hi,r9,q0S,q0e]
theorem s194 (n:Nat) (a b c:Option (List E9)) (o:Option (List E5)) (i:Nat) (e:E9) (who:Int) (hi:(b.getD [])[i]?=some e):FN (n+1) 194 [il i,q0I a b c o,il who]=some (0,[.d (bl (decide (e.a=who))),.d (il e.f1),.d (il e.f2),.d (il e.t1),.d (il e.t2),.d (il e.b)]):=by
 rw [F194]
 simp only [G194,q0I,q3w]
 rw [q21 _ 4 _ rfl]
 simp only [q0c,q0B,q5t hi,r9,q0S,q0e]
theorem s195 (n:Nat) (a b c:Option (List E9)) (o:Option (List E5)) (i:Nat) (e:E9) (who:Int) (hi:(c.getD [])[i]?=some e):FN (n+1) 195 [il i,q0I a b c o,il who]=some (0,[.d (bl (decide (e.a=who))),.d (il e.f1),.d (il e.f2),.d (il e.t1),.d (il e.t2),.d (il e.b)]):=by
 rw [F195]
 simp only [G195,q0I,q3w]
 rw [q21 _ 4 _ rfl]
 simp only [q0c,q0B,q5t hi,r9,q0S,q0e]
def q1p (d who:Int):List E9→List (Option Int)
 | []=>[none]
 | e::r=>if e.a=who∧q3r e.f1 e.t2 d=true then some e.b::(if q3L e.f2 e.t1 d=true then [] else q1p d who r) else q1p d who r
def below (l:List E9) (m:Nat):List E9:=(l.take m).reverse
theorem q5V (l:List E9):below l 0=[]:=rfl
theorem q4m {l:List E9} {m:Nat} {e:E9} (h:l[m]?=some e):below l (m+1)=e::below l m:=by
 unfold below
 rw [List.take_add_one,h]
 simp
def q3G (f:Option Int→Int) (acc:List Int) (os:List (Option Int)):List Int:=os.foldl (fun acc o=>ins (f o) acc) acc
theorem q6r (f:Option Int→Int):∀ (os:List (Option Int)) {acc:List Int},Up acc→Up (q3G f acc os)
 | [],_,h=>h
 | _::os,_,h=>q6r f os (q35 _ h)
theorem q5D (f:Option Int→Int) (z:Int):∀ (os:List (Option Int)) (acc:List Int),z∈q3G f acc os↔z∈acc∨∃ o∈os,z=f o
 | [],acc=>by simp [q3G]
 | o::os,acc=>by
  show z∈q3G f (ins (f o) acc) os↔_
  rw [q5D f z os,q30]
  constructor
  ·rintro ((h | h) | ⟨q,hq,h⟩)
   ·exact .inr ⟨o,by simp,h⟩
   ·exact .inl h
   ·exact .inr ⟨q,by simp [hq],h⟩
  ·rintro (h | ⟨q,hq,h⟩)
   ·exact .inl (.inr h)
   ·rcases List.mem_cons.1 hq with rfl | hq
    ·exact .inl (.inl h)
    ·exact .inr ⟨q,hq,h⟩
end Go.VE
namespace Go.VE
open Go.RowKit Go.Proofs
def f0 (o:Option Int):Int:=o.getD 0
def en12 (d who:Int) (kin:D) (m:Nat) (acc:List Int):Nat×List Yr:=match acc with
 | []=>(0,[.d (il d),.d (il ((m:Int) - 1)),.d kin,.d (il who)])
 | y::r=>(1,[.d (il d),.d (il ((m:Int) - 1)),.r ((y::r).map rI),.n (y::r).length,.n (y::r).length,.d kin,.d (il who)])
def Q12 (n:Nat) (who:Int) (kin:D) (T:List Int) (r:Out):Prop :=
 (∃ acc:List Int,acc≠[]∧Up acc∧acc.length≤n∧((r=some (1,[.r (acc.map rI),.n acc.length,.n acc.length,.d kin,.d (il who)])∧acc=T)∨(r=some (3,[.r (acc.map rI),.n acc.length,.n acc.length,.d kin,.d (il who)])∧ins 0 acc=T)))∨(r=some (2,[.d kin,.d (il who)])∧ins 0 []=T)
theorem qbo {Fn:Nat→List D→Out} {FnD:D→List Sh→List D→Out} {m:Nat} (new:Rr) (k:Rr→Out):(q04 Fn FnD m).ins (il 0) [] new k=k new:=by
 have:=qfS (Fn:=Fn) (FnD:=FnD) (m:=m) 0 [] new k (Nat.le_refl _)
 simpa using this
theorem qbG (x:Int) (l:List Int):ins x l≠[]:=fun h=>by
 have:x∈ins x l:=(q30 x x l).2 (.inl rfl)
 rw [h] at this;simp at this
set_option maxRecDepth 20000 in
theorem l12 (n:Nat) (a b c:Option (List E9)) (o:Option (List E5)) (d who:Int) (hl:(a.getD []).length≤1000000) :
  Q12 (a.getD []).length who (q0I a b c o) (q3G f0 [] (q1p d who (below (a.getD []) (a.getD []).length))) (q0p [qaJ (RP (n+4)),qaI (RP (n+4))] M0 0 [.d (il d),.d (il (((a.getD []).length:Int) - 1)),.d (q0I a b c o),.d (il who)]):=by
 have:=q5F (σ:=Nat×List Int) [qaJ (RP (n+4)),qaI (RP (n+4))] (fun s=>en12 d who (q0I a b c o) s.1 s.2) (fun s=>s.1)
  (fun s=>s.1≤(a.getD []).length∧Up s.2∧s.2.length+s.1≤(a.getD []).length∧q3G f0 s.2 (q1p d who (below (a.getD []) s.1))=q3G f0 [] (q1p d who (below (a.getD []) (a.getD []).length)))
  (Q12 (a.getD []).length who (q0I a b c o) (q3G f0 [] (q1p d who (below (a.getD []) (a.getD []).length)))) ?_ M0 ((a.getD []).length,[]) ⟨Nat.le_refl _,by simp,by simp,rfl⟩ (by unfold M0;simp only;omega)
 ·exact this
 ·generalize q3G f0 [] (q1p d who (below (a.getD []) (a.getD []).length))=T
  rintro ⟨m,acc⟩ k ⟨g1,g2,g3,g4⟩ ih
  simp only at g1 g2 g3 g4 ih
  cases m with
  | zero =>
   rw [q5V] at g4
   cases acc with
   | nil =>
    refine ⟨qaJ (RP (n+4)),rfl,.inr ⟨?_,g4⟩⟩
    simp [en12,qaJ]
   | cons y r =>
    refine ⟨qaI (RP (n+4)),rfl,.inl ⟨y::r,by simp,g2,by omega,.inr ⟨?_,g4⟩⟩⟩
    simp [en12,qaI]
  | succ m =>
   obtain ⟨e,he⟩:∃ e,(a.getD [])[m]?=some e:=⟨_,List.getElem?_eq_getElem (by omega)⟩
   rw [q4m he,q1p] at g4
   have hm:(((m+1:Nat):Int) - 1)=((m:Nat):Int):=by omega
   have hw:IntKind.i64.wrap (((m:Nat):Int) - 1)=((m:Nat):Int) - 1:=q0l (by omega) (by omega)
   have h157:=s157 (n+3) a b c o m e who he
   cases acc with
   | nil =>
    refine ⟨qaJ (RP (n+4)),rfl,?_⟩
    simp only [en12,hm,qaJ,q03,q08,q05,q2f,q00]
    rw [if_pos (by simp)]
    simp only [q0a,h157,q01,q03,q08,q0N,q00,q27,hw]
    by_cases h1:e.a=who
    ·rw [if_neg (by simp [h1])]
     simp only [qfk,q01,q03,q0N,q00]
     by_cases h2:q3r e.f1 e.t2 d=true
     ·rw [if_neg (by simp [h2])]
      rw [if_pos ⟨h1,h2⟩] at g4
      simp only [q1e,qg1,q01,q03,q08,q00,Bool.false_eq_true,if_true,if_false,q1i,q0K,q0Q,q0M,List.length_cons,List.length_nil,q0T,List.take_succ_cons,List.take_zero,q1O,q19]
      rw [if_pos (by simp [])]
      simp only [qbo,q01,q8P,q03,q00]
      by_cases h3:q3L e.f2 e.t1 d=true
      ·rw [if_pos h3] at g4 ⊢
       exact .inl ⟨[e.b],by simp,by simp,by simp;omega,.inl ⟨rfl,g4⟩⟩
      ·rw [if_neg h3] at g4 ⊢
       exact ih (m,[e.b]) ⟨by simp only;omega,by simp,by simp only [List.length_singleton];omega,g4⟩ (by simp only;omega)
     ·rw [if_pos (by simp [h2])]
      rw [if_neg fun h=>h2 h.2] at g4
      exact ih (m,[]) ⟨by simp only;omega,g2,by simp only [List.length_nil];omega,g4⟩ (by simp only;omega)
    ·rw [if_pos (by simp [h1])]
     rw [if_neg fun h=>h1 h.1] at g4
     exact ih (m,[]) ⟨by simp only;omega,g2,by simp only [List.length_nil];omega,g4⟩ (by simp only;omega)
   | cons y r =>
    refine ⟨qaI (RP (n+4)),rfl,?_⟩
    simp only [en12,hm,qaI,q03,q08,q0P,q0O,q0F,q0V,q05,q2f,q00]
    rw [if_pos (by simp)]
    simp only [q0a,h157,q01,q03,q08,q0N,q00,q27,hw]
    by_cases h1:e.a=who
    ·rw [if_neg (by simp [h1])]
     simp only [qfk,q01,q03,q0N,q00]
     by_cases h2:q3r e.f1 e.t2 d=true
     ·rw [if_neg (by simp [h2])]
      rw [if_pos ⟨h1,h2⟩] at g4
      have hlen:(y::r).length=((y::r).map rI).length:=by simp
      have hput:=q10 n (y::r) e.b (by simp only [List.length_cons] at g3 ⊢;omega) g2
      simp only [q0Q,q0T,List.length_map,if_true,q1k,hput,q01,q03,q0H,q8P,q00]
      have hil:=q31 e.b (y::r)
      have hne:=qbG e.b (y::r)
      have hup:=q35 e.b g2
      by_cases h3:q3L e.f2 e.t1 d=true
      ·rw [if_pos h3] at g4 ⊢
       exact .inl ⟨ins e.b (y::r),hne,hup,by simp only [List.length_cons] at g3 hil ⊢;omega,.inl ⟨rfl,g4⟩⟩
      ·rw [if_neg h3] at g4 ⊢
       have:=ih (m,ins e.b (y::r)) ⟨by simp only;omega,hup,by simp only [List.length_cons] at g3 hil ⊢;omega,g4⟩ (by simp only;omega)
       revert this
       generalize ins e.b (y::r)=q at hne
       cases q with
       | nil=>exact absurd rfl hne
       | cons z zs=>intro this;exact this
     ·rw [if_pos (by simp [h2])]
      rw [if_neg fun h=>h2 h.2] at g4
      exact ih (m,y::r) ⟨by simp only;omega,g2,by simp only at g3 ⊢;omega,g4⟩ (by simp only;omega)
    ·rw [if_pos (by simp [h1])]
     rw [if_neg fun h=>h1 h.1] at g4
     exact ih (m,y::r) ⟨by simp only;omega,g2,by simp only at g3 ⊢;omega,g4⟩ (by simp only;omega)
end Go.VE
namespace Go.VE
open Go.RowKit Go.Proofs
def q1d (d who:Int) (l:List E9):List Int:=q3G f0 [] (q1p d who (below l l.length))
theorem q0s (k:Int) (o:Option (List E9)):(kn9 k o).getD []=q4l k (o.getD []):=by cases o<;>rfl
theorem q2Q (k:Int) (o:Option (List E5)):(kn5 k o).getD []=qfp k (o.getD []):=by cases o<;>rfl
theorem q5W {ok ps fs:Bool} {p f:Int} {ds:List Int} (h:q2l ok ps fs p f ds=0):ok=true:=by
 unfold q2l at h
 cases ok with
 | true=>rfl
 | false=>simp at h
theorem q1y {a b c:List E9} {o:List E5} (h:q0D a b c o=true):a.length≤60∧b.length≤60∧c.length≤60∧o.length≤60:=by
 unfold q0D at h
 simp only [Bool.and_eq_true,decide_eq_true_eq] at h
 exact h.1.1.1.1
set_option maxRecDepth 20000 in
theorem s12 (n:Nat) (p d k:Int) (a b c:Option (List E9)) (o:Option (List E5)) (ha:(a.getD []).length*72≤140737488351232) (hb:(b.getD []).length*72≤140737488351232) (hc:(c.getD []).length*72≤140737488351232) (ho:(o.getD []).length*40≤140737488351232) :
  FN (n+11) 12 [d9 a,d9 b,d9 c,d5 o,il p,il d,il k]=if q2l (q0D (a.getD []) (b.getD []) (c.getD []) (o.getD [])) true false p 0 [d,k]=0 then some (0,[.d (dI (some (q1d d p (q4l k (a.getD []))))),.d (il 0)]) else some (0,[.d (dI none),.d (il (q2l (q0D (a.getD []) (b.getD []) (c.getD []) (o.getD [])) true false p 0 [d,k]))]):=by
 rw [F12]
 have h73:=s73 n p 0 true false a b c o [d] k (by simp) ha hb hc ho
 rw [show dI (some ([d]++[k]))=.sl 1 [[il d],[il k]] from rfl] at h73
 simp only [G12,q0a,s72,q01,q03,q08,q0K,q1k,h73]
 simp only [List.cons_append,List.nil_append]
 by_cases he:q2l (q0D (a.getD []) (b.getD []) (c.getD []) (o.getD [])) true false p 0 [d,k]=0
 ·rw [if_pos he]
  have hlen:=(q1y (q5W he)).1
  have hcl:((kn9 k a).getD []).length≤60:=by
   rw [q0s];exact Nat.le_trans (List.length_filter_le _ _) hlen
  have hl12:=l12 (n+6) (kn9 k a) (kn9 k b) (kn9 k c) (kn5 k o) d p (by omega)
  simp only [q4R,he,if_true,q01,q03,q08,q05,q12,ne_eq,not_true_eq_false,decide_false,q00,Bool.false_eq_true,if_false,q0I,q3w]
  rw [q21 _ 4 _ rfl]
  simp only [q0c,q65,q27]
  rw [q0l (by omega) (by omega)]
  simp only [q0q]
  simp only [q0I] at hl12
  rw [q0s] at hl12
  rw [q0s] at hcl
  simp only [q0s]
  unfold Q12 at hl12
  rw [show q1d d p (q4l k (a.getD []))=q3G f0 [] (q1p d p (below (q4l k (a.getD [])) (q4l k (a.getD [])).length)) from rfl]
  have ht:∀ q:List Int,(q.map rI).take q.length=q.map rI:=fun q=>List.take_of_length_le (by simp)
  rcases hl12 with ⟨acc,hne,hup,hle,(⟨hr,hT⟩ | ⟨hr,hT⟩)⟩ | ⟨hr,hT⟩
  ·rw [hr,← hT]
   simp [dI,dSl,ht]
  ·rw [hr,← hT]
   have hput:=q10 (n+6) acc 0 (by omega) hup
   simp [hput,dI,dSl]
  ·rw [hr,← hT]
   simp [qg1,qbo,dI,dSl,ins,rI]
 ·rw [if_neg he]
  simp only [q4R,if_neg he,q01,q03,q08,q05,q12,q00]
  rw [if_pos (by simpa using he)]
  simp [dI,dSl]
end Go.VE
namespace Go.VE
open Go.RowKit Go.Proofs
end Go.VE
namespace Go.VE
open Go.RowKit Go.Proofs
theorem qb1 (d who:Int) (l:List E9):Up (q1d d who l):=q6r _ _ (by simp)
end Go.VE
namespace Go.VE
open Go.RowKit Go.Proofs
def fm (o:Option Int):Int:=o.getD (-1)
def q2W (d who:Int) (l:List E9):List Int:=q3G fm [] (q1p d who (below l l.length))
theorem qfA (d who:Int) (l:List E9):Up (q2W d who l):=q6r _ _ (by simp)
end Go.VE
namespace Go.VE
open Go.RowKit Go.Proofs
def qgG (d who:Int) (l:List E5):Bool:=l.any fun e=>decide (e.a=who∧e.day=d - 1)
theorem s218 (n:Nat) (e:E5) (d who:Int) (hd:0≤d∧d≤4166):FN (n+1) 218 (r5 e++[il who,il d])=some (0,[.d (bl (decide (e.a=who∧e.day=d - 1)))]):=by
 rw [r5]
 simp only [List.cons_append,List.nil_append]
 rw [F218]
 have hwd:IntKind.i64.wrap (d - 1)=d - 1:=q0l (by omega) (by omega)
 simp only [G218,q0S,q00,q05,q27,hwd,q0e,q15]
 by_cases h:e.a=who<;>simp [h]
theorem d218 (n:Nat) (e:E5) (d who:Int) (hd:0≤d∧d≤4166):FD (n+1) (.fn 218 [.dp [il who] 0,.dp [il d] 0]) [.agg 5] (r5 e)=some (0,[.d (bl (decide (e.a=who∧e.day=d - 1)))]) :=
 q3F [.agg 5,.ptr 1,.ptr 1] [.agg (r5 e)] (by decide) rfl (by kernel_rfl) rfl (by kernel_rfl) (s218 n e d who hd)
theorem s214 (n:Nat) (x y z:D) (o:Option (List E5)) (d who:Int) (hd:0≤d∧d≤4166) (hl:(o.getD []).length≤4611686018427387904):FN (n+5) 214 [x,y,z,d5 o,il who,il d]=some (0,[.d (bl (qgG d who (o.getD [])))]):=by
 rw [F214]
 simp only [G214,q0a,q4E,q68,s125 (n+1) o hl (.fn 218 [.dp [il who] 0,.dp [il d] 0]) _ (fun e _=>d218 n e d who hd),q01,q03,q0e]
 rfl
end Go.VE
namespace Go.VE
open Go.RowKit Go.Proofs
def walkI (b:Bool) (q r:List Int):Int:=if (b||decide (q=[0])||!decide (-1∈r))=true then 0 else if 0∈q∨1 < r.length then 2 else 1
end Go.VE
namespace Go.VE
open Go.RowKit Go.Proofs
def qdb (a c:List E9) (o:List E5) (d p:Int):Int:=walkI (qgG d p o) (q1d d p a) (q2W d p c)
def byI (a c:List E9) (o:List E5) (d z:Int):Int:=if 0 < z then qdb a c o d z else if z=0 then 0 else 1
end Go.VE
namespace Go.VE
open Go.RowKit Go.Proofs
def q5N (a c:List E9) (o:List E5) (d who:Int):Int :=
 if (qgG d who o||decide (q1d d who a=[0]))=true then 0 else q7W ((q2W d who c).any fun z=>decide (byI a c o d z≠0)) (decide (0∈q1d d who a)||(q2W d who c).any fun z=>decide (byI a c o d z≠1))
end Go.VE
namespace Go.VE
open Go.RowKit Go.Proofs
theorem q4a {ok ps fs:Bool} {p f d k:Int} (h:q2l ok ps fs p f [d,k]=0):(0≤d∧d≤4166)∧0≤k∧k≤4166:=by
 unfold q2l at h
 split at h
 ·simp at h
 ·split at h
  ·simp at h
  ·split at h
   ·simp at h
   ·split at h
    ·simp at h
    ·rename_i hh
     simp only [List.any_cons,List.any_nil,Bool.or_false,Bool.or_eq_true,Bool.not_eq_true',decide_eq_false_iff_not,not_or,Decidable.not_not] at hh
     exact hh
end Go.VE
namespace Go.VE
open Go.RowKit Go.Proofs
def q06 (acc l:List Int):List Int:=l.foldl (fun acc x=>ins x acc) acc
theorem qcB (acc:List Int):q06 acc []=acc:=rfl
theorem q4I (acc:List Int) (x:Int) (l:List Int):q06 acc (x::l)=q06 (ins x acc) l:=rfl
theorem q0R:∀ (l:List Int) {acc:List Int},Up acc→Up (q06 acc l)
 | [],_,h=>h
 | x::l,_,h=>q0R l (q35 x h)
theorem q1I (z:Int):∀ (l acc:List Int),z∈q06 acc l↔z∈acc∨z∈l
 | [],acc=>by simp [q06]
 | x::l,acc=>by
  rw [q4I,q1I z l,q30,List.mem_cons]
  constructor
  ·rintro ((h | h) | h)
   ·exact .inr (.inl h)
   ·exact .inl h
   ·exact .inr (.inr h)
  ·rintro (h | h | h)
   ·exact .inl (.inr h)
   ·exact .inl (.inl h)
   ·exact .inr h
theorem q1g:∀ (l acc:List Int),(q06 acc l).length≤acc.length+l.length
 | [],acc=>by simp [q06]
 | x::l,acc=>by
  have h1:=q1g l (ins x acc)
  have h2:=q31 x acc
  rw [q4I];simp only [List.length_cons];omega
def q3O (L:Int→List Int) (f:Int):List (Option Int)→List Int→List Int
 | [],acc=>acc
 | none::os,acc=>q3O L f os (ins f acc)
 | some w::os,acc=>q3O L f os (q06 acc (L w))
theorem q3z {L M:Int→List Int} (f:Int):∀ {os:List (Option Int)} (acc:List Int),(∀ w,some w∈os→L w=M w)→q3O L f os acc=q3O M f os acc
 | [],_,_=>rfl
 | none::os,acc,h=>q3z f (os:=os) _ fun w hw=>h w (List.mem_cons_of_mem _ hw)
 | some w::os,acc,h=>by
  rw [q3O,q3O,h w (by simp)]
  exact q3z f (os:=os) _ fun w hw=>h w (List.mem_cons_of_mem _ hw)
theorem q88 (L:Int→List Int) (f:Int):∀ (os:List (Option Int)) {acc:List Int},Up acc→Up (q3O L f os acc)
 | [],_,h=>h
 | none::os,_,h=>q88 L f os (q35 f h)
 | some _::os,_,h=>q88 L f os (q0R _ h)
theorem q6H (L:Int→List Int) (f z:Int):∀ (os:List (Option Int)) (acc:List Int),z∈q3O L f os acc↔z∈acc∨(none∈os∧z=f)∨∃ w,some w∈os∧z∈L w
 | [],acc=>by simp [q3O]
 | none::os,acc=>by
  rw [q3O,q6H L f z os,q30]
  constructor
  ·rintro ((h | h) | ⟨h1,h2⟩ | ⟨w,hw,h⟩)
   ·exact .inr (.inl ⟨by simp,h⟩)
   ·exact .inl h
   ·exact .inr (.inl ⟨by simp,h2⟩)
   ·exact .inr (.inr ⟨w,by simp [hw],h⟩)
  ·rintro (h | ⟨_,h⟩ | ⟨w,hw,h⟩)
   ·exact .inl (.inr h)
   ·exact .inl (.inl h)
   ·exact .inr (.inr ⟨w,by simpa using hw,h⟩)
 | some v::os,acc=>by
  rw [q3O,q6H L f z os,q1I]
  constructor
  ·rintro ((h | h) | ⟨h1,h2⟩ | ⟨w,hw,h⟩)
   ·exact .inl h
   ·exact .inr (.inr ⟨v,by simp,h⟩)
   ·exact .inr (.inl ⟨by simp [h1],h2⟩)
   ·exact .inr (.inr ⟨w,by simp [hw],h⟩)
  ·rintro (h | ⟨h1,h⟩ | ⟨w,hw,h⟩)
   ·exact .inl (.inl h)
   ·exact .inr (.inl ⟨by simpa using h1,h⟩)
   ·rcases List.mem_cons.1 hw with e | hw
    ·cases e;exact .inl (.inr h)
    ·exact .inr (.inr ⟨w,hw,h⟩)
def qad (d:Int) (l:List E9):Nat→Int→List Int
 | 0,_=>[]
 | n+1,f=>q3O (qad d l n) f (q1p d f (below l l.length)) []
def q0f (d:Int) (l:List E9) (f:Int):List Int:=qad d l f.toNat f
def q9O (l:List E9):Prop:=∀ e∈l,1≤e.b∧e.b < e.a∧e.a≤99
theorem q52 (d who:Int):∀ (l:List E9) (w:Int),some w∈q1p d who l→∃ e∈l,e.a=who∧e.b=w∧q3r e.f1 e.t2 d=true
 | [],w,h=>by simp [q1p] at h
 | e::r,w,h=>by
  simp only [q1p] at h
  split at h
  ·rename_i h1
   rcases List.mem_cons.1 h with h | h
   ·cases h;exact ⟨e,by simp,h1.1,rfl,h1.2⟩
   ·split at h
    ·simp at h
    ·obtain ⟨e',h2,h3⟩:=q52 d who r w h
     exact ⟨e',by simp [h2],h3⟩
  ·obtain ⟨e',h2,h3⟩:=q52 d who r w h
   exact ⟨e',by simp [h2],h3⟩
theorem q6C (d who:Int):∀ l:List E9,q1p d who l≠[]
 | []=>by simp [q1p]
 | e::r=>by
  simp only [q1p]
  split
  ·simp
  ·exact q6C d who r
theorem q6L {l:List E9} {m:Nat} {e:E9} (h:e∈below l m):e∈l:=by
 unfold below at h
 exact List.mem_of_mem_take (List.mem_reverse.1 h)
theorem q53 {d f:Int} {l:List E9} {m:Nat} (hl:q9O l) {w:Int} (h:some w∈q1p d f (below l m)):1≤w∧w < f∧f≤99:=by
 obtain ⟨e,he,h1,h2,_⟩:=q52 _ _ _ _ h
 have:=hl e (q6L he)
 omega
theorem qgb {d:Int} {l:List E9} (hl:q9O l):∀ (n:Nat) (f:Int),1≤f→f.toNat≤n→qad d l n f=q0f d l f:=by
 intro n
 induction n using Nat.strongRecOn with
 | _ n ih =>
  intro f h1 h2
  cases n with
  | zero=>omega
  | succ n =>
   unfold q0f
   obtain ⟨m,hm⟩:∃ m,f.toNat=m+1:=⟨f.toNat - 1,by omega⟩
   rw [hm,qad,qad]
   refine q3z f _ fun w hw=>?_
   have:=q53 hl hw
   rw [ih n (by omega) w this.1 (by omega),ih m (by omega) w this.1 (by omega)]
theorem q9r {d:Int} {l:List E9} (hl:q9O l) {f:Int} (h1:1≤f):q0f d l f=q3O (q0f d l) f (q1p d f (below l l.length)) []:=by
 obtain ⟨m,hm⟩:∃ m,f.toNat=m+1:=⟨f.toNat - 1,by omega⟩
 unfold q0f
 rw [hm,qad]
 refine q3z f _ fun w hw=>?_
 have:=q53 hl hw
 exact qgb hl m w this.1 (by omega)
theorem qdd (d:Int) (l:List E9) (f:Int):Up (q0f d l f):=by
 unfold q0f
 cases f.toNat with
 | zero=>simp [qad]
 | succ m=>exact q88 _ _ _ (by simp)
theorem q5E {d:Int} {l:List E9} (hl:q9O l) {f z:Int} (h1:1≤f):z∈q0f d l f↔(none∈q1p d f (below l l.length)∧z=f)∨∃ w,some w∈q1p d f (below l l.length)∧z∈q0f d l w:=by
 rw [q9r hl h1,q6H];simp
theorem q1t {d:Int} {l:List E9} (hl:q9O l):∀ (n:Nat) (f z:Int),f.toNat≤n→1≤f→z∈q0f d l f→1≤z∧z≤f:=by
 intro n
 induction n with
 | zero=>intro f z h1 h2;omega
 | succ n ih =>
  intro f z h1 h2 h
  rcases (q5E hl h2).1 h with ⟨_,rfl⟩ | ⟨w,hw,h⟩
  ·exact ⟨h2,Int.le_refl _⟩
  ·have:=q53 hl hw
   have:=ih w z (by omega) this.1 h
   omega
theorem q5b {d:Int} {l:List E9} (hl:q9O l):∀ (n:Nat) (f:Int),f.toNat≤n→1≤f→∃ z,z∈q0f d l f:=by
 intro n
 induction n with
 | zero=>intro f h1 h2;omega
 | succ n ih =>
  intro f h1 h2
  have hne:=q6C d f (below l l.length)
  revert hne
  generalize hq:q1p d f (below l l.length)=q
  intro hne
  cases q with
  | nil=>exact absurd rfl hne
  | cons o os =>
   cases o with
   | none=>exact ⟨f,(q5E hl h2).2 (.inl ⟨by rw [hq];simp,rfl⟩)⟩
   | some w =>
    have hw:some w∈q1p d f (below l l.length):=by rw [hq];simp
    have:=q53 hl hw
    obtain ⟨z,hz⟩:=ih w (by omega) this.1
    exact ⟨z,(q5E hl h2).2 (.inr ⟨w,hw,hz⟩)⟩
theorem qb0:∀ (l:List Int) (a b:Int),Up l→(∀ z∈l,a≤z∧z≤b)→(l.length:Int)≤max 0 (b - a+1)
 | [],a,b,_,_=>by simp;omega
 | x::l,a,b,hu,h=>by
  rw [Up,List.pairwise_cons] at hu
  have hx:=h x (by simp)
  have:=qb0 l (x+1) b hu.2 fun z hz=>⟨by have:=hu.1 z hz;omega,(h z (by simp [hz])).2⟩
  simp only [List.length_cons,Int.natCast_add,Int.natCast_one]
  omega
theorem q5J {d:Int} {l:List E9} (hl:q9O l) {f:Int} (h1:1≤f):((q0f d l f).length:Int)≤f:=by
 have:=qb0 _ 1 f (qdd d l f) fun z hz=>q1t hl _ f z (Nat.le_refl _) h1 hz
 omega
end Go.VE
namespace Go.VE
open Go.RowKit Go.Proofs
def q34 (a c:List E9) (o:List E5) (d p:Int):Bool×Bool:=if qgG d p o=true then (false,true) else
 (((q1p d p (below a a.length)).any fun x=>decide (f0 x≠0))&&(q1p d p (below c c.length)).any Option.isNone,((q1p d p (below a a.length)).any fun x=>decide (f0 x=0))||(q1p d p (below c c.length)).any Option.isSome)
def q1T (W:Int→Bool×Bool):Option Int→Bool×Bool
 | none=>(true,false)
 | some z=>if z=0 then (false,true) else W z
def goP (a c:List E9) (o:List E5) (d p:Int):Bool×Bool:=if qgG d p o=true then (false,true) else
 ((q1p d p (below c c.length)).any fun x=>(q1T (q34 a c o d) x).1,(q1p d p (below c c.length)).any fun x=>(q1T (q34 a c o d) x).2)
def q0x (L:Int→List Int) (yes no:Bool) (x:Option Int) (acc:List Int):List Int :=
 if f0 x=0∨yes=false then (if f0 x=0∨no=true then ins 0 acc else acc) else q06 (if f0 x=0∨no=true then ins 0 acc else acc) (L (f0 x))
def qas (L:Int→List Int) (yes no:Bool):List (Option Int)→List Int→List Int
 | [],acc=>acc
 | x::os,acc=>qas L yes no os (q0x L yes no x acc)
def q3I (a b c:List E9) (o:List E5) (d p:Int):List Int:=qas (q0f d b) (goP a c o d p).1 (goP a c o d p).2 (q1p d p (below a a.length)) []
theorem q7x (L:Int→List Int) (yes no:Bool) (x:Option Int) {acc:List Int} (h:Up acc):Up (q0x L yes no x acc):=by
 unfold q0x
 have h1:Up (if f0 x=0∨no=true then ins 0 acc else acc):=by split;exact q35 0 h;exact h
 split
 ·exact h1
 ·exact q0R _ h1
theorem qdf (L:Int→List Int) (yes no:Bool):∀ (os:List (Option Int)) {acc:List Int},Up acc→Up (qas L yes no os acc)
 | [],_,h=>h
 | x::os,_,h=>qdf L yes no os (q7x L yes no x h)
theorem q5u (a b c:List E9) (o:List E5) (d p:Int):Up (q3I a b c o d p):=qdf _ _ _ _ (by simp)
theorem q6J (L:Int→List Int) (yes no:Bool) (x:Option Int) (acc:List Int) (z:Int):z∈q0x L yes no x acc↔z∈acc∨(z=0∧(f0 x=0∨no=true))∨(yes=true∧f0 x≠0∧z∈L (f0 x)):=by
 unfold q0x
 by_cases h0:f0 x=0
 ·simp only [h0,true_or,if_true,q30,and_true,ne_eq,not_true_eq_false,false_and,and_false,or_false]
  exact Or.comm
 ·cases yes with
  | false =>
   cases no with
   | false=>simp [h0]
   | true=>simp [h0,q30];exact Or.comm
  | true =>
   cases no with
   | false=>simp [h0,q1I]
   | true =>
    simp only [h0,false_or,Bool.true_eq_false,if_false,if_true,q1I,q30,and_true,true_and,ne_eq,not_false_eq_true]
    constructor
    ·rintro ((h | h) | h)
     ·exact .inr (.inl h)
     ·exact .inl h
     ·exact .inr (.inr h)
    ·rintro (h | h | h)
     ·exact .inl (.inr h)
     ·exact .inl (.inl h)
     ·exact .inr h
theorem qby (L:Int→List Int) (yes no:Bool) (z:Int):∀ (os:List (Option Int)) (acc:List Int),z∈qas L yes no os acc↔z∈acc∨(z=0∧∃ x∈os,f0 x=0∨no=true)∨(yes=true∧∃ x∈os,f0 x≠0∧z∈L (f0 x))
 | [],acc=>by simp [qas]
 | x::os,acc=>by
  rw [qas,qby L yes no z os,q6J]
  constructor
  ·rintro ((h | ⟨h1,h2⟩ | ⟨h1,h2,h3⟩) | ⟨h1,y,hy,h2⟩ | ⟨h1,y,hy,h2⟩)
   ·exact .inl h
   ·exact .inr (.inl ⟨h1,x,by simp,h2⟩)
   ·exact .inr (.inr ⟨h1,x,by simp,h2,h3⟩)
   ·exact .inr (.inl ⟨h1,y,by simp [hy],h2⟩)
   ·exact .inr (.inr ⟨h1,y,by simp [hy],h2⟩)
  ·rintro (h | ⟨h1,y,hy,h2⟩ | ⟨h1,y,hy,h2⟩)
   ·exact .inl (.inl h)
   ·rcases List.mem_cons.1 hy with rfl | hy
    ·exact .inl (.inr (.inl ⟨h1,h2⟩))
    ·exact .inr (.inl ⟨h1,y,hy,h2⟩)
   ·rcases List.mem_cons.1 hy with rfl | hy
    ·exact .inl (.inr (.inr ⟨h1,h2⟩))
    ·exact .inr (.inr ⟨h1,y,hy,h2⟩)
theorem q1f (d p z:Int) (a:List E9):z∈q1d d p a↔∃ x∈q1p d p (below a a.length),z=f0 x:=by
 unfold q1d;rw [q5D];simp
theorem q28 (d p z:Int) (c:List E9):z∈q2W d p c↔∃ x∈q1p d p (below c c.length),z=fm x:=by
 unfold q2W;rw [q5D];simp
theorem q33 {α:Type} (p:α→Bool) (l:List α):l.any p=true↔∃ x∈l,p x=true:=List.any_eq_true
def By0 (c:List E9):Prop:=∀ e∈c,0≤e.b
theorem qax {d p:Int} {c:List E9} (hc:By0 c) {m:Nat} {w:Int} (h:some w∈q1p d p (below c m)):0≤w:=by
 obtain ⟨e,he,_,h2,_⟩:=q52 _ _ _ _ h
 have:=hc e (q6L he)
 omega
theorem qid {l:List Int} {x:Int} (hx:x∈l) (hu:Up l):1 < l.length↔∃ z∈l,z≠x:=by
 cases l with
 | nil=>simp at hx
 | cons u r =>
  cases r with
  | nil =>
   simp at hx;subst hx
   constructor
   ·intro h;simp at h
   ·rintro ⟨z,hz,h⟩;simp at hz;exact absurd hz h
  | cons v r =>
   refine ⟨fun _=>?_,fun _=>by simp⟩
   rw [Up,List.pairwise_cons] at hu
   have:=hu.1 v (by simp)
   by_cases h:u=x
   ·exact ⟨v,by simp,by omega⟩
   ·exact ⟨u,by simp,h⟩
theorem qhs {l:List Int} {x:Int} (hu:Up l) (hne:∃ z,z∈l):l=[x]↔∀ z∈l,z=x:=by
 constructor
 ·rintro rfl z hz;simpa using hz
 ·intro h
  refine qh3 hu (by simp) fun z=>?_
  obtain ⟨y,hy⟩:=hne
  have:=h y hy;subst this
  constructor
  ·intro hz;simp [h z hz]
  ·intro hz;simp at hz;subst hz;exact hy
theorem q6m (d p:Int) (a:List E9):∃ z,z∈q1d d p a:=by
 have:=q6C d p (below a a.length)
 cases hq:q1p d p (below a a.length) with
 | nil=>exact absurd hq this
 | cons x q=>exact ⟨f0 x,(q1f ..).2 ⟨x,by rw [hq];simp,rfl⟩⟩
theorem qcV {d p:Int} {c:List E9} (hc:By0 c):-1∈q2W d p c↔none∈q1p d p (below c c.length):=by
 rw [q28]
 constructor
 ·rintro ⟨x,hx,h⟩
  cases x with
  | none=>exact hx
  | some w=>have:=qax hc hx;simp [fm] at h;omega
 ·intro h;exact ⟨none,h,rfl⟩
theorem qcU {d p:Int} {c:List E9} (hc:By0 c):(∃ z∈q2W d p c,z≠-1)↔∃ w,some w∈q1p d p (below c c.length):=by
 constructor
 ·rintro ⟨z,hz,h⟩
  obtain ⟨x,hx,rfl⟩:=(q28 ..).1 hz
  cases x with
  | none=>simp [fm] at h
  | some w=>exact ⟨w,hx⟩
 ·rintro ⟨w,hw⟩
  have:=qax hc hw
  exact ⟨w,(q28 ..).2 ⟨some w,hw,rfl⟩,by omega⟩
theorem q7M (l:List (Option Int)):l.any Option.isSome=true↔∃ w,some w∈l:=by
 rw [q33]
 constructor
 ·rintro ⟨x,hx,h⟩;cases x with
  | none=>simp at h
  | some w=>exact ⟨w,hx⟩
 ·rintro ⟨w,h⟩;exact ⟨_,h,rfl⟩
theorem qcA (l:List (Option Int)):l.any Option.isNone=true↔none∈l:=by
 rw [q33]
 constructor
 ·rintro ⟨x,hx,h⟩;cases x with
  | none=>exact hx
  | some w=>simp at h
 ·intro h;exact ⟨_,h,rfl⟩
theorem qaZ (a c:List E9) (o:List E5) (d p:Int) (h:(q34 a c o d p).1=false):(q34 a c o d p).2=true:=by
 revert h
 unfold q34
 split
 ·intro _;rfl
 ·simp only
  intro h
  rw [Bool.and_eq_false_iff] at h
  rw [Bool.or_eq_true]
  rcases h with h | h
  ·left
   obtain ⟨z,hz⟩:=q6m d p a
   obtain ⟨x,hx,rfl⟩:=(q1f ..).1 hz
   have h3:=(List.any_eq_false.1 h) x hx
   exact (q33 _ _).2 ⟨x,hx,by simpa using h3⟩
  ·right
   have:=q6C d p (below c c.length)
   rw [q7M]
   cases hq:q1p d p (below c c.length) with
   | nil=>exact absurd hq this
   | cons x q =>
    rw [hq] at h
    cases x with
    | none=>simp at h
    | some w=>exact ⟨w,by simp⟩
theorem qia (a c:List E9) (o:List E5) (d p:Int) (hc:By0 c):qdb a c o d p=q7W (q34 a c o d p).1 (q34 a c o d p).2:=by
 unfold qdb walkI q34
 cases hb:qgG d p o with
 | true=>simp [q7W]
 | false =>
  simp only [Bool.false_or,Bool.false_eq_true,if_false]
  have e1:q1d d p a=[0]↔((q1p d p (below a a.length)).any fun x=>decide (f0 x≠0))=false:=by
   rw [qhs (qb1 ..) (q6m ..),List.any_eq_false]
   constructor
   ·intro h x hx;have:=h _ ((q1f ..).2 ⟨x,hx,rfl⟩);simp [this]
   ·intro h z hz
    obtain ⟨x,hx,rfl⟩:=(q1f ..).1 hz
    have:=h x hx;simpa using this
  have e2:0∈q1d d p a↔((q1p d p (below a a.length)).any fun x=>decide (f0 x=0))=true:=by
   rw [q1f,q33]
   constructor
   ·rintro ⟨x,hx,h⟩;exact ⟨x,hx,by simp [←h]⟩
   ·rintro ⟨x,hx,h⟩;exact ⟨x,hx,by simpa using (of_decide_eq_true h).symm⟩
  have e3:-1∈q2W d p c↔(q1p d p (below c c.length)).any Option.isNone=true:=by rw [qcV hc,qcA]
  have e4:-1∈q2W d p c→(1 < (q2W d p c).length↔(q1p d p (below c c.length)).any Option.isSome=true):=fun h=>by
   rw [qid h (qfA ..),qcU hc,q7M]
  revert e1 e2 e3 e4
  generalize (q1p d p (below a a.length)).any (fun x=>decide (f0 x≠0))=q1
  generalize (q1p d p (below a a.length)).any (fun x=>decide (f0 x=0))=q2
  generalize (q1p d p (below c c.length)).any Option.isNone=q3
  generalize (q1p d p (below c c.length)).any Option.isSome=q4
  intro e1 e2 e3 e4
  cases q1 with
  | false=>simp [e1.2 rfl,q7W]
  | true =>
   have n1:¬ q1d d p a=[0]:=fun h=>by have:=e1.1 h;cases this
   cases q3 with
   | false =>
    have n3:¬ -1∈q2W d p c:=fun h=>by have:=e3.1 h;cases this
    simp [n1,n3,q7W]
   | true =>
    have n3:=e3.2 rfl
    have e4:=e4 n3
    rw [if_neg (by simp [n1,n3])]
    by_cases h2:0∈q1d d p a
    ·have:=e2.1 h2;subst this
     rw [if_pos (.inl h2)];simp [q7W]
    ·have:q2=false:=by cases q2;rfl;exact absurd (e2.2 rfl) h2
     subst this
     cases q4 with
     | true=>rw [if_pos (.inr (e4.2 rfl))];simp [q7W]
     | false =>
      rw [if_neg]
      ·simp [q7W]
      ·rintro (h | h)
       ·exact h2 h
       ·have:=e4.1 h;cases this
theorem qj9 (y n:Bool):q7W y n≠0↔y=true:=by cases y<;>cases n<;>simp [q7W]
theorem qgK (y n:Bool):q7W y n≠1↔(y=false∨n=true):=by cases y<;>cases n<;>simp [q7W]
theorem q6p (a c:List E9) (o:List E5) (d:Int) (hc:By0 c) (x:Option Int) (hx:∀ w,x=some w→0≤w):(byI a c o d (fm x)≠0↔(q1T (q34 a c o d) x).1=true)∧(byI a c o d (fm x)≠1↔(q1T (q34 a c o d) x).2=true):=by
 cases x with
 | none=>simp [byI,fm,q1T]
 | some w =>
  have:=hx w rfl
  by_cases h:w=0
  ·subst h;simp [byI,fm,q1T]
  ·have h2:0 < w:=by omega
   simp only [byI,fm,Option.getD_some,h2,if_true,q1T,h,if_false]
   rw [qia a c o d w hc,qj9,qgK]
   refine ⟨Iff.rfl,⟨fun h=>?_,fun h=>.inr h⟩⟩
   rcases h with h | h
   ·exact qaZ _ _ _ _ _ h
   ·exact h
theorem qhS (a c:List E9) (o:List E5) (d p:Int) (hc:By0 c):((q2W d p c).any fun z=>decide (byI a c o d z≠0))=((q1p d p (below c c.length)).any fun x=>(q1T (q34 a c o d) x).1)∧((q2W d p c).any fun z=>decide (byI a c o d z≠1))=((q1p d p (below c c.length)).any fun x=>(q1T (q34 a c o d) x).2):=by
 have key:∀ x∈q1p d p (below c c.length),∀ w,x=some w→0≤w:=fun x hx w h=>by subst h;exact qax hc hx
 constructor
 ·rw [Bool.eq_iff_iff,q33,q33]
  constructor
  ·rintro ⟨z,hz,h⟩
   obtain ⟨x,hx,rfl⟩:=(q28 ..).1 hz
   exact ⟨x,hx,(q6p a c o d hc x (key x hx)).1.1 (by simpa using h)⟩
  ·rintro ⟨x,hx,h⟩
   exact ⟨fm x,(q28 ..).2 ⟨x,hx,rfl⟩,by simpa using (q6p a c o d hc x (key x hx)).1.2 h⟩
 ·rw [Bool.eq_iff_iff,q33,q33]
  constructor
  ·rintro ⟨z,hz,h⟩
   obtain ⟨x,hx,rfl⟩:=(q28 ..).1 hz
   exact ⟨x,hx,(q6p a c o d hc x (key x hx)).2.1 (by simpa using h)⟩
  ·rintro ⟨x,hx,h⟩
   exact ⟨fm x,(q28 ..).2 ⟨x,hx,rfl⟩,by simpa using (q6p a c o d hc x (key x hx)).2.2 h⟩
theorem qhI (a c:List E9) (o:List E5) (d p:Int) (h:(goP a c o d p).1=false):(goP a c o d p).2=true:=by
 revert h
 unfold goP
 split
 ·intro _;rfl
 ·simp only
  intro h
  have:=q6C d p (below c c.length)
  cases hq:q1p d p (below c c.length) with
  | nil=>exact absurd hq this
  | cons x q =>
   rw [hq] at h
   have h1:=List.any_eq_false.1 h x (by simp)
   have h2:(q1T (q34 a c o d) x).2=true:=by
    cases x with
    | none=>simp [q1T] at h1
    | some w =>
     simp only [q1T] at h1 ⊢
     split
     ·rfl
     ·rename_i hw
      rw [if_neg hw] at h1
      exact qaZ _ _ _ _ _ (by simpa using h1)
   exact (q33 _ _).2 ⟨x,by simp,h2⟩
theorem qeo (a c:List E9) (o:List E5) (d p:Int) (hc:By0 c):q5N a c o d p=q7W ((goP a c o d p).1&&!decide (q1d d p a=[0])) ((goP a c o d p).2||decide (0∈q1d d p a)):=by
 unfold q5N goP
 cases hb:qgG d p o with
 | true=>simp [q7W]
 | false =>
  simp only [Bool.false_or,Bool.false_eq_true,if_false]
  rw [(qhS a c o d p hc).1,(qhS a c o d p hc).2]
  by_cases h:q1d d p a=[0]
  ·simp [h,q7W]
  ·simp [h,Bool.or_comm]
theorem q6i {a b c:List E9} {o:List E5} {d p z:Int}:z∈q3I a b c o d p↔(z=0∧(0∈q1d d p a∨(goP a c o d p).2=true))∨((goP a c o d p).1=true∧∃ h∈q1d d p a,h≠0∧z∈q0f d b h):=by
 unfold q3I
 rw [qby]
 simp only [List.not_mem_nil,false_or]
 constructor
 ·rintro (⟨h1,x,hx,h2⟩ | ⟨h1,x,hx,h2,h3⟩)
  ·refine .inl ⟨h1,?_⟩
   rcases h2 with h2 | h2
   ·exact .inl ((q1f ..).2 ⟨x,hx,h2.symm⟩)
   ·exact .inr h2
  ·exact .inr ⟨h1,f0 x,(q1f ..).2 ⟨x,hx,rfl⟩,h2,h3⟩
 ·rintro (⟨h1,h2⟩ | ⟨h1,h,hh,h2,h3⟩)
  ·refine .inl ⟨h1,?_⟩
   rcases h2 with h2 | h2
   ·obtain ⟨x,hx,h2⟩:=(q1f ..).1 h2
    exact ⟨x,hx,.inl h2.symm⟩
   ·obtain ⟨z,hz⟩:=q6m d p a
    obtain ⟨x,hx,_⟩:=(q1f ..).1 hz
    exact ⟨x,hx,.inr h2⟩
  ·obtain ⟨x,hx,rfl⟩:=(q1f ..).1 hh
   exact .inr ⟨h1,x,hx,h2,h3⟩
theorem qhG {d p:Int} {a:List E9}:q1d d p a=[0]↔∀ h∈q1d d p a,h=0:=qhs (qb1 ..) (q6m ..)
end Go.VE
namespace Go.VE
open Go.RowKit Go.Proofs
def qgU (a:List E9):Prop:=∀ e∈a,1≤e.b∧e.b≤99
theorem q4J {d p:Int} {a:List E9} (ha:qgU a) {h:Int} (hh:h∈q1d d p a):0≤h∧h≤99:=by
 obtain ⟨x,hx,rfl⟩:=(q1f ..).1 hh
 cases x with
 | none=>simp [f0]
 | some w =>
  obtain ⟨e,he,_,h2,_⟩:=q52 _ _ _ _ hx
  have:=ha e (q6L he)
  simp only [f0,Option.getD_some];omega
theorem q47 {a b c:List E9} {o:List E5} {d p z:Int} (ha:qgU a) (hb:q9O b) (hz:z∈q3I a b c o d p):0≤z∧z≤99:=by
 rcases q6i.1 hz with ⟨rfl,_⟩ | ⟨_,h,hh,h0,hl⟩
 ·omega
 ·have:=q4J ha hh
  have:=q1t hb _ h z (Nat.le_refl _) (by omega) hl
  omega
theorem qbM {a b c:List E9} {o:List E5} {d p:Int} (ha:qgU a) (hb:q9O b):0∈q3I a b c o d p↔(0∈q1d d p a∨(goP a c o d p).2=true):=by
 rw [q6i]
 constructor
 ·rintro (⟨_,h⟩ | ⟨_,h,hh,h0,hl⟩)
  ·exact h
  ·have:=q4J ha hh
   have:=q1t hb _ h 0 (Nat.le_refl _) (by omega) hl
   omega
 ·intro h;exact .inl ⟨rfl,h⟩
theorem qeA {a b c:List E9} {o:List E5} {d p:Int} (ha:qgU a) (hb:q9O b):(∃ z∈q3I a b c o d p,z≠0)↔((goP a c o d p).1=true∧q1d d p a≠[0]):=by
 constructor
 ·rintro ⟨z,hz,h0⟩
  rcases q6i.1 hz with ⟨rfl,_⟩ | ⟨h1,h,hh,h2,_⟩
  ·exact absurd rfl h0
  ·exact ⟨h1,fun e=>h2 (qhG.1 e h hh)⟩
 ·rintro ⟨h1,h2⟩
  rw [Ne,qhG] at h2
  have:∃ h∈q1d d p a,h≠0:=by
   apply Classical.byContradiction;intro hn
   exact h2 fun h hh=>Classical.byContradiction fun h0=>hn ⟨h,hh,h0⟩
  obtain ⟨h,hh,h0⟩:=this
  have:=q4J ha hh
  obtain ⟨z,hz⟩:=q5b hb _ h (Nat.le_refl _) (by omega)
  have:=q1t hb _ h z (Nat.le_refl _) (by omega) hz
  exact ⟨z,q6i.2 (.inr ⟨h1,h,hh,h0,hz⟩),by omega⟩
theorem qeB {a b c:List E9} {o:List E5} {d p:Int} (ha:qgU a) (hb:q9O b):∃ z,z∈q3I a b c o d p:=by
 by_cases h:0∈q3I a b c o d p
 ·exact ⟨0,h⟩
 ·rw [qbM ha hb,not_or] at h
  have h1:(goP a c o d p).1=true:=by
   cases hq:(goP a c o d p).1
   ·exact absurd (qhI _ _ _ _ _ hq) h.2
   ·rfl
  have h2:q1d d p a≠[0]:=fun e=>h.1 (by rw [e];simp)
  obtain ⟨z,hz,_⟩:=(qeA (c:=c) (o:=o) ha hb).2 ⟨h1,h2⟩
  exact ⟨z,hz⟩
theorem qa3 {l:List Int} (hu:Up l) (hr:∀ z∈l,0≤z) (hne:∃ z,z∈l):∃ x r,l=x::r∧(x=0↔0∈l):=by
 cases l with
 | nil=>obtain ⟨z,hz⟩:=hne;simp at hz
 | cons x r =>
  refine ⟨x,r,rfl,fun h=>by simp [h],fun h=>?_⟩
  rw [Up,List.pairwise_cons] at hu
  rcases List.mem_cons.1 h with h | h
  ·exact h.symm
  ·have:=hu.1 0 h
   have:=hr x (by simp)
   omega
theorem qde:∀ {l:List Int},Up l→(∀ z∈l,0≤z)→∀ {y:Int},l[l.length - 1]?=some y→(y≠0↔∃ z∈l,z≠0)
 | [],_,_,y,h=>by simp at h
 | [x],_,_,y,h=>by simp at h;subst h;simp
 | x::w::r,hu,hr,y,h=>by
  rw [Up,List.pairwise_cons] at hu
  have h':(w::r)[(w::r).length - 1]?=some y:=by simpa using h
  have ih:=qde (l:=w::r) hu.2 (fun z hz=>hr z (List.mem_cons_of_mem _ hz)) h'
  have hm:y∈w::r:=List.mem_of_getElem? h'
  have h1:=hu.1 y hm
  have h2:=hr x (by simp)
  exact ⟨fun _=>⟨y,List.mem_cons_of_mem _ hm,by omega⟩,fun _=>by omega⟩
theorem qiQ {a b c:List E9} {o:List E5} {d p:Int} (ha:qgU a) (hb:q9O b) (hc:By0 c) {x y:Int} {r:List Int} (hx:q3I a b c o d p=x::r) (hy:(q3I a b c o d p)[(q3I a b c o d p).length - 1]?=some y):q7W (decide (y≠0)) (decide (x=0))=q5N a c o d p:=by
 have hr:∀ z∈q3I a b c o d p,0≤z:=fun z hz=>(q47 ha hb hz).1
 have h1:=qde (q5u a b c o d p) hr hy
 obtain ⟨x',r',e,h2⟩:=qa3 (q5u a b c o d p) hr (qeB ha hb)
 rw [hx] at e;cases e
 rw [qeA ha hb] at h1
 rw [qbM ha hb] at h2
 rw [qeo a c o d p hc]
 have e1:decide (y≠0)=((goP a c o d p).1&&!decide (q1d d p a=[0])):=by
  rw [Bool.eq_iff_iff,decide_eq_true_iff,h1];simp
 have e2:decide (x=0)=((goP a c o d p).2||decide (0∈q1d d p a)):=by
  rw [Bool.eq_iff_iff,decide_eq_true_iff,h2];simp [or_comm]
 rw [e1,e2]
def q8w (l:List Int) (f:Int):Int:=if f∈l then (if 1 < l.length then 2 else 1) else 0
theorem forP (l:List Int) (f x:Int) (r:List Int) (h:l=x::r):q7W (decide (f∈l)) (decide (1 < l.length)||decide (x≠f))=q8w l f:=by
 unfold q8w q7W
 subst h
 by_cases h1:f∈x::r
 ·simp only [h1,decide_true,if_true]
  by_cases h2:1 < (x::r).length
  ·simp only [h2,decide_true,Bool.true_or,if_true]
  ·have:r=[]:=by cases r;rfl;simp at h2
   subst this
   have:f=x:=by simpa using h1
   subst this
   simp
 ·simp [h1]
end Go.VE
namespace Go.VE
open Go.RowKit Go.Proofs
def optR {σ:Type} (step:σ→Int→σ) (stopO noneO:σ→Out):σ→List (Option Int)→Out
 | s,[]=>stopO s
 | s,none::_=>noneO s
 | s,some w::os=>optR step stopO noneO (step s w) os
def qje:List (Option Int)→Prop
 | []=>True
 | none::r=>r=[]
 | some _::r=>qje r
theorem q3X (d who:Int):∀ l:List E9,qje (q1p d who l)
 | []=>rfl
 | e::r=>by
  simp only [q1p]
  split
  ·split
   ·trivial
   ·exact q3X d who r
  ·exact q3X d who r
theorem q8f {σ:Type} (l:List E9) (hl:l.length≤1000000) (d who:Int) (bs:List ((Nat→List Yr→Out)→List Yr→Out)) (en:Nat→σ→Nat×List Yr) (I:Nat→σ→Prop) (step:σ→Int→σ) (stopO noneO:σ→Out)
  (h0:∀ s k,I 0 s→∃ b,bs[(en 0 s).1]?=some b∧b k (en 0 s).2=noneO s)
  (h1:∀ (m:Nat) e s (k:Nat→List Yr→Out),l[m]?=some e→m < l.length→IntKind.i64.wrap (((m:Nat):Int) - 1)=((m:Nat):Int) - 1→(((m+1:Nat):Int) - 1)=((m:Nat):Int)→I (m+1) s →
   I m s∧(e.a=who→q3r e.f1 e.t2 d=true→I m (step s e.b))∧∃ b,bs[(en (m+1) s).1]?=some b∧b k (en (m+1) s).2=if e.a=who∧q3r e.f1 e.t2 d=true then (if q3L e.f2 e.t1 d=true then stopO (step s e.b) else k (en m (step s e.b)).1 (en m (step s e.b)).2) else k (en m s).1 (en m s).2)
  (s:σ) (hs:I l.length s):q0p bs M0 (en l.length s).1 (en l.length s).2=optR step stopO noneO s (q1p d who (below l l.length)):=by
 refine q2A (σ:=Nat×σ) bs (fun s=>en s.1 s.2) (fun s=>s.1) (fun s=>s.1≤l.length∧I s.1 s.2) (fun s=>optR step stopO noneO s.2 (q1p d who (below l s.1))) ?_ M0 (l.length,s) ⟨Nat.le_refl _,hs⟩ (by unfold M0;simp only;omega)
 rintro ⟨m,s⟩ k ⟨g1,g2⟩ ih
 simp only at g1 g2 ih ⊢
 cases m with
 | zero=>exact h0 s k g2
 | succ m =>
  obtain ⟨e,he⟩:∃ e,l[m]?=some e:=⟨_,List.getElem?_eq_getElem (by omega)⟩
  obtain ⟨i1,i2,b,hb,hr⟩:=h1 m e s k he (by omega) (q0l (by omega) (by omega)) (by omega) g2
  refine ⟨b,hb,?_⟩
  rw [hr,q4m he,q1p]
  split
  ·rename_i hc
   split
   ·rfl
   ·exact ih (m,step s e.b) ⟨by simp only;omega,i2 hc.1 hc.2⟩ (by simp only;omega)
  ·exact ih (m,s) ⟨by simp only;omega,i1⟩ (by simp only;omega)
theorem q4i {σ:Type} {step:σ→Int→σ} {stopO noneO:σ→Out} (R:σ→List (Option Int)→Out) (h0:∀ s,stopO s=R s []) (h1:∀ s,noneO s=R s [none]) (h2:∀ s w os,R (step s w) os=R s (some w::os)):∀ (os:List (Option Int)) (s:σ),qje os→optR step stopO noneO s os=R s os
 | [],s,_=>h0 s
 | none::r,s,h=>by have:r=[]:=h;subst this;exact h1 s
 | some w::os,s,h=>by
  have:=q4i R h0 h1 h2 os (step s w) h
  rw [optR,this,h2]
section
variable {Fn:Nat→List D→Out} {FnD:D→List Sh→List D→Out} {m:Nat}
end
end Go.VE
namespace Go.VE
open Go.RowKit Go.Proofs
def hB:Option Int→Bool
 | some w=>decide (w≠0)
 | none=>false
def zB:Option Int→Bool
 | some w=>decide (w=0)
 | none=>false
def R196 (x0 x1:D) (s:Bool×Bool) (os:List (Option Int)):Out:=some (if os.any Option.isNone=true then 0 else 1,[.d (bl false),.d (bl (s.1||os.any hB)),.d (bl (s.2||os.any zB)),.d x0,.d x1])
set_option maxRecDepth 20000 in
theorem l196_0 (n:Nat) (a b c:Option (List E9)) (o:Option (List E5)) (d who:Int) (hl:(a.getD []).length≤1000000) (s:Bool×Bool) :
  q0p [q9S (RP (n+4))] M0 0 [.d (il d),.d (il (((a.getD []).length:Int) - 1)),.d (bl false),.d (bl s.1),.d (bl s.2),.d (q0I a b c o),.d (il who)]=R196 (q0I a b c o) (il who) s (q1p d who (below (a.getD []) (a.getD []).length)):=by
 have:=q8f (σ:=Bool×Bool) (a.getD []) hl d who [q9S (RP (n+4))] (fun m s=>(0,[.d (il d),.d (il ((m:Int) - 1)),.d (bl false),.d (bl s.1),.d (bl s.2),.d (q0I a b c o),.d (il who)])) (fun _ _=>True) (fun s w=>(s.1||decide (w≠0),s.2||decide (w=0)))
  (fun s=>some (1,[.d (bl false),.d (bl s.1),.d (bl s.2),.d (q0I a b c o),.d (il who)])) (fun s=>some (0,[.d (bl false),.d (bl s.1),.d (bl s.2),.d (q0I a b c o),.d (il who)])) ?_ ?_ s trivial
 ·refine Eq.trans this (q4i (R196 (q0I a b c o) (il who)) ?_ ?_ ?_ _ s (q3X _ _ _))
  ·intro s;simp [R196]
  ·intro s;simp [R196,hB,zB]
  ·intro s w os;simp only [R196,List.any_cons,hB,zB,Option.isNone_some,Bool.false_or,Bool.or_assoc]
 ·intro s k _
  exact ⟨_,rfl,by simp [q9S]⟩
 ·intro m e s k he hm hw hm1 _
  refine ⟨trivial,fun _ _=>trivial,_,rfl,?_⟩
  have h157:=s157 (n+3) a b c o m e who he
  simp only [hm1,q9S,q03,q08,q05,q2f,q00]
  rw [if_pos (by simp)]
  simp only [q0a,h157,q01,q03,q08,q0N,q00,q27,hw,qfk,q15,q0e,q12]
  obtain ⟨s1,s2⟩:=s
  by_cases h1:e.a=who
  ·by_cases h2:q3r e.f1 e.t2 d=true
   ·rw [if_pos (⟨h1,h2⟩:e.a=who∧q3r e.f1 e.t2 d=true)]
    cases s1<;>cases s2<;>cases hq:q3L e.f2 e.t1 d<;>simp [h1,h2,q8P,hq]
   ·rw [if_neg (fun h=>h2 h.2:¬ (e.a=who∧q3r e.f1 e.t2 d=true))]
    simp [h1,h2]
  ·rw [if_neg (fun h=>h1 h.1:¬ (e.a=who∧q3r e.f1 e.t2 d=true))]
   simp [h1]
def q9M (x0 x1 x2 x3:D) (h:Bool) (s:Bool) (os:List (Option Int)):Out:=some (if os.any Option.isNone=true then 0 else 1,[.d (bl false),.d (bl h),.d (bl (s||os.any Option.isSome)),.d x0,.d x1,.d x2,.d x3])
set_option maxRecDepth 20000 in
theorem l196_1 (n:Nat) (a b c:Option (List E9)) (o:Option (List E5)) (d who:Int) (x0 x1:D) (hl:(c.getD []).length≤1000000) (h s:Bool) :
  q0p [q7h (RP (n+4))] M0 0 [.d (il d),.d (il (((c.getD []).length:Int) - 1)),.d (bl false),.d (bl h),.d (bl s),.d x0,.d x1,.d (q0I a b c o),.d (il who)]=q9M x0 x1 (q0I a b c o) (il who) h s (q1p d who (below (c.getD []) (c.getD []).length)):=by
 have:=q8f (σ:=Bool) (c.getD []) hl d who [q7h (RP (n+4))] (fun m s=>(0,[.d (il d),.d (il ((m:Int) - 1)),.d (bl false),.d (bl h),.d (bl s),.d x0,.d x1,.d (q0I a b c o),.d (il who)])) (fun _ _=>True) (fun _ _=>true)
  (fun s=>some (1,[.d (bl false),.d (bl h),.d (bl s),.d x0,.d x1,.d (q0I a b c o),.d (il who)])) (fun s=>some (0,[.d (bl false),.d (bl h),.d (bl s),.d x0,.d x1,.d (q0I a b c o),.d (il who)])) ?_ ?_ s trivial
 ·refine Eq.trans this (q4i (q9M x0 x1 (q0I a b c o) (il who) h) ?_ ?_ ?_ _ s (q3X _ _ _))
  ·intro s;simp [q9M]
  ·intro s;simp [q9M]
  ·intro s w os;simp [q9M]
 ·intro s k _
  exact ⟨_,rfl,by simp [q7h]⟩
 ·intro m e s k he hm hw hm1 _
  refine ⟨trivial,fun _ _=>trivial,_,rfl,?_⟩
  have h195:=s195 (n+3) a b c o m e who he
  have hnn:¬ ((m:Nat):Int) < 0:=by omega
  simp only [hm1,q7h,q03,q08,q05,q2f,q00]
  rw [if_pos (by simp)]
  simp only [q0a,h195,q01,q03,q08,q0N,q00,q27,hw,qfk,q15,q0e,q0n]
  by_cases h1:e.a=who
  ·by_cases h2:q3r e.f1 e.t2 d=true
   ·rw [if_pos (⟨h1,h2⟩:e.a=who∧q3r e.f1 e.t2 d=true)]
    cases s<;>cases hq:q3L e.f2 e.t1 d<;>simp [h1,h2,hnn,q8P,hq]
   ·rw [if_neg (fun h=>h2 h.2:¬ (e.a=who∧q3r e.f1 e.t2 d=true))]
    simp [h1,h2]
  ·rw [if_neg (fun h=>h1 h.1:¬ (e.a=who∧q3r e.f1 e.t2 d=true))]
   simp [h1]
theorem qji (n:Nat):qi4 (RP n)=q7h (RP n):=rfl
theorem qjh (n:Nat):qi3 (RP n)=q7h (RP n):=rfl
theorem hB_any (os:List (Option Int)):(os.any fun x=>decide (f0 x≠0))=os.any hB:=by
 congr 1;funext x;cases x<;>rfl
theorem zB_any (os:List (Option Int)):(os.any fun x=>decide (f0 x=0))=(os.any zB||os.any Option.isNone):=by
 induction os with
 | nil=>rfl
 | cons x os ih =>
  rw [List.any_cons,ih,List.any_cons,List.any_cons]
  cases x with
  | none=>simp [f0,zB]
  | some w=>simp only [zB,Option.isNone_some,Bool.false_or,Bool.or_assoc];rfl
set_option maxRecDepth 20000 in
theorem s196 (n:Nat) (a b c:Option (List E9)) (o:Option (List E5)) (d who:Int) (hd:0≤d∧d≤4166) (ha:(a.getD []).length≤1000000) (hc:(c.getD []).length≤1000000) (ho:(o.getD []).length≤1000000) :
  FN (n+6) 196 [d9 a,d9 b,d9 c,d5 o,il who,il d]=some (0,[.d (bl (q34 (a.getD []) (c.getD []) (o.getD []) d who).1),.d (bl (q34 (a.getD []) (c.getD []) (o.getD []) d who).2)]):=by
 rw [F196]
 have h0:=l196_0 (n+1) a b c o d who ha (false,false)
 have h1:=fun h s=>l196_1 (n+1) a b c o d who (q0I a b c o) (il who) hc h s
 simp only [q0I] at h0 h1
 simp only [G196,q0a,s214 n (d9 a) (d9 b) (d9 c) o d who hd (by omega),q01,q03,q00,q15,q0e,q68,q3w]
 unfold q34
 cases qgG d who (o.getD []) with
 | true=>simp
 | false =>
  simp only [Bool.false_eq_true,if_false]
  have hp:∀ k:List D→Out,(RP (n+5)).ptrW 4 (.dp [d9 a,d9 b,d9 c,d5 o] 0) k=k [d9 a,d9 b,d9 c,d5 o]:=fun k=>q21 _ 4 k rfl
  have w1:IntKind.i64.wrap (((a.getD []).length:Int) - 1)=((a.getD []).length:Int) - 1:=q0l (by omega) (by omega)
  have w2:IntKind.i64.wrap (((c.getD []).length:Int) - 1)=((c.getD []).length:Int) - 1:=q0l (by omega) (by omega)
  simp only [hp,q0c,q0B,q65,q05,q27,w1,w2,q0q]
  rw [show (RP (n+5))=RP (n+1+4) from rfl] at *
  rw [h0,hB_any,zB_any]
  simp only [R196,Bool.false_or]
  generalize q1p d who (below (a.getD []) (a.getD []).length)=q at *
  cases hn:q.any Option.isNone with
  | true =>
   simp only [if_true,q01,q03,q08,q00,q12,ne_eq,not_true_eq_false,decide_false]
   cases hh:q.any hB<;>cases hz:q.any zB<;>simp only [Bool.false_eq_true,if_true,if_false,q01,q03,q08,q00,qji,h1,q9M] <;>
    (cases hn2:(q1p d who (below (c.getD []) (c.getD []).length)).any Option.isNone<;>cases hn3:(q1p d who (below (c.getD []) (c.getD []).length)).any Option.isSome<;>simp [h1,q9M,hn2,hn3])
  | false =>
   simp only [Bool.false_eq_true,if_false,q3a,q01,q03,q08,qjh,h1,q9M]
   cases hh:q.any hB<;>cases hz:q.any zB <;>
    (cases hn2:(q1p d who (below (c.getD []) (c.getD []).length)).any Option.isNone<;>cases hn3:(q1p d who (below (c.getD []) (c.getD []).length)).any Option.isSome<;>simp [])
end Go.VE
namespace Go.VE
open Go.RowKit Go.Proofs
def q43 (W:Int→Bool×Bool):Option Int→Bool×Bool
 | none=>(false,false)
 | some z=>q1T W (some z)
def Q163 (x0 x1:D) (W:Int→Bool×Bool) (s:Bool×Bool) (os:List (Option Int)):Out:=some (if os.any Option.isNone=true then 1 else 0,[.d (bl (s.1||os.any fun x=>(q43 W x).2)),.d (bl (s.2||os.any fun x=>(q43 W x).1)),.d x0,.d x1])
set_option maxRecDepth 20000 in
theorem l163 (n:Nat) (a b c:Option (List E9)) (o:Option (List E5)) (d who:Int) (hd:0≤d∧d≤4166) (ha:(a.getD []).length≤1000000) (hc:(c.getD []).length≤1000000) (ho:(o.getD []).length≤1000000) (s:Bool×Bool) :
  q0p [q9T (RP (n+6)) (d9 a) (d9 b) (d9 c) (d5 o) (il d)] M0 0 [.d (il d),.d (il (((c.getD []).length:Int) - 1)),.d (bl s.1),.d (bl s.2),.d (q0I a b c o),.d (il who)]=Q163 (q0I a b c o) (il who) (q34 (a.getD []) (c.getD []) (o.getD []) d) s (q1p d who (below (c.getD []) (c.getD []).length)):=by
 have:=q8f (σ:=Bool×Bool) (c.getD []) hc d who [q9T (RP (n+6)) (d9 a) (d9 b) (d9 c) (d5 o) (il d)] (fun m s=>(0,[.d (il d),.d (il ((m:Int) - 1)),.d (bl s.1),.d (bl s.2),.d (q0I a b c o),.d (il who)])) (fun _ _=>True) (fun s w=>(s.1||(q1T (q34 (a.getD []) (c.getD []) (o.getD []) d) (some w)).2,s.2||(q1T (q34 (a.getD []) (c.getD []) (o.getD []) d) (some w)).1))
  (fun s=>some (0,[.d (bl s.1),.d (bl s.2),.d (q0I a b c o),.d (il who)])) (fun s=>some (1,[.d (bl s.1),.d (bl s.2),.d (q0I a b c o),.d (il who)])) ?_ ?_ s trivial
 ·refine Eq.trans this (q4i (Q163 (q0I a b c o) (il who) (q34 (a.getD []) (c.getD []) (o.getD []) d)) ?_ ?_ ?_ _ s (q3X _ _ _))
  ·intro s;simp [Q163]
  ·intro s;simp [Q163,q43]
  ·intro s w os;simp only [Q163,List.any_cons,q43,Option.isNone_some,Bool.false_or,Bool.or_assoc]
 ·intro s k _
  exact ⟨_,rfl,by simp [q9T]⟩
 ·intro m e s k he hm hw hm1 _
  refine ⟨trivial,fun _ _=>trivial,_,rfl,?_⟩
  have h195:=s195 (n+5) a b c o m e who he
  have h196:=s196 n a b c o d e.b hd ha hc ho
  have hnn:¬ ((m:Nat):Int) < 0:=by omega
  have hp:∀ k:List D→Out,(RP (n+6)).ptrW 4 (.dp [d9 a,d9 b,d9 c,d5 o] 0) k=k [d9 a,d9 b,d9 c,d5 o]:=fun k=>q21 _ 4 k rfl
  simp only [hm1,q9T,q03,q08,q05,q2f,q00]
  rw [if_pos (by simp)]
  simp only [q0a,h195,q01,q03,q08,q0N,q00,q27,hw,qfk,q8P,q15,q0e,q0S,q0n,hnn,decide_false,Bool.false_eq_true,if_false,q68,hp,q0c,q0B,h196,q1T]
  obtain ⟨s1,s2⟩:=s
  by_cases h1:e.a=who
  ·by_cases h2:q3r e.f1 e.t2 d=true
   ·rw [if_pos (⟨h1,h2⟩:e.a=who∧q3r e.f1 e.t2 d=true)]
    by_cases h3:e.b=0
    ·cases s1<;>cases s2<;>cases hq:q3L e.f2 e.t1 d<;>simp [h1,h2,h3]
    ·cases s1<;>cases s2<;>cases hq:q3L e.f2 e.t1 d<;>simp [h1,h2,h3]
   ·rw [if_neg (fun h=>h2 h.2:¬ (e.a=who∧q3r e.f1 e.t2 d=true))]
    simp [h1,h2]
  ·rw [if_neg (fun h=>h1 h.1:¬ (e.a=who∧q3r e.f1 e.t2 d=true))]
   simp [h1]
theorem qiP (W:Int→Bool×Bool) (os:List (Option Int)):(os.any fun x=>(q1T W x).1)=((os.any fun x=>(q43 W x).1)||os.any Option.isNone):=by
 induction os with
 | nil=>rfl
 | cons x os ih =>
  rw [List.any_cons,ih,List.any_cons,List.any_cons]
  cases x with
  | none=>simp [q1T,q43]
  | some w=>simp [q43,Bool.or_assoc]
theorem qiO (W:Int→Bool×Bool) (os:List (Option Int)):(os.any fun x=>(q1T W x).2)=os.any fun x=>(q43 W x).2:=by
 congr 1;funext x;cases x<;>rfl
set_option maxRecDepth 20000 in
theorem s163 (n:Nat) (a b c:Option (List E9)) (o:Option (List E5)) (d who:Int) (hd:0≤d∧d≤4166) (ha:(a.getD []).length≤1000000) (hc:(c.getD []).length≤1000000) (ho:(o.getD []).length≤1000000) :
  FN (n+7) 163 [d9 a,d9 b,d9 c,d5 o,il who,il d]=some (0,[.d (bl (goP (a.getD []) (c.getD []) (o.getD []) d who).1),.d (bl (goP (a.getD []) (c.getD []) (o.getD []) d who).2)]):=by
 rw [F163]
 have h0:=l163 n a b c o d who hd ha hc ho (false,false)
 simp only [q0I] at h0
 have hp:∀ k:List D→Out,(RP (n+6)).ptrW 4 (.dp [d9 a,d9 b,d9 c,d5 o] 0) k=k [d9 a,d9 b,d9 c,d5 o]:=fun k=>q21 _ 4 k rfl
 have w2:IntKind.i64.wrap (((c.getD []).length:Int) - 1)=((c.getD []).length:Int) - 1:=q0l (by omega) (by omega)
 simp only [G163,q0a,q68,hp,q0c,q0B,s214 (n+1) (d9 a) (d9 b) (d9 c) o d who hd (by omega),q01,q03,q00,q15,q0e,q3w]
 unfold goP
 cases qgG d who (o.getD []) with
 | true=>simp
 | false =>
  simp only [Bool.false_eq_true,if_false,q65,q05,q27,w2,q0q,h0,qiP,qiO,Q163,Bool.false_or]
  generalize q1p d who (below (c.getD []) (c.getD []).length)=q
  cases hn:q.any Option.isNone with
  | true =>
   simp []
  | false =>
   simp
end Go.VE
