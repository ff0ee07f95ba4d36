/- The statement FamilyKnown: whatever the kin, the question and the source are, what becomes known later or has ended changes nothing; as known on any day everything is as known on the last one of Dates that is not greater; and just the persons of Moved have other Families without a source. -/
import Derived.Test.YtobeabinccohlaaGreatMg4
namespace Go.VE
open Go.RowKit Go.Proofs
def q2l (k:Int):Int→List Int→Int
 | b,[]=>b
 | b,x::r=>q2l k (if x≤k then x else b) r
section
variable {Fn:Nat→List D→Out} {FnD:D→List Sh→List D→Out} {m:Nat}
set_option maxRecDepth 20000 in
theorem l7_0 (ds:Option (List Int)) (hl:(ds.getD []).length≤1000000) (S A B C O C0 C1 C2 C3 E:D) (p f d k:Int) (b:Int) :
  q0u [L7_0 (q06 Fn FnD m)] M0 0 [.d S,.d A,.d B,.d C,.d O,.d (il p),.d (il f),.d (il d),.d (il k),.d E,.d (il b),.d (dI ds),.d (il (ds.getD []).length),.d (il 0),.d C0,.d C1,.d C2,.d C3] =
   some (0,[.d S,.d A,.d B,.d C,.d O,.d (il p),.d (il f),.d (il d),.d (il k),.d E,.d (il (q2l k b (ds.getD []))),.d C0,.d C1,.d C2,.d C3]):=by
 have:=q0z (β:=Int) (ds.getD []) (by omega) (L7_0 (q06 Fn FnD m)) (fun i b=>[.d S,.d A,.d B,.d C,.d O,.d (il p),.d (il f),.d (il d),.d (il k),.d E,.d (il b),.d (dI ds),.d (il (ds.getD []).length),.d (il i),.d C0,.d C1,.d C2,.d C3]) (fun _ _=>True)
  (fun _ r b=>some (0,[.d S,.d A,.d B,.d C,.d O,.d (il p),.d (il f),.d (il d),.d (il k),.d E,.d (il (q2l k b r)),.d C0,.d C1,.d C2,.d C3]))
  (fun b q _=>by simp [L7_0,q2l]) ?_ M0 b trivial (by unfold M0;omega)
 ·simpa using this
 ·intro i x r b q hi hd hlt hw _ ih
  have hlt':(i:Int) < ((ds.getD []).length:Int):=by omega
  simp only [L7_0,q02,q05,q0p,q01,hlt',decide_true,if_true,q2S hi,rI,q08,q4V,q03,q0k,hw,decide_eq_true_eq,q2l]
  by_cases h:x≤k
  ·rw [if_pos h,if_pos h];exact ih x trivial
  ·rw [if_neg h,if_neg h];exact ih b trivial
set_option maxRecDepth 20000 in
theorem a7_1 (A B C O P L MV W0 W1 W2 W3 C0 C1 C2 C3 F F1 F2 F3 x4 x5:D) (d k q:Int) (found e:Bool) (i:Nat) (p:Int)
  (hrow:∀ z:List D→Out,(q06 Fn FnD m).rowD 1 P (il i) z=z (rI p)) (hL:∃ n:Nat,L=il n∧i < n)
  (h16:Fn 16 [A,B,C,O,il p,il d,il k]=some (0,[.d F,.d (il 0)])) (h16c:Fn 16 [C0,C1,C2,C3,il p,il d,il k]=some (0,[.d F1,.d (il 0)])) (h16w:Fn 16 [W0,W1,W2,W3,il p,il d,il k]=some (0,[.d F2,.d (il 0)]))
  (q1:Fn 22 [F,F1]=some (0,[.d (bl true)])) (q2:found=true→Fn 22 [F,F2]=some (0,[.d (bl e)])) (q3:found=true→Fn 41 [MV,il p]=some (0,[.d (bl (!e))]))
  (q4:q < 0→Fn 22 [F,.sl 1 [[il 0]]]=some (0,[.d (bl true)])) (q5:0≤q→Fn 16 [A,B,C,O,il p,il d,il q]=some (0,[.d F3,.d (il 0)])∧Fn 22 [F,F3]=some (0,[.d (bl true)]))
  (hw:IntKind.i64.wrap ((i:Int)+1)=(i:Int)+1) (K:Nat→List Yr→Out) :
  L7_1 (q06 Fn FnD m) K [.d A,.d B,.d C,.d O,.d x4,.d x5,.d (il d),.d (il k),.d (il q),.d (bl found),.d MV,.d P,.d L,.d (il i),.d W0,.d W1,.d W2,.d W3,.d C0,.d C1,.d C2,.d C3] =
   K 0 [.d A,.d B,.d C,.d O,.d x4,.d x5,.d (il d),.d (il k),.d (il q),.d (bl found),.d MV,.d P,.d L,.d (il ((i:Int)+1)),.d W0,.d W1,.d W2,.d W3,.d C0,.d C1,.d C2,.d C3]:=by
 obtain ⟨n,rfl,hi⟩:=hL
 have hlt':(i:Int) < (n:Int):=by omega
 simp only [L7_1,q02,q05,q0p,q01,hlt',decide_true,if_true,hrow,rI,q08,q07,h16,h16c,h16w,q00,q03,q0w,ne_eq,not_true_eq_false,decide_false,Bool.false_eq_true,if_false,q1,q0I,Bool.not_true]
 refine qay (some (0,[.d A,.d B,.d C,.d O,.d x4,.d x5,.d (il d),.d (il k),.d (il q),.d (bl found),.d MV,.d (il p),.d F,.d P,.d (il n),.d (il i),.d (bl false),.d W0,.d W1,.d W2,.d W3,.d C0,.d C1,.d C2,.d C3])) ?_ ?_
 ·cases found with
  | false=>simp
  | true=>simp only [if_true,q2 rfl,q3 rfl,q00,q02];cases e<;>simp
 ·simp only [q00,q02,q05,q01,Bool.false_eq_true,if_false,q0p,q1L,decide_eq_true_eq]
  by_cases hq:q < 0
  ·have hq2:¬ 0≤q:=by omega
   rw [if_pos hq]
   simp [q4 hq,hq2,hw]
  ·have hq2:0≤q:=by omega
   rw [if_neg hq,if_pos hq2]
   simp [(q5 hq2).1,(q5 hq2).2,hw]
set_option maxRecDepth 20000 in
theorem a7 (A B C O P MV W0 W1 W2 W3 C0 C1 C2 C3:D) (ds:Option (List Int)) (p f d k s me N:Int) (found ok:Bool)
  (h24:Fn 24 [A,B,C,O]=some (0,[.d (il (if ok=true then 0 else 34))])) (hd25:Fn 25 [il d]=some (0,[.d (bl (decide (0≤d∧d≤4166)))])) (hk25:Fn 25 [il k]=some (0,[.d (bl (decide (0≤k∧k≤4166)))])) (h23:Fn 23 []=some (0,[.d (bl true)]))
  (hm:ok=true→0≤d∧d≤4166→0≤k∧k≤4166→(ds.getD []).length≤1000000∧Fn 43 [A,B,C,O,il k]=some (0,[.d C0,.d C1,.d C2,.d C3])∧Fn 44 [A,B,C,O]=some (0,[.d (dI ds),.d (il 0)]) ∧
   Fn 45 [A,B,C,O,il s]=some (0,[.d W0,.d W1,.d W2,.d W3,.d (bl found)])∧Fn 39 [A,B,C,O,il s,il d,il k]=some (0,[.d MV,.d (il me)])∧found=decide (me=0)∧(found=false→me=3)∧Fn 31 [A,B,C,O]=some (0,[.d P])∧(∀ q:D→Out,(q06 Fn FnD M0).lenD P q=q (il N)) ∧
   q0u [L7_1 (q06 Fn FnD M0)] M0 0 [.d A,.d B,.d C,.d O,.d (il p),.d (il f),.d (il d),.d (il k),.d (il (q2l k (-1) (ds.getD []))),.d (bl found),.d MV,.d P,.d (il N),.d (il 0),.d W0,.d W1,.d W2,.d W3,.d C0,.d C1,.d C2,.d C3]=some (1,[])) :
  G7 (q06 Fn FnD M0) A B C O (il p) (il f) (il d) (il k) (il s)=some (0,[.d (bl true)]):=by
 simp only [G7,q07,h24,q00,q02,q03,q0w,q01,hd25,hk25,q0I,h23,q0e]
 cases ok with
 | false=>simp
 | true =>
  simp only [if_true,ne_eq,not_true_eq_false,decide_false,Bool.false_eq_true,if_false]
  by_cases hd:0≤d∧d≤4166
  ·simp only [hd,and_self,decide_true,Bool.not_true,Bool.false_eq_true,if_false]
   by_cases hk:0≤k∧k≤4166
   ·obtain ⟨hl,g1,g2,g3,g4,g5,g6,g7,g8,g9⟩:=hm rfl hd hk
    simp only [hk,and_self,decide_true,Bool.not_true,Bool.false_eq_true,if_false,g1,g2,q00,q02,q05,q2I,q0n,l7_0 ds hl,g3,g4,q0K,← g5,qht,bne_self_eq_false]
    refine qay (Fn:=Fn) (FnD:=FnD) (m:=M0) (some (0,[.d A,.d B,.d C,.d O,.d (il p),.d (il f),.d (il d),.d (il k),.d (il (q2l k (-1) (ds.getD []))),.d (bl found),.d MV,.d (bl false),.d W0,.d W1,.d W2,.d W3,.d C0,.d C1,.d C2,.d C3])) ?_ ?_
    ·cases found with
     | true=>simp;rfl
     | false=>simp [g6 rfl];rfl
    ·simp only [q00,q02,q05,q01,Bool.false_eq_true,if_false,g7,g8,g9,q4s]
   ·simp [hk]
  ·simp [hd]
end
end Go.VE
namespace Go.VE
open Go.RowKit Go.Proofs
theorem qel {q:Option Int} {y x:Int} (h1:ltO q y=true) (h2:ltO (some y) x=true):ltO q x=true:=by
 cases q with
 | none=>rfl
 | some z =>
  simp only [ltO,decide_eq_true_eq] at h1 h2 ⊢
  omega
theorem q33 {α:Type} (f:α→Bool) (ok:α→Bool) (src:α→Int):∀ (l:List α) (q q':Option Int),(∀ x,ltO q x=true→ltO q' x=true)→okL ok src q l=true→okL ok src q' (l.filter f)=true
 | [],_,_,_,_=>rfl
 | e::l,q,q',hq,h=>by
  rw [okL,Bool.and_eq_true,Bool.and_eq_true] at h
  obtain ⟨⟨h1,h2⟩,h3⟩:=h
  rw [List.filter_cons]
  split
  ·rw [okL,Bool.and_eq_true,Bool.and_eq_true]
   exact ⟨⟨h1,hq _ h2⟩,q33 f ok src l _ _ (fun _ h=>h) h3⟩
  ·exact q33 f ok src l _ _ (fun x hx=>qel (hq _ h2) hx) h3
theorem q6F {a b c:List E9} {o:List E5} (fa fb fc:E9→Bool) (fo:E5→Bool) (h:q0m a b c o=true):q0m (a.filter fa) (b.filter fb) (c.filter fc) (o.filter fo)=true:=by
 unfold q0m at h ⊢
 simp only [Bool.and_eq_true,decide_eq_true_eq] at h ⊢
 obtain ⟨⟨⟨⟨⟨l1,l2,l3,l4⟩,h1⟩,h2⟩,h3⟩,h4⟩:=h
 have k1:=List.length_filter_le fa a
 have k2:=List.length_filter_le fb b
 have k3:=List.length_filter_le fc c
 have k4:=List.length_filter_le fo o
 exact ⟨⟨⟨⟨⟨by omega,by omega,by omega,by omega⟩,q33 _ _ _ _ _ _ (fun _ h=>h) h1⟩,q33 _ _ _ _ _ _ (fun _ h=>h) h2⟩,q33 _ _ _ _ _ _ (fun _ h=>h) h3⟩,q33 _ _ _ _ _ _ (fun _ h=>h) h4⟩
theorem q9u (k:Int) (l:List E9):q0T k (q0T k l)=q0T k l:=by simp [q0T,List.filter_filter]
theorem qgV (k:Int) (l:List E5):q4J k (q4J k l)=q4J k l:=by simp [q4J,List.filter_filter]
theorem q5e (k:Int):∀ (l:List Int) (b:Int),Up l→(∀ x∈l,b < x)→b≤k→q2l k b l≤k∧b≤q2l k b l∧(∀ x∈l,x≤k→x≤q2l k b l)∧(q2l k b l=b∨q2l k b l∈l)
 | [],b,_,_,hk=>⟨hk,by simp [q2l],by simp,.inl rfl⟩
 | x::r,b,hu,hb,hk=>by
  have hu':=List.pairwise_cons.1 hu
  rw [q2l]
  by_cases h:x≤k
  ·rw [if_pos h]
   obtain ⟨h1,h2,h3,h4⟩:=q5e k r x hu'.2 hu'.1 h
   have:=hb x (by simp)
   refine ⟨h1,by omega,fun y hy hyk=>?_,?_⟩
   ·rcases List.mem_cons.1 hy with rfl | hy
    ·exact h2
    ·exact h3 y hy hyk
   ·right
    rcases h4 with h4 | h4
    ·rw [h4];simp
    ·exact List.mem_cons_of_mem _ h4
  ·rw [if_neg h]
   obtain ⟨h1,h2,h3,h4⟩:=q5e k r b hu'.2 (fun y hy=>hb y (by simp [hy])) hk
   refine ⟨h1,h2,fun y hy hyk=>?_,?_⟩
   ·rcases List.mem_cons.1 hy with rfl | hy
    ·exact absurd hyk h
    ·exact h3 y hy hyk
   ·rcases h4 with h4 | h4
    ·exact .inl h4
    ·exact .inr (List.mem_cons_of_mem _ h4)
theorem q6c {α:Type} {kn un:α→Int} {l:List α} {e:α} (h:e∈l):kn e∈tmL kn un l∧(un e≠0→un e∈tmL kn un l):=by
 unfold tmL
 refine ⟨List.mem_flatMap.2 ⟨e,h,?_⟩,fun hu=>List.mem_flatMap.2 ⟨e,h,?_⟩⟩
 ·unfold tm;split<;>simp
 ·unfold tm;rw [if_neg hu];simp
theorem q5s {α:Type} {kn un:α→Int} {l:List α} (h:∀ e∈l,q26 (kn e) (un e)):∀ z∈tmL kn un l,0≤z∧z≤4166:=by
 intro z hz
 obtain ⟨e,he,hz⟩:=List.mem_flatMap.1 hz
 have:=h e he
 unfold q26 at this
 unfold tm at hz
 split at hz
 ·simp at hz;omega
 ·simp at hz;omega
theorem q2h {a b c:List E9} {o:List E5} {z:Int}:z∈q2L a b c o↔z∈tmL E9.kn E9.un a∨z∈tmL E9.kn E9.un b∨z∈tmL E9.kn E9.un c∨z∈tmL E5.kn E5.un o:=by
 unfold q2L
 rw [q11];simp
theorem qfU (a b c:List E9) (o:List E5):Up (q2L a b c o):=q1l _ (by simp)
theorem qbf {a b c:List E9} {o:List E5} (h:q0m a b c o=true):∀ z∈q2L a b c o,0≤z∧z≤4166:=by
 obtain ⟨p1,p2,p3,p4⟩:=q22 h
 intro z hz
 rcases q2h.1 hz with hz | hz | hz | hz
 ·exact q5s (fun e he=>(p1 e he).2.2.2.2) z hz
 ·exact q5s (fun e he=>(p2 e he).2.2.2.2) z hz
 ·exact q5s (fun e he=>(p3 e he).2.2.2.2.2) z hz
 ·exact q5s (fun e he=>(p4 e he).2.2.2) z hz
theorem qax {kn un k q:Int} (h1:q≤k) (h2:kn≤k→kn≤q) (h3:un≠0→un≤k→un≤q):q3o kn un k=q3o kn un q:=by
 unfold q3o
 by_cases h:un=0
 ·have:(kn≤k↔kn≤q):=⟨h2,fun h=>by omega⟩
  simp [h,this]
 ·have h3:=h3 h
  have e1:(kn≤k↔kn≤q):=⟨h2,fun h=>by omega⟩
  have e2:(k < un↔q < un):=⟨fun h=>by omega,fun h=>by
   by_cases h4:un≤k
   ·have:=h3 h4;omega
   ·omega⟩
  simp [e1,e2]
section
variable {k q:Int} {a b c:List E9} {o:List E5}
theorem q7X {l:List E9} (h1:q≤k) (h:∀ z∈tmL E9.kn E9.un l,z≤k→z≤q):q0T k l=q0T q l:=by
 unfold q0T
 refine List.filter_congr fun e he=>qax h1 (fun h2=>h _ (q6c he).1 h2) (fun hu h2=>h _ ((q6c he).2 hu) h2)
theorem qfe {l:List E5} (h1:q≤k) (h:∀ z∈tmL E5.kn E5.un l,z≤k→z≤q):q4J k l=q4J q l:=by
 unfold q4J
 refine List.filter_congr fun e he=>qax h1 (fun h2=>h _ (q6c he).1 h2) (fun hu h2=>h _ ((q6c he).2 hu) h2)
theorem q7W {l:List E9} (h:∀ z∈tmL E9.kn E9.un l,¬ z≤k):q0T k l=[]:=by
 unfold q0T
 refine List.filter_eq_nil_iff.2 fun e he=>?_
 have:=h _ (q6c he).1
 simp [q3o,this]
theorem qfd {l:List E5} (h:∀ z∈tmL E5.kn E5.un l,¬ z≤k):q4J k l=[]:=by
 unfold q4J
 refine List.filter_eq_nil_iff.2 fun e he=>?_
 have:=h _ (q6c he).1
 simp [q3o,this]
end
theorem qeY (d p:Int):q1s [] [] [] [] d p=[0]:=by
 simp [q1s,q0Z,below,qaJ,q0J,f0,goP,q8b,q1D,ins]
end Go.VE
namespace Go.VE
open Go.RowKit Go.Proofs
theorem qgO (k:Int) (a b c:Option (List E9)) (o:Option (List E5)) (d p:Int):q24 k (nzO (q0T k (a.getD []))) (nzO (q0T k (b.getD []))) (nzO (q0T k (c.getD []))) (nzO (q4J k (o.getD []))) d p=q24 k a b c o d p:=by
 unfold q24;rw [q0b,q0b,q0b,q0b,q9u,q9u,q9u,qgV]
theorem qiT (s k:Int) (a b c:Option (List E9)) (o:Option (List E5)) (d p:Int):q24 k (nzO (wo9 s (a.getD []))) (nzO (wo9 s (b.getD []))) (nzO (wo9 s (c.getD []))) (nzO (wo5 s (o.getD []))) d p=q6g s k a b c o d p:=by
 unfold q24 q6g;rw [q0b,q0b,q0b,q0b]
theorem qiu {s k:Int} {a b c:Option (List E9)} {o:Option (List E5)} {d p:Int} (h:p∈q0O (a.getD [])):decide (p∈(qdo s k a b c o d).getD [])=!decide (q24 k a b c o d p=q6g s k a b c o d p):=by
 unfold qdo
 rw [q1X]
 have e:(p∈List.filter (q5V (fk k a b c o d) (q6g s k a b c o d)) (q0O (a.getD [])))↔¬ q24 k a b c o d p=q6g s k a b c o d p:=by
  rw [List.mem_filter]
  simp only [h,true_and,q5V,fk,Bool.not_eq_true']
  exact ⟨fun h=>of_decide_eq_false h,fun h=>decide_eq_false h⟩
 simp [e]
section
variable (n:Nat) (x4 x5 d k q s:Int) (a b c:Option (List E9)) (o:Option (List E5)) (ha:(a.getD []).length*72≤140737488351232) (hb:(b.getD []).length*72≤140737488351232) (hc:(c.getD []).length*72≤140737488351232) (ho:(o.getD []).length*40≤140737488351232)
include ha hb hc ho
theorem l7_1 (hok:q0m (a.getD []) (b.getD []) (c.getD []) (o.getD [])=true) (hd:0≤d∧d≤4166) (hk:0≤k∧k≤4166) (found:Bool) (MV:D) (hf:found=true→MV=dI (qdo s k a b c o d)) (hq1:q < 0→∀ p,q24 k a b c o d p=[0]) (hq2:0≤q→q≤4166∧∀ p,q24 k a b c o d p=q24 q a b c o d p) :
  q0u [L7_1 (RP (n+111))] M0 0 [.d (d9 a),.d (d9 b),.d (d9 c),.d (d5 o),.d (il x4),.d (il x5),.d (il d),.d (il k),.d (il q),.d (bl found),.d MV,.d (dI (nzO (q0O (a.getD [])))),.d (il (q0O (a.getD [])).length),.d (il 0),.d (d9 (nzO (wo9 s (a.getD [])))),.d (d9 (nzO (wo9 s (b.getD [])))),.d (d9 (nzO (wo9 s (c.getD [])))),.d (d5 (nzO (wo5 s (o.getD [])))),.d (d9 (nzO (q0T k (a.getD [])))),.d (d9 (nzO (q0T k (b.getD [])))),.d (d9 (nzO (q0T k (c.getD [])))),.d (d5 (nzO (q4J k (o.getD []))))]=some (1,[]):=by
 have okc:q0m ((nzO (q0T k (a.getD []))).getD []) ((nzO (q0T k (b.getD []))).getD []) ((nzO (q0T k (c.getD []))).getD []) ((nzO (q4J k (o.getD []))).getD [])=true:=by
  rw [q0b,q0b,q0b,q0b];exact q6F _ _ _ _ hok
 have okw:q0m ((nzO (wo9 s (a.getD []))).getD []) ((nzO (wo9 s (b.getD []))).getD []) ((nzO (wo9 s (c.getD []))).getD []) ((nzO (wo5 s (o.getD []))).getD [])=true:=by
  rw [q0b,q0b,q0b,q0b];exact q6F _ _ _ _ hok
 have g:=(q1o hok).cnt k
 have hla:=(q16 hok).1
 have hlp:=q1N (a.getD [])
 have wl:∀ {A B C:Option (List E9)} {O:Option (List E5)},q0m (A.getD []) (B.getD []) (C.getD []) (O.getD [])=true→(A.getD []).length*72≤140737488351232∧(B.getD []).length*72≤140737488351232∧(C.getD []).length*72≤140737488351232∧(O.getD []).length*40≤140737488351232:=fun h=>by
  have:=q16 h;omega
 have e1:=q0z (β:=Unit) (q0O (a.getD [])) (by omega) (L7_1 (RP (n+111))) (fun i _=>[.d (d9 a),.d (d9 b),.d (d9 c),.d (d5 o),.d (il x4),.d (il x5),.d (il d),.d (il k),.d (il q),.d (bl found),.d MV,.d (dI (nzO (q0O (a.getD [])))),.d (il (q0O (a.getD [])).length),.d (il i),.d (d9 (nzO (wo9 s (a.getD [])))),.d (d9 (nzO (wo9 s (b.getD [])))),.d (d9 (nzO (wo9 s (c.getD [])))),.d (d5 (nzO (wo5 s (o.getD [])))),.d (d9 (nzO (q0T k (a.getD [])))),.d (d9 (nzO (q0T k (b.getD [])))),.d (d9 (nzO (q0T k (c.getD [])))),.d (d5 (nzO (q4J k (o.getD []))))]) (fun _ _=>True) (fun _ _ _=>some (1,[]))
  (fun _ z _=>by simp [L7_1]) ?_ M0 () trivial (by unfold M0;omega)
 ·simpa using e1
 ·intro i p r _ z hi hdr hlt hw _ ih
  have ih':=ih () trivial
  have hm:=List.mem_of_getElem? hi
  have hp:1≤p∧p≤999:=by
   obtain ⟨e,he,h⟩:=(qa8 _ _).1 hm
   have:=((q22 hok).1 e he).2.1
   omega
  have he:∀ {A B C:List E9} {O:List E5},q0m A B C O=true→q0U (q0m A B C O) true false p 0 [d,k]=0:=fun h=>by simp [q0U,h,hp,hd,hk]
  have h16:=s16 (n+5) p d k a b c o ha hb hc ho
  obtain ⟨c1,c2,c3,c4⟩:=wl okc
  have h16c:=s16 (n+5) p d k _ _ _ _ c1 c2 c3 c4
  obtain ⟨w1,w2,w3,w4⟩:=wl okw
  have h16w:=s16 (n+5) p d k _ _ _ _ w1 w2 w3 w4
  rw [if_pos (he hok)] at h16
  rw [if_pos (he okc),qgO] at h16c
  rw [if_pos (he okw),qiT] at h16w
  have l3:(q24 k a b c o d p).length≤100:=q1t (q1y ..) fun z hz=>q19 g.fam g.less hz
  have h22:∀ l:List Int,FN (n+111) 22 [dI (some (q24 k a b c o d p)),dI (some l)]=some (0,[.d (bl (decide (q24 k a b c o d p=l)))]):=fun l=>s22 (n+110) (some (q24 k a b c o d p)) (some l) (by simp only [Option.getD_some];omega)
  have hi':((nzO (q0O (a.getD []))).getD [])[i]?=some p:=by rw [q0b];exact hi
  have q3:found=true→FN (n+111) 41 [MV,il p]=some (0,[.d (bl (!decide (q24 k a b c o d p=q6g s k a b c o d p)))]):=fun h=>by
   have h41:=s41 (n+110) (qdo s k a b c o d) p (by
    unfold qdo
    rw [q1X]
    have:=List.length_filter_le (q5V (fk k a b c o d) (q6g s k a b c o d)) (q0O (a.getD []))
    omega)
   rw [hf h,← qiu hm]
   exact h41
  rw [a7_1 (d9 a) (d9 b) (d9 c) (d5 o) (dI (nzO (q0O (a.getD [])))) (il (q0O (a.getD [])).length) MV _ _ _ _ _ _ _ _ _ _ _ (dI (some (q24 q a b c o d p))) (il x4) (il x5) d k q found (decide (q24 k a b c o d p=q6g s k a b c o d p)) i p (fun q=>q2S hi' q) ⟨_,rfl,hlt⟩ h16 h16c h16w
   (by have:=h22 (q24 k a b c o d p);simpa using this) (fun _=>h22 _) q3 (fun h=>by have:=h22 [0];rw [hq1 h] at this ⊢;rw [decide_eq_true rfl] at this;exact this) (fun h=>by
    obtain ⟨h1,h2⟩:=hq2 h
    have h16q:=s16 (n+5) p d q a b c o ha hb hc ho
    rw [if_pos (by simp [q0U,hok,hp,hd,h,h1])] at h16q
    have:=h22 (q24 q a b c o d p)
    rw [h2 p] at this ⊢
    exact ⟨h16q,by simpa using this⟩) hw z]
  exact ih'
theorem s7 (p f:Int):G7 (RP (n+111)) (d9 a) (d9 b) (d9 c) (d5 o) (il p) (il f) (il d) (il k) (il s)=some (0,[.d (bl true)]):=by
 have h39:=s39 (n+2) s d k a b c o ha hb hc ho
 refine a7 (d9 a) (d9 b) (d9 c) (d5 o) (dI (nzO (q0O (a.getD [])))) (if q8i s (a.getD []) (b.getD []) (c.getD []) (o.getD [])=true then dI (qdo s k a b c o d) else dI none) (d9 (nzO (wo9 s (a.getD [])))) (d9 (nzO (wo9 s (b.getD [])))) (d9 (nzO (wo9 s (c.getD [])))) (d5 (nzO (wo5 s (o.getD [])))) (d9 (nzO (q0T k (a.getD [])))) (d9 (nzO (q0T k (b.getD [])))) (d9 (nzO (q0T k (c.getD [])))) (d5 (nzO (q4J k (o.getD []))))
  (nzO (q2L (a.getD []) (b.getD []) (c.getD []) (o.getD []))) p f d k s (if q8i s (a.getD []) (b.getD []) (c.getD []) (o.getD [])=true then 0 else 3) (q0O (a.getD [])).length (q8i s (a.getD []) (b.getD []) (c.getD []) (o.getD [])) (q0m (a.getD []) (b.getD []) (c.getD []) (o.getD []))
  (s24 (n+106) a b c o) (s25 (n+109) d) (s25 (n+109) k) (s23 n) ?_
 intro hok hd hk
 obtain ⟨l1,l2,l3,l4⟩:=q16 hok
 have h44:=s44 (n+101) a b c o ha hb hc ho
 rw [if_pos hok] at h44
 rw [if_pos (by simp [q0U,hok,hd,hk])] at h39
 have hdr:=qbf hok
 have hud:=qfU (a.getD []) (b.getD []) (c.getD []) (o.getD [])
 have hdl:(q2L (a.getD []) (b.getD []) (c.getD []) (o.getD [])).length≤1000000:=by
  have h0:=q3R (tmL E9.kn E9.un (a.getD [])++(tmL E9.kn E9.un (b.getD [])++(tmL E9.kn E9.un (c.getD [])++tmL E5.kn E5.un (o.getD [])))) []
  have h1:=q4b E9.kn E9.un (a.getD []);have h2:=q4b E9.kn E9.un (b.getD []);have h3:=q4b E9.kn E9.un (c.getD []);have h4:=q4b E5.kn E5.un (o.getD [])
  simp only [List.length_append,List.length_nil] at h0
  unfold q2L;omega
 obtain ⟨u1,u2,u3,u4⟩:=q5e k (q2L (a.getD []) (b.getD []) (c.getD []) (o.getD [])) (-1) hud (fun x hx=>by have:=hdr x hx;omega) (by omega)
 have hlast:∀ z∈q2L (a.getD []) (b.getD []) (c.getD []) (o.getD []),z≤k→z≤q2l k (-1) (q2L (a.getD []) (b.getD []) (c.getD []) (o.getD [])):=u3
 have hq1:q2l k (-1) (q2L (a.getD []) (b.getD []) (c.getD []) (o.getD [])) < 0→∀ p,q24 k a b c o d p=[0]:=fun h p=>by
  have hn:∀ z∈q2L (a.getD []) (b.getD []) (c.getD []) (o.getD []),¬ z≤k:=fun z hz hzk=>by
   have h1:=hlast z hz hzk;have h2:=hdr z hz;omega
  unfold q24
  rw [q7W fun z hz=>hn z (q2h.2 (.inl hz)),q7W fun z hz=>hn z (q2h.2 (.inr (.inl hz))),q7W fun z hz=>hn z (q2h.2 (.inr (.inr (.inl hz)))),qfd fun z hz=>hn z (q2h.2 (.inr (.inr (.inr hz))))]
  exact qeY d p
 have hq2:0≤q2l k (-1) (q2L (a.getD []) (b.getD []) (c.getD []) (o.getD []))→q2l k (-1) (q2L (a.getD []) (b.getD []) (c.getD []) (o.getD []))≤4166∧∀ p,q24 k a b c o d p=q24 (q2l k (-1) (q2L (a.getD []) (b.getD []) (c.getD []) (o.getD []))) a b c o d p:=fun h=>by
  refine ⟨by omega,fun p=>?_⟩
  unfold q24
  rw [q7X u1 fun z hz=>hlast z (q2h.2 (.inl hz)),q7X u1 fun z hz=>hlast z (q2h.2 (.inr (.inl hz))),q7X u1 fun z hz=>hlast z (q2h.2 (.inr (.inr (.inl hz)))),qfe u1 fun z hz=>hlast z (q2h.2 (.inr (.inr (.inr hz))))]
 refine ⟨by rw [q0b];exact hdl,s43 (n+109) k a b c o ha hb hc ho,h44,s45 (n+110) s a b c o ha hb hc ho,?_,?_,?_,s31 (n+109) a (d9 b) (d9 c) (d5 o) (by omega),fun q=>by rw [q2I,q0b],?_⟩
 ·cases hf:q8i s (a.getD []) (b.getD []) (c.getD []) (o.getD []) with
  | false =>
   rw [if_pos ((q7Q ..).1 hf)] at h39
   simpa using h39
  | true =>
   rw [if_neg fun h=>by rw [(q7Q ..).2 h] at hf;cases hf] at h39
   simpa using h39
 ·cases q8i s (a.getD []) (b.getD []) (c.getD []) (o.getD [])<;>simp
 ·intro h;simp [h]
 ·rw [q0b]
  exact l7_1 n p f d k _ s a b c o ha hb hc ho hok hd hk _ _ (fun h=>by simp [h]) hq1 hq2
end
end Go.VE
namespace Go.VE
open Go.RowKit Go.Proofs Go.Proofs.YtobeabinccohlaaGreat
set_option maxRecDepth 100000
theorem q8k (vds:List VD) (h:VTs Tryz.prog 8 [27,29,3] vds):SC Tryz.prog 7 vds (.one (.d (bl true))):=by
 obtain ⟨_,_,rfl,h1,h⟩:=q1K h
 obtain ⟨_,_,rfl,h2,h⟩:=q1K h
 obtain ⟨_,_,rfl,h3,h⟩:=q1K h
 cases q86 h
 obtain ⟨_,rfl,k1⟩:=h1.agg_ Tryz.underlying27
 obtain ⟨_,rfl,k2⟩:=h2.agg_ Tryz.underlying29
 obtain ⟨_,rfl,k3⟩:=h3.int_ Tryz.underlying3
 obtain ⟨a,b,c,o,rfl,ha,hb,hc,ho⟩:=o27 k1
 obtain ⟨p,f,d,k,rfl⟩:=o29 k2
 obtain ⟨s,hs,_⟩:=o3 k3
 cases hs
 refine qew (T:=tb) (fuel:=400) (m0:=M0) (xs:=[d9 a,d9 b,d9 c,d5 o,il p,il f,il d,il k,il s]) qis (qfy 111) (qaH 111) qi8 (by decide) (sh:=[.agg 4,.agg 4,.one]) rfl rfl rfl ?_
 rw [G7_eq]
 exact s7 0 d k s a b c o ha hb hc ho p f
end Go.VE
namespace Go.Proofs.YtobeabinccohlaaGreat
open Go.VE Go.RowKit
set_option maxRecDepth 100000
theorem q5R (os:Os) (started:os.Started) (H:Type) (enc:TypeId×Value→H) :
  ReturnsInHanded {} Tryz.checked os 7 .any (Rows.familyKnownSpec.pre6 enc Tryz.prog Tryz.f7 Rows.familyKnownRow.domain false) (Rows.familyKnownSpec.post enc Tryz.prog Tryz.f7 false true false false) :=
 qex (C:=Tryz.checked) (n:=8) (tb:=4) own started (by kernel_rfl) Tryz.func7
  (ChangeSpec.witness6 (enc:=enc) (C:=Tryz.checked) false ⟨#[],#[.agg #[.slice none 0 0,.slice none 0 0,.slice none 0 0,.slice none 0 0],.agg #[.int .i64 0,.int .i64 0,.int .i64 0,.int .i64 0],.int .i64 0],[]⟩ 8 (by kernel_rfl) (by kernel_rfl) (by kernel_rfl) (by kernel_rfl))
  q7z (by kernel_rfl) (by kernel_rfl) Tryz.underlying4 rfl
  (fun ds hd=>by
   rw [show Tryz.f7.params.toList=[27,29,3] by kernel_rfl] at hd
   match ds,hd with
   | [a,b,c],_=>rfl)
  (fun vds h=>q8k vds h)
theorem q6N:Rows.familyKnownRow.holds Tryz.pinned (OpenSpec.ofChange Rows.familyKnownSpec) :=
 OpenClaim.holds_of_wide 7 Tryz.f7 rfl rfl rfl rfl rfl rfl rfl ⟨rfl,rfl,rfl,rfl,rfl⟩ rfl rfl rfl rfl rfl (by kernel_rfl) Tryz.func7 (by kernel_rfl)
  (of_decide_eq_true (by kernel_rfl)) (by unfold Func.isWrapper;first | (rw [if_pos (by decide +kernel)];kernel_rfl) | (rw [if_neg (by decide +kernel)];exact ⟨rfl,rfl⟩))
  (fun os started H enc _=>q5R os started H enc)
theorem familyKnown_holds:Rows.FamilyKnownSaid:=q6N
#print axioms familyKnown_holds
end Go.Proofs.YtobeabinccohlaaGreat
