/- The statement FamilyAtOnce: there are true terms by which all persons of May glean for a family, and others by which only those of Sure do; each family that is one of Families is that of some true terms, and no other one. -/
import Derived.Test.YtobeabinccohlaaGreatMg5
import Derived.Test.YtobeabinccohlaaGreatMg4
set_option maxRecDepth 20000
namespace Go.VE
open Go.RowKit Go.Proofs
section
def bB (b:List E9) (d f:Int) (most:Bool) (g:Int):Int:=qeN (rBd (q07 d b) f most g) (q1c d g (ixs b))
def bH (a b:List E9) (d f:Int) (most:Bool) (p:Int):Int:=qeN (rH (q07 d b) f most) (q1c d p (ixs a))
def bA (a c:List E9) (o:List E5) (d:Int) (most:Bool) (p:Int):Int:=qeN (rAw (q0U a c o d) most) (q1c d p (ixs c))
theorem q7t {rate:Option Int→Int} {s s':Int×Int×Int} (h:qhL rate s' (-1,none)=s):s.1=(if s'.2.2 < rate none then -1 else s'.1)∧s.2.1=(if s'.2.2 < rate none then 0 else s'.2.1):=by
 subst h
 unfold qhL
 split<;>exact ⟨rfl,rfl⟩
section
variable (n:Nat) (a b c:Option (List E9)) (o:Option (List E5)) (d f:Int) (most:Bool) (hb:q5a (b.getD [])) (hl:(b.getD []).length≤1000000)
def enB (s:Nat×Bool×q3u×Mr) (S W:Mr):Nat×List Yr:=(if s.2.1=true then 1 else 0,[.d (il f),.d (il d),.d (bl most),.m s.2.2.2,.d (q0e a b c o),.d (il d),.m S,.m (mq s.2.2.1),.m W,.d (il ((100 - s.1:Nat):Int)),.d (q0e a b c o),.d (il d),.d (q0e a b c o)])
include hb hl
theorem r66_1 (g:Int) (hg:1≤g∧g≤99) (S W:Mr) (B:q3u) (q:Mr) (hq:q2H d (b.getD []) q) (k:Nat→List Yr→Out):∃ q',q2H d (b.getD []) q' ∧
  qeU (RP (n+106)) k [.d (il f),.d (il d),.d (bl most),.m q,.d (q0e a b c o),.d (il d),.m S,.m (mq B),.m W,.d (il g),.d (q0e a b c o),.d (il d),.d (q0e a b c o)]
   = k 1 [.d (il f),.d (il d),.d (bl most),.m q',.d (q0e a b c o),.d (il d),.m S,.m (mq (q4q B g (bB (b.getD []) d f most g))),.m W,.d (il (g+1)),.d (q0e a b c o),.d (il d),.d (q0e a b c o)]:=by
 obtain ⟨q1,hq1,h⟩:=l66_0 n a b c o d f most hb hl g (by omega) S (mq B) W (q0e a b c o) (il 0) (il 0) (0,0,-1) q hq
 have hp:∀ k:List D→Out,(RP (n+106)).ptrW 4 (q0e a b c o) k=k [d9 a,d9 b,d9 c,d5 o]:=fun k=>q1e _ 4 k rfl
 have hi:∀ k:Out,(RP (n+106)).isPtr (q0e a b c o) k=k:=fun k=>q1R _ _ k
 have hw0:IntKind.i64.wrap (((b.getD []).length:Int) - 1)=((b.getD []).length:Int) - 1:=q0m (by omega) (by omega)
 have hw:IntKind.i64.wrap (g+1)=g+1:=q0m (by omega) (by omega)
 simp only [t3,List.cons_append,List.nil_append] at h
 have hbst:bB (b.getD []) d f most g=(bst (rBd (q07 d (b.getD [])) f most g) (0,0,-1) (q1c d g (ixs (b.getD [])))).1:=rfl
 simp only [qeU,q02,q06,q0S,q0R,q04,q77,q00,decide_eq_true_eq]
 rw [if_pos hg.2]
 simp only [hi,hp,q0b,q0j,q5A,q1p,hw0,q0r]
 rcases h with h | ⟨s',h,hst⟩
 ·refine ⟨q1,hq1,?_⟩
  rw [h]
  simp only [q01,q1z,q02,q06,q0S,q0R,q1D,q0s,hw,hbst]
 ·obtain ⟨q2,hq2,h1⟩:=q7g n a b c o d f most hb hl (-1) 0 g (.inl (by omega)) q1 hq1 (q0e a b c o)
  rw [if_pos (by omega)] at h1
  refine ⟨q2,hq2,?_⟩
  rw [h,hbst,(q7t hst).1]
  simp only [q01,q1z,q02,q06,q0S,q0R,q1H,q08,h1,q1I,q2r,q00,decide_eq_true_eq]
  split
  ·simp only [q1D,q0s,hw]
  ·simp only [q1D,q0s,hw]
theorem r66_3 (g:Int) (hg:1≤g∧g≤99) (S W:Mr) (B:q3u) (q:Mr) (hq:q2H d (b.getD []) q) (k:Nat→List Yr→Out):∃ q',q2H d (b.getD []) q' ∧
  qeT (RP (n+106)) k [.d (il f),.d (il d),.d (bl most),.m q,.d (q0e a b c o),.d (il d),.m S,.m (mq B),.m W,.d (il g),.d (q0e a b c o),.d (il d),.d (q0e a b c o)]
   = k 0 [.d (il f),.d (il d),.d (bl most),.m q',.d (q0e a b c o),.d (il d),.m S,.m (mq (q4q B g (bB (b.getD []) d f most g))),.m W,.d (il (g+1)),.d (q0e a b c o),.d (il d),.d (q0e a b c o)]:=by
 obtain ⟨q1,hq1,h⟩:=l66_2 n a b c o d f most hb hl g (by omega) S (mq B) W (q0e a b c o) (il 0) (il 0) (0,0,-1) q hq
 have hp:∀ k:List D→Out,(RP (n+106)).ptrW 4 (q0e a b c o) k=k [d9 a,d9 b,d9 c,d5 o]:=fun k=>q1e _ 4 k rfl
 have hi:∀ k:Out,(RP (n+106)).isPtr (q0e a b c o) k=k:=fun k=>q1R _ _ k
 have hw0:IntKind.i64.wrap (((b.getD []).length:Int) - 1)=((b.getD []).length:Int) - 1:=q0m (by omega) (by omega)
 have hw:IntKind.i64.wrap (g+1)=g+1:=q0m (by omega) (by omega)
 simp only [t3,List.cons_append,List.nil_append] at h
 have hbst:bB (b.getD []) d f most g=(bst (rBd (q07 d (b.getD [])) f most g) (0,0,-1) (q1c d g (ixs (b.getD [])))).1:=rfl
 simp only [qeT,q02,q06,q0S,q0R,q04,q77,q00,decide_eq_true_eq]
 rw [if_pos hg.2]
 simp only [hi,hp,q0b,q0j,q5A,q1p,hw0,q0r]
 rcases h with h | ⟨s',h,hst⟩
 ·refine ⟨q1,hq1,?_⟩
  rw [h]
  simp only [q01,q1z,q02,q06,q0S,q0R,q1D,q0s,hw,hbst]
 ·obtain ⟨q2,hq2,h1⟩:=q7g n a b c o d f most hb hl (-1) 0 g (.inl (by omega)) q1 hq1 (q0e a b c o)
  rw [if_pos (by omega)] at h1
  refine ⟨q2,hq2,?_⟩
  rw [h,hbst,(q7t hst).1]
  simp only [q01,q1z,q02,q06,q0S,q0R,q1H,q08,h1,q1I,q2r,q00,decide_eq_true_eq]
  split
  ·simp only [q1D,q0s,hw]
  ·simp only [q1D,q0s,hw]
theorem l66_1 (S W:Mr):∃ (B:q3u) (q:Mr),q2H d (b.getD []) q∧(∀ g,1≤g→g≤99→q1K B g=some (bB (b.getD []) d f most g)) ∧
  q0o [qeU (RP (n+106)),qeT (RP (n+106))] M0 0 [.d (il f),.d (il d),.d (bl most),.m ([],[]),.d (q0e a b c o),.d (il d),.m S,.m ([],[]),.m W,.d (il 1),.d (q0e a b c o),.d (il d),.d (q0e a b c o)]
   = some (0,[.d (il f),.d (il d),.d (bl most),.m q,.d (q0e a b c o),.d (il d),.m S,.m (mq B),.m W,.d (q0e a b c o),.d (il d),.d (q0e a b c o)]):=by
 refine q4K (σ:=Nat×Bool×q3u×Mr) [qeU (RP (n+106)),qeT (RP (n+106))] (fun s=>enB a b c o d f most s S W) (fun s=>s.1) (fun s=>s.1≤99∧q2H d (b.getD []) s.2.2.2∧∀ g:Int,1≤g→g < ((100 - s.1:Nat):Int)→q1K s.2.2.1 g=some (bB (b.getD []) d f most g))
  (fun r=>∃ (B:q3u) (q:Mr),q2H d (b.getD []) q∧(∀ g,1≤g→g≤99→q1K B g=some (bB (b.getD []) d f most g))∧r=some (0,[.d (il f),.d (il d),.d (bl most),.m q,.d (q0e a b c o),.d (il d),.m S,.m (mq B),.m W,.d (q0e a b c o),.d (il d),.d (q0e a b c o)])) ?_ M0 (99,false,[],([],[])) ⟨Nat.le_refl _,q64 _ _,fun g h1 h2=>by simp only at h2;omega⟩ (by unfold M0;simp only;omega)
 rintro ⟨m,fl,B,q⟩ k ⟨g1,g2,g3⟩ ih
 simp only at g1 g2 g3
 cases m with
 | zero =>
  cases fl with
  | false=>exact ⟨_,rfl,B,q,g2,fun g h1 h2=>g3 g h1 (by omega),by simp [enB,qeU]⟩
  | true=>exact ⟨_,rfl,B,q,g2,fun g h1 h2=>g3 g h1 (by omega),by simp [enB,qeT]⟩
 | succ m =>
  have hg:(1:Int)≤((100 - (m+1):Nat):Int)∧((100 - (m+1):Nat):Int)≤99:=by omega
  have he:((100 - m:Nat):Int)=((100 - (m+1):Nat):Int)+1:=by omega
  have hget:∀ g:Int,1≤g→g < ((100 - m:Nat):Int)→q1K (q4q B ((100 - (m+1):Nat):Int) (bB (b.getD []) d f most ((100 - (m+1):Nat):Int))) g=some (bB (b.getD []) d f most g):=by
   intro g h1 h2
   rw [q1C]
   split
   ·rename_i h;rw [h]
   ·exact g3 g h1 (by omega)
  cases fl with
  | false =>
   obtain ⟨q',hq',h⟩:=r66_1 n a b c o d f most hb hl _ hg S W B q g2 k
   refine ⟨_,rfl,?_⟩
   have:=ih (m,true,q4q B ((100 - (m+1):Nat):Int) (bB (b.getD []) d f most ((100 - (m+1):Nat):Int)),q') ⟨by simp only;omega,hq',hget⟩ (by simp only;omega)
   simp only [enB,he,if_true] at this
   simp only [enB,Bool.false_eq_true,if_false]
   rw [h]
   exact this
  | true =>
   obtain ⟨q',hq',h⟩:=r66_3 n a b c o d f most hb hl _ hg S W B q g2 k
   refine ⟨_,rfl,?_⟩
   have:=ih (m,false,q4q B ((100 - (m+1):Nat):Int) (bB (b.getD []) d f most ((100 - (m+1):Nat):Int)),q') ⟨by simp only;omega,hq',hget⟩ (by simp only;omega)
   simp only [enB,he,Bool.false_eq_true,if_false] at this
   simp only [enB,if_true]
   rw [h]
   exact this
end
end
section
theorem qgp {rate:Option Int→Int} {s s':Int×Int×Int} (h:qhL rate s' (-1,none)=s) (r:List Yr):(if s'.2.2 < rate none then some (0,.d (il (-1))::.d (il 0)::r) else some (0,.d (il s'.1)::.d (il s'.2.1)::r):Out)=some (0,.d (il s.1)::.d (il s.2.1)::r):=by
 rw [(q7t h).1,(q7t h).2]
 split<;>rfl
section
variable (n:Nat) (a b c:Option (List E9)) (o:Option (List E5)) (d f:Int) (most:Bool) (hb:q5a (b.getD [])) (hl:(b.getD []).length≤1000000) (hf:qcl (a.getD [])) (hd:0≤d∧d≤4166) (ha:(a.getD []).length≤1000000) (hc:(c.getD []).length≤1000000) (ho:(o.getD []).length≤1000000)
include hb hl hf hd ha hc ho
theorem r66_6 (O:Option (List Int)) (i:Nat) (p:Int) (hp:(O.getD [])[i]?=some p) (hL:(O.getD []).length≤1000000) (S W:q3u) (B q:Mr) (hq:q2H d (b.getD []) q) (k:Nat→List Yr→Out):∃ q',q2H d (b.getD []) q' ∧
  qeS (RP (n+106)) k [.d (il f),.d (il d),.d (bl most),.d (dI O),.d (il (O.getD []).length),.d (il i),.m q,.d (q0e a b c o),.d (il d),.m (mq W),.m B,.m (mq S),.d (q0e a b c o),.d (il d),.d (q0e a b c o)]
   = k 0 [.d (il f),.d (il d),.d (bl most),.d (dI O),.d (il (O.getD []).length),.d (il ((i:Int)+1)),.m q',.d (q0e a b c o),.d (il d),.m (mq (q4q W p (bA (a.getD []) (c.getD []) (o.getD []) d most p))),.m B,.m (mq (q4q S p (bH (a.getD []) (b.getD []) d f most p))),.d (q0e a b c o),.d (il d),.d (q0e a b c o)]:=by
 have hi:i < (O.getD []).length:=(List.getElem?_eq_some_iff.1 hp).1
 have hpp:∀ k:List D→Out,(RP (n+106)).ptrW 4 (q0e a b c o) k=k [d9 a,d9 b,d9 c,d5 o]:=fun k=>q1e _ 4 k rfl
 have hpi:∀ k:Out,(RP (n+106)).isPtr (q0e a b c o) k=k:=fun k=>q1R _ _ k
 have hw0:IntKind.i64.wrap (((a.getD []).length:Int) - 1)=((a.getD []).length:Int) - 1:=q0m (by omega) (by omega)
 have hw1:IntKind.i64.wrap (((c.getD []).length:Int) - 1)=((c.getD []).length:Int) - 1:=q0m (by omega) (by omega)
 have hw:IntKind.i64.wrap ((i:Int)+1)=(i:Int)+1:=q0m (by omega) (by omega)
 have hrow:∀ k:List D→Out,(RP (n+106)).rowD 1 (dI O) (il i) k=k [il p]:=fun k=>q76 (o:=O) (i:=i) hp k
 obtain ⟨q1,hq1,h⟩:=l66_4 n a b c o d f most hb hl hf ha p (il 0) (il 0) (0,0,-1) q hq
 obtain ⟨_,_,h'⟩:=l66_5 (n+99) a b c o d p most hd ha hc ho (il 0) (il 0) (0,0,-1)
 obtain ⟨q2,hq2,h1⟩:=qcD n a b c o d f most hb hl (-1) 0 (.inl rfl) q1 hq1
 have h2:=s147 (n+99) a b c o (-1) 0 d most hd ha hc ho
 rw [if_pos (by omega)] at h2
 have h2':FN (n+106) 147 [d9 a,d9 b,d9 c,d5 o,il (-1),il 0,il d,bl most]=_:=h2
 have h0:rHm (q07 d (b.getD [])) f most 0=rH (q07 d (b.getD [])) f most none:=rfl
 rw [h0] at h1
 simp only [t3,List.cons_append,List.nil_append] at h h'
 have hH:bH (a.getD []) (b.getD []) d f most p=(bst (rH (q07 d (b.getD [])) f most) (0,0,-1) (q1c d p (ixs (a.getD [])))).1:=rfl
 have hA:bA (a.getD []) (c.getD []) (o.getD []) d most p=(bst (rAw (q0U (a.getD []) (c.getD []) (o.getD []) d) most) (0,0,-1) (q1c d p (ixs (c.getD [])))).1:=rfl
 simp only [qeS,q02,q06,q0S,q0R,q04,q0A,q00,decide_eq_true_eq]
 rw [if_pos (by omega)]
 simp only [hrow,hpi,hpp,q0b,q0j,q5A,q0c,q01,q02,q06,q1p,hw0,q0r]
 rcases h with h | ⟨s',h,hst⟩
 ·refine ⟨q1,hq1,?_⟩
  rw [h]
  simp only [q01,q1z,q02,q06,q0S,q0R,q1D,hpi,hpp,q0b,q0j,q5A,q0c,q1p,hw1,q0r,hH,hA]
  rcases h' with h' | ⟨s'',h',hst'⟩
  ·rw [h']
   simp only [q01,q1z,q02,q06,q0S,q0R,q1D,q0c,q0s,hw]
  ·rw [h']
   simp only [q01,q1z,q02,q06,q0S,q0R,hpp,q0b,q0j,q08,h2',q2r,q00,decide_eq_true_eq,q0c,qgp hst',q1D,q0s,hw]
 ·refine ⟨q2,hq2,?_⟩
  rw [h]
  simp only [q01,q1z,q02,q06,q0S,q0R,q1H,q08,h1,q1I,q2r,q00,decide_eq_true_eq,q0c,qgp hst,q1D,hpi,hpp,q0b,q0j,q5A,q1p,hw1,q0r,hH,hA]
  rcases h' with h' | ⟨s'',h',hst'⟩
  ·rw [h']
   simp only [q01,q1z,q02,q06,q0S,q0R,q1D,q0c,q0s,hw]
  ·rw [h']
   simp only [q01,q1z,q02,q06,q0S,q0R,hpp,q0b,q0j,q08,h2',q2r,q00,decide_eq_true_eq,q0c,qgp hst',q1D,q0s,hw]
def en6 (O:Option (List Int)) (B:Mr) (s:Nat×q3u×q3u×Mr):List Yr:=[.d (il f),.d (il d),.d (bl most),.d (dI O),.d (il (O.getD []).length),.d (il s.1),.m s.2.2.2,.d (q0e a b c o),.d (il d),.m (mq s.2.2.1),.m B,.m (mq s.2.1),.d (q0e a b c o),.d (il d),.d (q0e a b c o)]
theorem l66_6 (O:Option (List Int)) (hL:(O.getD []).length≤1000000) (B q:Mr) (hq:q2H d (b.getD []) q):∃ S W:q3u,(∀ p∈O.getD [],q1K S p=some (bH (a.getD []) (b.getD []) d f most p)∧q1K W p=some (bA (a.getD []) (c.getD []) (o.getD []) d most p)) ∧
  q0o [qeS (RP (n+106))] M0 0 [.d (il f),.d (il d),.d (bl most),.d (dI O),.d (il (O.getD []).length),.d (il 0),.m q,.d (q0e a b c o),.d (il d),.m ([],[]),.m B,.m ([],[]),.d (q0e a b c o),.d (il d),.d (q0e a b c o)]
   = some (0,[.d (il d),.m (mq W),.m B,.m (mq S),.d (q0e a b c o)]):=by
 refine q4K (σ:=Nat×q3u×q3u×Mr) [qeS (RP (n+106))] (fun s=>(0,en6 a b c o d f most O B s)) (fun s=>(O.getD []).length - s.1)
  (fun s=>s.1≤(O.getD []).length∧q2H d (b.getD []) s.2.2.2∧∀ p∈(O.getD []).take s.1,q1K s.2.1 p=some (bH (a.getD []) (b.getD []) d f most p)∧q1K s.2.2.1 p=some (bA (a.getD []) (c.getD []) (o.getD []) d most p))
  (fun r=>∃ S W:q3u,(∀ p∈O.getD [],q1K S p=some (bH (a.getD []) (b.getD []) d f most p)∧q1K W p=some (bA (a.getD []) (c.getD []) (o.getD []) d most p))∧r=some (0,[.d (il d),.m (mq W),.m B,.m (mq S),.d (q0e a b c o)])) ?_ M0 (0,[],[],q) ⟨Nat.zero_le _,hq,fun p h=>by simp at h⟩ (by unfold M0;simp only;omega)
 rintro ⟨i,S,W,q⟩ k ⟨g1,g2,g3⟩ ih
 simp only at g1 g2 g3
 refine ⟨_,rfl,?_⟩
 by_cases hi:i < (O.getD []).length
 ·obtain ⟨p,hp⟩:∃ p,(O.getD [])[i]?=some p:=⟨_,List.getElem?_eq_getElem hi⟩
  obtain ⟨q',hq',h⟩:=r66_6 n a b c o d f most hb hl hf hd ha hc ho O i p hp hL S W B q g2 k
  simp only [en6]
  rw [h]
  refine ih (i+1,q4q S p (bH (a.getD []) (b.getD []) d f most p),q4q W p (bA (a.getD []) (c.getD []) (o.getD []) d most p),q') ⟨by simp only;omega,hq',fun z hz=>?_⟩ (by simp only;omega)
  rw [List.take_add_one,hp,Option.toList_some] at hz
  simp only [q1C]
  by_cases hzp:z=p
  ·subst hzp;simp
  ·rw [if_neg hzp,if_neg hzp]
   refine g3 z ?_
   rcases List.mem_append.1 hz with hz | hz
   ·exact hz
   ·exact absurd (List.mem_singleton.1 hz) hzp
 ·have:i=(O.getD []).length:=by omega
  subst this
  refine ⟨S,W,fun p hp=>g3 p (by rw [List.take_length];exact hp),?_⟩
  simp [en6,qeS]
end
end
section
def q90 (a c:List E9):List Int:=q0u (q2s a) (c.map (·.a))
theorem q65 (a c:List E9) (p:Int):p∈q90 a c↔(∃ e∈a,e.a=p)∨∃ e∈c,e.a=p:=by
 unfold q90
 rw [q1X,qas,List.mem_map]
theorem qiO (a c:List E9):(q90 a c).length≤a.length+c.length:=by
 have h1:=q6B (c.map (·.a)) (q2s a)
 have h2:=q3X a
 rw [List.length_map] at h1
 unfold q90;omega
theorem qbH {l:List E9} {i:Nat} {x:Int} (h:(l.map (·.a))[i]?=some x):∃ e,l[i]?=some e∧e.a=x:=by
 rw [List.getElem?_map,Option.map_eq_some_iff] at h
 exact h
theorem s142 (n:Nat) (a b c:Option (List E9)) (o:D) (hl:(a.getD []).length≤1000000) (hc:(c.getD []).length≤1000000):FN (n+6) 142 [d9 a,d9 b,d9 c,o]=some (0,[.d (dI (nzO (q90 (a.getD []) (c.getD []))))]):=by
 rw [FS,qmH]
 have h111:=s111 n a (d9 b) (d9 c) o hl
 have hL:((c.getD []).map (·.a)).length=(c.getD []).length:=by simp
 simp only [G142,q08,h111]
 cases hp:q2s (a.getD []) with
 | nil =>
  simp only [q1z,q02,q06,q5A,q04,q0r]
  by_cases hne:c.getD []=[]
  ·have h0:q0o [q9c (RP (n+5)),q9b (RP (n+5))] M0 0 [.d (dI none),.d (d9 c),.d (il (([]:List E9).length:Int)),.d (il 0)]=some (0,[.d (dI none)]) :=
    q3g (σ:=Unit) [q9c (RP (n+5)),q9b (RP (n+5))] (fun _=>(0,[.d (dI none),.d (d9 c),.d (il (([]:List E9).length:Int)),.d (il 0)])) (fun _=>0) (fun _=>True) (fun _=>some (0,[.d (dI none)])) (fun s k _ _=>⟨_,rfl,by simp [q9c]⟩) M0 () trivial (by unfold M0;omega)
   rw [hne,h0]
   simp only [q01,q02,q0c,q90,hp]
   rfl
  ·have:=q9F ((c.getD []).map (·.a)) (by simpa using hc) (by simpa using hne) (q9c (RP (n+5))) (q9b (RP (n+5))) (fun i=>[.d (dI none),.d (d9 c),.d (il (c.getD []).length),.d (il (i:Nat))])
    (fun i acc=>[.n acc.length,.n acc.length,.d (d9 c),.d (il (c.getD []).length),.d (il (i:Nat)),.r (acc.map rI)]) (fun acc=>some (1,[.n acc.length,.n acc.length,.r (acc.map rI)])) ?_ ?_ ?_
   ·rw [show il 0=il ((0:Nat):Int) from rfl,this]
    have he:q90 (a.getD []) (c.getD [])=q0u [] ((c.getD []).map (·.a)):=by unfold q90;rw [hp]
    have hq:q0u [] ((c.getD []).map (·.a))≠[]:=q4M [] (by simpa using hne)
    rw [he,qjZ hq]
    simp only [q1z,q0Q,q0P,q0G,q0Z,q0B,List.length_map,q0K,if_true,q0J,qcB,q1n,q0c]
    rfl
   ·intro acc k
    rw [hL]
    simp [q9b]
   ·intro x k hi hlt
    rw [hL] at hlt
    obtain ⟨e,he,rfl⟩:=qbH hi
    have h9:=q5N (Fn:=FN (n+5)) (FnD:=q1Z Tryz.prog (cf3 tb Tryz.prog) (FN (n+5))) (m:=M0) he
    simp only [q9c,q02,q06,q0A,q00,Int.natCast_zero,hlt,decide_true,if_true]
    rw [show ((il 0):D)=il ((0:Nat):Int) from rfl,h9]
    have hnil:FN (n+5) 158 [dI none,il e.a]=_:=qiI e.a (n+2)
    have hn:∀ k:Out,(RP (n+5)).nilD (dI none) k=k:=fun _=>rfl
    simp only [r9,q0b,q0j,q08,hnil,q01,q02,q06,q00,Bool.false_eq_true,if_false,hn]
    rw [put0]
    simp only [q04,q0s,q1o,q0C,q0B,q0J,List.length_cons,List.length_nil,List.take_succ_cons,List.take_zero,Int.natCast_zero]
    rw [show IntKind.i64.wrap (0+1)=((1:Nat):Int) from rfl]
   ·intro i x acc k hi hlt hw hu hal
    rw [hL] at hlt
    obtain ⟨e,he,rfl⟩:=qbH hi
    have hput:=q1A (n+1) acc e.a (by omega) hu
    simp only [q9b,q02,q06,q0Q,q0P,q0G,q0Z,q0A,q00,hlt,decide_true,if_true,q5N he,r9,q0b,q0j,q0B,q0K,List.length_map,q1n,q08]
    simp only [hput,q01,q02,q1f,q04,q0s,hw,List.length_map]
 | cons y r =>
  simp only [q01,q0G,q0B,q5A,q04,q0r,List.length_map]
  have:=q7Z ((c.getD []).map (·.a)) (by simpa using hc) (qdL (RP (n+5))) (fun i acc=>[.n acc.length,.n acc.length,.d (d9 c),.d (il (c.getD []).length),.d (il (i:Nat)),.r (acc.map rI)]) (fun acc=>some (0,[.n acc.length,.n acc.length,.r (acc.map rI)])) 1000000 ?_ ?_ (y::r) (by rw [←hp];exact qid _) (by rw [←hp];exact Nat.le_trans (q3X _) hl)
  ·rw [show il 0=il ((0:Nat):Int) from rfl,this]
   have he:q90 (a.getD []) (c.getD [])=q0u (y::r) ((c.getD []).map (·.a)):=by unfold q90;rw [hp]
   have hq:q90 (a.getD []) (c.getD [])≠[]:=fun h=>by
    have:=(q65 (a.getD []) (c.getD []) y).2 (.inl ((qas _ _).1 (by rw [hp];simp)))
    rw [h] at this;cases this
   rw [qjZ hq,he]
   simp only [q01,q0Q,q0P,q0G,q0Z,q0B,List.length_map,q0K,if_true,q0J,qcB,q1n,q0c]
   rfl
  ·intro acc k
   rw [hL]
   simp [qdL]
  ·intro i x acc k hi hlt hw hu hal
   rw [hL] at hlt
   obtain ⟨e,he,rfl⟩:=qbH hi
   have hput:=q1A (n+1) acc e.a (by omega) hu
   simp only [qdL,q02,q06,q0Q,q0P,q0G,q0Z,q0A,q00,hlt,decide_true,if_true,q5N he,r9,q0b,q0j,q0B,q0K,List.length_map,q1n,q08]
   simp only [hput,q01,q02,q1f,q04,q0s,hw,List.length_map]
end
section
theorem qd3 {a b c:List E9} {o:List E5} (h:q0H a b c o=true) (k:Int):OkK (q0w k a) (q0w k b) (q0w k c):=by
 obtain ⟨p1,p2,p3,_⟩:=q5z h
 have hs:∀ {e:E9},q2U e.f1 e.f2 e.t1 e.t2→okE e:=fun h=>⟨h.2.1,h.2.2.1,h.2.2.2.1⟩
 exact ⟨fun e he=>hs (p1 e (q4i he)).2.2.2.1,fun e he=>hs (p2 e (q4i he)).2.2.2.1,fun e he=>hs (p3 e (q4i he)).2.2.2.2.1⟩
theorem q58 {d who:Int} {S:Int→Option Int} {l:List E9} {rate:Option Int→Int} {Q:Option Int→Prop} (h0:∀ x,0≤rate x) (hok:∀ e∈l,okE e)
  (hS:S who=some (qeN rate (q1c d who (ixs l)))∨∀ e∈l,e.a≠who)
  (hQ:∀ x,x∈q0O d who (below l l.length)→(∀ y∈q0O d who (below l l.length),rate y≤rate x)→Q x):q2a d who S l Q:=by
 obtain ⟨x,hx,hm⟩:=qlM (os:=q1c d who (ixs l)) h0 (qcZ d who _)
 have hq:Q x:=hQ x (q3b hx) fun y hy=>by
  obtain ⟨j,hj⟩:=q34 hy
  exact hm _ hj
 by_cases hn:∃ e∈l,e.a=who
 ·refine q92 hok ?_ (.inr hn)
  rcases hS with h | h
  ·exact .inr ⟨_,x,h,hx,hq⟩
  ·exact .inl h
 ·have hno:∀ e∈l,e.a≠who:=fun e he hw=>hn ⟨e,he,hw⟩
  have hx':=q3b hx
  rw [qfR hno,List.mem_singleton] at hx'
  subst hx'
  exact q92 hok (.inl hno) (.inl hq)
theorem qfI (W:Int→Bool×Bool) (most:Bool) (x:Option Int):0≤rAw W most x:=by
 cases x<;>cases most<;>simp only [rAw]<;>(repeat' split)<;>omega
theorem qfH (L:Int→List Int) (f:Int) (most:Bool) (z:Int):0≤rHm L f most z:=by
 unfold rHm;(repeat' split)<;>omega
theorem qbp (L:Int→List Int) (f:Int) (most:Bool) (g:Int) (x:Option Int):0≤rBd L f most g x:=by
 unfold rBd;(repeat' split)<;>omega
section
variable {a b c:List E9} {o:List E5} {d f:Int} {S B W:Int→Option Int}
theorem qkU (g:GoodK a b c o) (k:OkK a b c)
  (hS:∀ p∈q90 a c,S p=some (bH a b d f true p)∧W p=some (bA a c o d true p)) (hB:∀ h,1≤h→h≤99→B h=some (bB b d f true h)):Most a b c o d f S B W where
 ha p:=by
  refine q58 (rate:=rH (q07 d b) f true) (fun x=>qfH ..) k.a ?_ fun x hx hm=>?_
  ·by_cases hp:p∈q90 a c
   ·exact .inl (hS p hp).1
   ·exact .inr fun e he hw=>hp ((q65 ..).2 (.inl ⟨e,he,hw⟩))
  ·simp only [rH,rHm,if_true] at hm
   constructor
   ·rintro ⟨h,hh,h0⟩ hx0
    obtain ⟨y,hy,rfl⟩:=(q0p ..).1 hh
    have:=hm y hy
    rw [if_neg h0,if_pos hx0] at this
    split at this<;>omega
   ·rintro ⟨h,hh,h0,hl⟩
    obtain ⟨y,hy,rfl⟩:=(q0p ..).1 hh
    have:=hm y hy
    rw [if_neg h0,if_pos hl] at this
    split at this
    ·omega
    ·split at this
     ·assumption
     ·omega
 hb h h1 h2:=by
  refine q58 (rate:=rBd (q07 d b) f true h) (fun x=>qbp ..) k.b (.inl (hB h h1 h2)) fun x hx hm hl=>?_
  have hx1:rBd (q07 d b) f true h x=1:=by
   have hle:∀ y,rBd (q07 d b) f true h y≤1:=fun y=>by simp only [rBd,if_true];split<;>omega
   have hy:∃ y∈q0O d h (below b b.length),rBd (q07 d b) f true h y=1:=by
    rcases (q1w g.less h1).1 hl with ⟨h3,h4⟩ | ⟨w,h3,h4⟩
    ·exact ⟨none,h3,by simp [rBd,h4]⟩
    ·exact ⟨some w,h3,by simp [rBd,h4]⟩
   obtain ⟨y,hy,hy1⟩:=hy
   have h3:=hm y hy
   have h4:=hle x
   omega
  cases x with
  | none =>
   left
   simp only [rBd,if_true,List.mem_singleton] at hx1
   split at hx1
   ·rename_i h3;exact ⟨rfl,h3.symm⟩
   ·omega
  | some w =>
   right
   simp only [rBd,if_true] at hx1
   split at hx1
   ·rename_i h3;exact ⟨w,rfl,h3⟩
   ·omega
 hc p:=by
  refine q58 (rate:=rAw (q0U a c o d) true) (fun x=>qfI ..) k.c ?_ fun x hx hm=>?_
  ·by_cases hp:p∈q90 a c
   ·exact .inl (hS p hp).2
   ·exact .inr fun e he hw=>hp ((q65 ..).2 (.inr ⟨e,he,hw⟩))
  ·constructor
   ·intro hn
    have:=hm none hn
    cases x with
    | none=>rfl
    | some z =>
     simp only [rAw,if_true] at this
     split at this<;>omega
   ·rintro ⟨y,hy,hy1⟩
    have:=hm y hy
    cases x with
    | none=>rfl
    | some z =>
     cases y with
     | none =>
      simp only [rAw,if_true] at this
      split at this<;>omega
     | some w =>
      simp only [rAw,if_true,hy1] at this
      split at this
      ·assumption
      ·omega
theorem few_of (g:GoodK a b c o) (k:OkK a b c)
  (hS:∀ p∈q90 a c,S p=some (bH a b d f false p)∧W p=some (bA a c o d false p)) (hB:∀ h,1≤h→h≤99→B h=some (bB b d f false h)):Few a b c o d f S B W where
 ha p:=by
  refine q58 (rate:=rH (q07 d b) f false) (fun x=>qfH ..) k.a ?_ fun x hx hm=>?_
  ·by_cases hp:p∈q90 a c
   ·exact .inl (hS p hp).1
   ·exact .inr fun e he hw=>hp ((q65 ..).2 (.inl ⟨e,he,hw⟩))
  ·simp only [rH,rHm,Bool.false_eq_true,if_false] at hm
   constructor
   ·intro hh
    obtain ⟨y,hy,hy0⟩:=(q0p ..).1 hh
    have:=hm y hy
    rw [if_pos hy0.symm] at this
    split at this
    ·assumption
    ·split at this<;>omega
   ·rintro ⟨h,hh,h0⟩
    obtain ⟨y,hy,rfl⟩:=(q0p ..).1 hh
    have:=hm y hy
    by_cases hx0:f0 x=0
    ·exact .inl hx0
    ·right
     intro hl
     rw [if_neg hx0,if_pos hl] at this
     split at this
     ·omega
     ·rename_i h3
      rw [if_neg (h0.resolve_left h3)] at this
      omega
 hb h h1 h2:=by
  refine q58 (rate:=rBd (q07 d b) f false h) (fun x=>qbp ..) k.b (.inl (hB h h1 h2)) fun x hx hm hl=>?_
  have hx1:rBd (q07 d b) f false h x≠0:=by
   intro hx0
   have hall:∀ y∈q0O d h (below b b.length),rBd (q07 d b) f false h y=0:=fun y hy=>by
    have h3:=hm y hy
    have h4:=qbp (q07 d b) f false h y
    omega
   apply hl
   refine (qd2 (q3N ..) (q3h g.less _ h (Nat.le_refl _) h1)).2 fun z hz=>?_
   rcases (q1w g.less h1).1 hz with ⟨h3,h4⟩ | ⟨w,h3,h4⟩
   ·have:=hall none h3
    simp only [rBd,Bool.false_eq_true,if_false] at this
    split at this
    ·rename_i h5
     cases h5
     exact h4
    ·omega
   ·have:=hall (some w) h3
    simp only [rBd,Bool.false_eq_true,if_false] at this
    split at this
    ·rename_i h5
     rw [h5,List.mem_singleton] at h4
     exact h4
    ·omega
  cases x with
  | none =>
   left
   refine ⟨rfl,fun h3=>hx1 ?_⟩
   simp [rBd,h3]
  | some w =>
   right
   refine ⟨w,rfl,fun h3=>hx1 ?_⟩
   simp [rBd,h3]
 hc p:=by
  refine q58 (rate:=rAw (q0U a c o d) false) (fun x=>qfI ..) k.c ?_ fun x hx hm=>?_
  ·by_cases hp:p∈q90 a c
   ·exact .inl (hS p hp).2
   ·exact .inr fun e he hw=>hp ((q65 ..).2 (.inr ⟨e,he,hw⟩))
  ·constructor
   ·rintro ⟨w,hw⟩ rfl
    have:=hm (some w) hw
    simp only [rAw,Bool.false_eq_true,if_false] at this
    split at this<;>omega
   ·rintro ⟨y,hy,hy1⟩
    have:=hm y hy
    cases y with
    | none=>cases hy1
    | some w =>
     cases x with
     | none =>
      simp only [rAw,Bool.false_eq_true,if_false,hy1,if_true] at this
      omega
     | some z =>
      simp only [rAw,Bool.false_eq_true,if_false,hy1,if_true] at this
      split at this
      ·assumption
      ·omega
end
end
section
theorem r_mpd (q:q3u):(.mp false (mq q).1 (mq q).2:D)=dM q:=rfl
section
variable (n:Nat) (f d k:Int) (most:Bool) (a b c:Option (List E9)) (o:Option (List E5)) (ha:(a.getD []).length*72≤140737488351232) (hb:(b.getD []).length*72≤140737488351232) (hc:(c.getD []).length*72≤140737488351232) (ho:(o.getD []).length*40≤140737488351232)
include ha hb hc ho
theorem qjO (he:q1Q (q0H (a.getD []) (b.getD []) (c.getD []) (o.getD [])) false true 0 f [d,k]=0) :
  ∃ S B W:q3u,(∀ p∈q90 (q0w k (a.getD [])) (q0w k (c.getD [])),q1K S p=some (bH (q0w k (a.getD [])) (q0w k (b.getD [])) d f most p)∧q1K W p=some (bA (q0w k (a.getD [])) (q0w k (c.getD [])) (q5O k (o.getD [])) d most p)) ∧
   (∀ h,1≤h→h≤99→q1K B h=some (bB (q0w k (b.getD [])) d f most h)) ∧
   FN (n+107) 66 [d9 a,d9 b,d9 c,d5 o,il f,il d,il k,bl most]=some (0,[.d (dT (nzO (q0q d (q1K S) (q0w k (a.getD []))))),.d (dT (nzO (q0q d (q1K B) (q0w k (b.getD []))))),.d (dT (nzO (q0q d (q1K W) (q0w k (c.getD []))))),.d (il 0)]):=by
 have g:=q3j k he
 have la:=g.la;have lb:=g.lb;have lc:=g.lc;have lo:=g.lo
 have hp:∀ q:List D→Out,(RP (n+106)).ptrW 4 (q0e (kn9 k a) (kn9 k b) (kn9 k c) (kn5 k o)) q=q [d9 (kn9 k a),d9 (kn9 k b),d9 (kn9 k c),d5 (kn5 k o)]:=fun q=>q1e _ 4 q rfl
 obtain ⟨B,q,hq,hB,h1⟩:=l66_1 n (kn9 k a) (kn9 k b) (kn9 k c) (kn5 k o) d f most g.less (by omega) ([],[]) ([],[])
 have hlen:((nzO (q90 ((kn9 k a).getD []) ((kn9 k c).getD []))).getD []).length≤1000000:=by
  rw [q2Y]
  have:=qiO ((kn9 k a).getD []) ((kn9 k c).getD [])
  omega
 obtain ⟨S,W,hS,h6⟩:=l66_6 n (kn9 k a) (kn9 k b) (kn9 k c) (kn5 k o) d f most g.less (by omega) g.fam (q1V he).1 (by omega) (by omega) (by omega) (nzO (q90 ((kn9 k a).getD []) ((kn9 k c).getD []))) hlen (mq B) q hq
 rw [q2Y] at hS
 simp only [q0d,q1v] at hS hB
 refine ⟨S,B,W,hS,hB,?_⟩
 have h142:=s142 (n+100) (kn9 k a) (kn9 k b) (kn9 k c) (d5 (kn5 k o)) (by omega) (by omega)
 have h148:=s148 (n+104) d S B W (kn9 k a) (kn9 k b) (kn9 k c) (kn5 k o) la lb lc
 simp only [q0d] at h148
 rw [FS,G66_eq]
 simp only [G66,q08,s79,q01,q02,q06,q0C,q1n,q7e (n+96) 0 f d k a b c o ha hb hc ho false true]
 simp only [q4o,he,if_true,q01,q02,q06,q04,q0Y,ne_eq,not_true_eq_false,decide_false,q00,Bool.false_eq_true,if_false,qek,q0r,h1]
 simp only [q01,q02,q06,q0S,q0R,hp,q0b,q0j,h142,q6o,q0r,h6,q0c,q8z,h148]
end
end
section
theorem q6v {d who:Int}:∀ {l:List (E9×Nat)} {j:Int},(j,none)∈q1c d who l→j=-1
 | [],j,h=>by
  simp only [q1c,List.mem_singleton,Prod.mk.injEq] at h
  exact h.1
 | (e,i)::r,j,h=>by
  simp only [q1c] at h
  split at h
  ·rcases List.mem_cons.1 h with h | h
   ·cases h
   ·split at h
    ·cases h
    ·exact q6v h
  ·exact q6v h
theorem q55 {d who:Int} {l:List E9} (h:none∈q0O d who (below l l.length)):((-1:Int),none)∈q1c d who (ixs l):=by
 obtain ⟨j,hj⟩:=q34 h
 have:=q6v hj
 subst this
 exact hj
theorem q74 {d who:Int} {S:Int→Option Int} {l:List E9} {j:Int} {x:Option Int} {Q:Option Int→Prop} (hok:∀ e∈l,okE e) (hS:S who=some j) (h:(j,x)∈q1c d who (ixs l)) (hq:Q x):q2a d who S l Q:=⟨x,qai hok hS h,q3b h,hq⟩
def RecB (d f:Int) (b:List E9) (B:q3u) (g w:Int) (B':q3u):Prop:=(∀ h,w < h→q1K B' h=q1K B h)∧Chain d f b (q1K B') w
section
variable (a b c:Option (List E9)) (o:Option (List E5)) (d f:Int) (S W:q3u) (hb:q5a (b.getD [])) (hl:(b.getD []).length≤1000000)
def Q150 (B:q3u) (g:Int) (os:List (Int×Option Int)) (r:Out):Prop :=
 (∃ j w B' q,(j,some w)∈os∧RecB d f (b.getD []) (q4q B g j) g w B'∧r=some (1,[.d (q0e a b c o),.d (il d),.m q,.d (q0e a b c o),.d (il d),.m (mq W),.m (mq B'),.m (mq S),.d (q0e a b c o),.d (il g)])) ∨
 ((∀ p∈os,∀ w,p.2=some w→f∉q07 d (b.getD []) w) ∧
  ((∃ q,r=some (2,[.d (q0e a b c o),.d (il d),.m q,.d (q0e a b c o),.d (il d),.m (mq W),.m (mq B),.m (mq S),.d (q0e a b c o),.d (il g)])∧∀ p∈os,p.2≠none) ∨
   (∃ q,r=some (0,[.d (q0e a b c o),.d (il d),.m q,.d (q0e a b c o),.d (il d),.m (mq W),.m (mq B),.m (mq S),.d (q0e a b c o),.d (il g)]))))
include hb hl
theorem l150 (n:Nat) (g:Int) (hg:g≤99) (B:q3u)
  (ih:∀ j w,1≤w→w < g→f∈q07 d (b.getD []) w→∃ B',RecB d f (b.getD []) (q4q B g j) g w B'∧FN (n+106) 1000150 [dM S,dM (q4q B g j),dM W,q0e a b c o,il w,il f,il d]=some (0,[.d (dM S),.d (dM B'),.d (dM W)])) :
  Q150 a b c o d f S W B g (q1c d g (ixs (b.getD []))) (q0o [q48 (RP (n+106)) (il g) (il f) (q0e a b c o) (il d)] M0 0 [.d (il d),.d (il (((b.getD []).length:Int) - 1)),.d (q0e a b c o),.d (il d),.m ([],[]),.d (q0e a b c o),.d (il d),.m (mq W),.m (mq B),.m (mq S),.d (q0e a b c o),.d (il g)]):=by
 refine q7J (σ:=Mr) (b.getD []) hl d g [q48 (RP (n+106)) (il g) (il f) (q0e a b c o) (il d)] (fun m q=>(0,[.d (il d),.d (il ((m:Int) - 1)),.d (q0e a b c o),.d (il d),.m q,.d (q0e a b c o),.d (il d),.m (mq W),.m (mq B),.m (mq S),.d (q0e a b c o),.d (il g)])) (fun _ q=>q2H d (b.getD []) q) (fun os _ r=>Q150 a b c o d f S W B g os r) ?_ ?_ ([],[]) (q64 _ _)
 ·intro q k _
  refine ⟨_,rfl,.inr ⟨fun p hp w hw=>?_,.inr ⟨q,by simp [q48]⟩⟩⟩
  rw [List.mem_singleton] at hp
  subst hp;cases hw
 ·intro m e q k he _ hw hm1 hq
  refine ⟨_,rfl,?_⟩
  have ho:=s194 (n+105) a b c o m e g he
  have hbe:=hb e (List.mem_of_getElem? he)
  obtain ⟨q',hq',h161⟩:=s161 a b c o d hb hl 100 (n+1) e.b q hbe.1 (by omega) (by omega) hq
  have hlen:(q07 d (b.getD []) e.b).length≤1000000:=by
   have:=q5J (q3N d (b.getD []) e.b) fun x hx=>by
    have:=q1d hb _ e.b x (Nat.le_refl _) hbe.1 hx
    omega
   omega
  have h149:=s149 (n+104) (some (q07 d (b.getD []) e.b)) f (by simp only [Option.getD_some];omega)
  simp only [Option.getD_some] at h149
  have h161':FN (n+106) 1000161 [q0e a b c o,il d,.mp false q.1 q.2,il e.b,q0e a b c o,il d]=some (0,[.d (dI (some (q07 d (b.getD []) e.b))),.d (q0e a b c o),.d (il d),.d (.mp false q'.1 q'.2)]):=h161
  have hnn:¬ ((m:Nat):Int) < 0:=by omega
  have hnn':(0:Int)≤((m:Nat):Int):=by omega
  simp only [hm1,q48,q02,q06,q0S,q0R,q04,q23,q00]
  rw [if_pos (by simp)]
  simp only [q08,ho,q01,q02,q06,q0z,q00,q1p,hw,q9X,q0D,q0c,q1H,h161',q1I,h149,q0A,q1D]
  refine ⟨fun hc=>?_,fun hc=>⟨hq,?_⟩⟩
  ·obtain ⟨h2,h3⟩:=hc
   by_cases hx:f∈q07 d (b.getD []) e.b
   ·left
    intro os
    obtain ⟨B',hB,hr⟩:=ih m e.b hbe.1 (by omega) hx
    refine .inl ⟨m,e.b,B',q',by simp,hB,?_⟩
    simp [h2,h3,hx,hnn,h161',h149,q1H,q1I,q1D,r_mpd,qah,hr]
   ·right
    refine ⟨q',hq',fun os r h=>?_,fun hs=>?_,fun hs=>?_⟩
    ·rcases h with ⟨j,w,B',q,h4,h5,h6⟩ | ⟨h4,h5⟩
     ·exact .inl ⟨j,w,B',q,by simp [h4],h5,h6⟩
     ·refine .inr ⟨fun p hp w hw=>?_,?_⟩
      ·rcases List.mem_cons.1 hp with rfl | hp
       ·cases hw;exact hx
       ·exact h4 p hp w hw
      ·rcases h5 with ⟨q,h6,h7⟩ | h5
       ·refine .inl ⟨q,h6,fun p hp=>?_⟩
        rcases List.mem_cons.1 hp with rfl | hp
        ·simp
        ·exact h7 p hp
       ·exact .inr h5
    ·refine .inr ⟨(fun p hp=>by cases hp),.inl ⟨q',?_,fun p hp=>by cases hp⟩⟩
     simp [h2,h3,hx,hnn,h161',h149,q1H,q1I,q4C,hs]
    ·simp [h2,h3,hx,hnn,h161',h149,q1H,q1I,q4C,hs]
  ·by_cases h2:e.a=g
   ·have h3:¬ q1J e.f1 e.t2 d=true:=fun h=>hc ⟨h2,h⟩
    simp [h2,h3]
   ·simp [h2]
theorem s150 (hk:∀ e∈b.getD [],okE e):∀ (N n:Nat) (g:Int) (B:q3u),1≤g→g.toNat≤N→g≤99→f∈q07 d (b.getD []) g →
  ∃ B',(∀ h,g < h→q1K B' h=q1K B h)∧Chain d f (b.getD []) (q1K B') g∧FN (n+N+106) 1000150 [dM S,dM B,dM W,q0e a b c o,il g,il f,il d]=some (0,[.d (dM S),.d (dM B'),.d (dM W)]):=by
 intro N
 induction N with
 | zero=>intro n g B h1 h2;omega
 | succ N ih =>
  intro n g B h1 h2 h3 h4
  have hp:∀ q:List D→Out,(RP (n+N+106)).ptrW 4 (q0e a b c o) q=q [d9 a,d9 b,d9 c,d5 o]:=fun q=>q1e _ 4 q rfl
  have hpi:∀ k:Out,(RP (n+N+106)).isPtr (q0e a b c o) k=k:=fun k=>q1R _ _ k
  have hw0:IntKind.i64.wrap (((b.getD []).length:Int) - 1)=((b.getD []).length:Int) - 1:=q0m (by omega) (by omega)
  have hl150:=l150 a b c o d f S W hb hl (n+N) g h3 B fun j w hw1 hw2 hw3=>by
   obtain ⟨B',i1,i2,i3⟩:=ih n w (q4q B g j) hw1 (by omega) (by omega) hw3
   exact ⟨B',⟨i1,i2⟩,i3⟩
  rw [show n+(N+1)+106=(n+N+106)+1 by omega,FS,qce]
  simp only [qdX,qah,hpi,hp,q0b,q0j,q5A,q04,q1p,hw0,q0r,qek]
  rcases hl150 with ⟨j,w,B',q,h5,⟨h6,h7⟩,h8⟩ | ⟨h5,h6⟩
  ·rw [h8]
   have hwg:=q1S hb (q3b h5)
   refine ⟨B',fun h hh=>?_,?_,?_⟩
   ·rw [h6 h (by omega),q1C,if_neg (by omega)]
   ·exact .step (q74 hk (by rw [h6 g (by omega),q1C,if_pos rfl]) h5 rfl) h7
   ·simp only [q1z,q0S,q0R,q8z,q0c]
  ·have hn:none∈q0O d g (below (b.getD []) (b.getD []).length)∧f=g:=by
    rcases (q1w hb h1).1 h4 with h | ⟨w,h7,h8⟩
    ·exact h
    ·obtain ⟨j,hj⟩:=q34 h7
     exact absurd h8 (h5 _ hj w rfl)
   obtain ⟨hn,rfl⟩:=hn
   rcases h6 with ⟨q,_,h7⟩ | ⟨q,h7⟩
   ·exact absurd rfl (h7 _ (q55 hn))
   ·rw [h7]
    refine ⟨q4q B f (-1),fun h hh=>by rw [q1C,if_neg (by omega)],.stop (q74 hk (by rw [q1C,if_pos rfl]) (q55 hn) rfl) rfl,?_⟩
    simp [q1D,q8z]
end
end
section
section
variable (n:Nat) (a b c:Option (List E9)) (o:Option (List E5)) (d p:Int) (S B W:q3u)
def Q200 (os:List (Int×Option Int)) (r:Out):Prop :=
 (∃ j x,(j,x)∈os∧f0 x≠0∧r=some (0,[.m (mq (q4q S p j)),.m (mq B),.m (mq W),.d (q0e a b c o),.d (il p)])) ∨
 ((∀ q∈os,f0 q.2=0)∧(r=some (1,[.m (mq S),.m (mq B),.m (mq W),.d (q0e a b c o),.d (il p)])∨r=some (2,[.m (mq S),.m (mq B),.m (mq W),.d (q0e a b c o),.d (il p)])))
theorem l200 (ha:(a.getD []).length≤1000000):Q200 a b c o p S B W (q1c d p (ixs (a.getD [])))
  (q0o [q46 (RP (n+1)) (il p)] M0 0 [.d (il d),.d (il (((a.getD []).length:Int) - 1)),.m (mq S),.m (mq B),.m (mq W),.d (q0e a b c o),.d (il p)]):=by
 refine q7J (σ:=Unit) (a.getD []) ha d p [q46 (RP (n+1)) (il p)] (fun m _=>(0,[.d (il d),.d (il ((m:Int) - 1)),.m (mq S),.m (mq B),.m (mq W),.d (q0e a b c o),.d (il p)])) (fun _ _=>True) (fun os _ r=>Q200 a b c o p S B W os r) ?_ ?_ () trivial
 ·intro _ k _
  refine ⟨_,rfl,.inr ⟨fun q hq=>?_,.inr (by simp [q46])⟩⟩
  rw [List.mem_singleton] at hq
  subst hq;rfl
 ·intro m e _ k he _ hw hm1 _
  refine ⟨_,rfl,?_⟩
  have ho:=qjP n a b c o m e p he
  simp only [hm1,q46,q02,q06,q0S,q0R,q04,q23,q00]
  rw [if_pos (by simp)]
  simp only [q08,ho,q01,q02,q06,q0z,q00,q1p,hw,q9X,q0D,q0c,q0Y,q1D]
  refine ⟨fun hc=>?_,fun hc=>⟨trivial,?_⟩⟩
  ·obtain ⟨h2,h3⟩:=hc
   by_cases hx:e.b=0
   ·right
    refine ⟨(),trivial,fun os r h=>?_,fun hs=>?_,fun hs=>?_⟩
    ·rcases h with ⟨j,x,h4,h5,h6⟩ | ⟨h4,h5⟩
     ·exact .inl ⟨j,x,by simp [h4],h5,h6⟩
     ·refine .inr ⟨fun q hq=>?_,h5⟩
      rcases List.mem_cons.1 hq with rfl | hq
      ·exact hx
      ·exact h4 q hq
    ·refine .inr ⟨(fun q hq=>by cases hq),.inl ?_⟩
     simp [h2,h3,hx,q4C,hs]
    ·simp [h2,h3,hx,q4C,hs]
   ·left
    intro os
    refine .inl ⟨m,some e.b,by simp,hx,?_⟩
    simp [h2,h3,hx,q1D]
  ·by_cases h2:e.a=p
   ·have h3:¬ q1J e.f1 e.t2 d=true:=fun h=>hc ⟨h2,h⟩
    simp [h2,h3]
   ·simp [h2]
def WalkS (d p:Int) (a:List E9) (S S':q3u):Prop :=
 (∀ q,q≠p→q1K S' q=q1K S q)∧(q1K S p≠none→S'=S)∧(q1K S p=none→(∃ x∈q0O d p (below a a.length),f0 x≠0)→∃ j x,q1K S' p=some j∧(j,x)∈q1c d p (ixs a)∧f0 x≠0)
theorem s200 (ha:(a.getD []).length≤1000000):∃ S',WalkS d p (a.getD []) S S'∧FN (n+2) 1000200 [dM S,dM B,dM W,q0e a b c o,il p,il d]=some (0,[.d (dM S'),.d (dM B),.d (dM (q4q W p (-1)))]):=by
 have hp:∀ q:List D→Out,(RP (n+1)).ptrW 4 (q0e a b c o) q=q [d9 a,d9 b,d9 c,d5 o]:=fun q=>q1e _ 4 q rfl
 have hpi:∀ k:Out,(RP (n+1)).isPtr (q0e a b c o) k=k:=fun k=>q1R _ _ k
 have hw0:IntKind.i64.wrap (((a.getD []).length:Int) - 1)=((a.getD []).length:Int) - 1:=q0m (by omega) (by omega)
 rw [FS,qcb]
 simp only [qdU,qah,qfF,q04]
 cases hS:q1K S p with
 | some j =>
  refine ⟨S,⟨fun _ _=>rfl,fun _=>rfl,fun h=>by rw [hS] at h;cases h⟩,?_⟩
  simp [q0z,q1D,q8z]
 | none =>
  simp only [q0z,q00,Bool.not_false,if_true,hpi,hp,q0b,q5A,q1p,hw0,q0r]
  rcases l200 n a b c o d p S B W ha with ⟨j,x,h1,h2,h3⟩ | ⟨h1,h2⟩
  ·refine ⟨q4q S p j,⟨fun q hq=>by rw [q1C,if_neg hq],fun h=>absurd hS h,fun _ _=>⟨j,x,by rw [q1C,if_pos rfl],h1,h2⟩⟩,?_⟩
   rw [h3]
   simp [q1D,q8z]
  ·refine ⟨S,⟨fun _ _=>rfl,fun h=>absurd hS h,fun _ h=>?_⟩,?_⟩
   ·obtain ⟨x,hx,hx0⟩:=h
    obtain ⟨j,hj⟩:=q34 hx
    exact absurd (h1 _ hj) hx0
   ·rcases h2 with h2 | h2
    ·rw [h2];simp [q1D,q8z]
    ·rw [h2];simp [q1D,q8z,q0Y]
end
end
section
def cst (W:Int→Bool×Bool):Int×Int→List (Int×Option Int)→Int×Int
 | s,[]=>s
 | s,(_,none)::os=>cst W s os
 | s,(j,some z)::os=>cst W (if (q0v W (some z)).1=true∧s.1 < 0 then (j,z) else s) os
theorem qbR {W:Int→Bool×Bool}:∀ {os:List (Int×Option Int)} {s:Int×Int},0≤s.1→cst W s os=s
 | [],_,_=>rfl
 | (_,none)::os,s,h=>qbR (os:=os) h
 | (j,some z)::os,s,h=>by
  rw [cst,if_neg (fun e=>by omega)]
  exact qbR h
theorem qbS {W:Int→Bool×Bool}:∀ {os:List (Int×Option Int)} {s:Int×Int},(∀ q∈os,q.2≠none→0≤q.1)→s.1 < 0→(∃ j z,(j,some z)∈os∧(q0v W (some z)).1=true) →
  ((cst W s os).1,some (cst W s os).2)∈os∧(q0v W (some (cst W s os).2)).1=true
 | [],s,_,_,⟨_,_,h,_⟩=>by cases h
 | (i,none)::os,s,h0,hs,⟨j,z,h,hz⟩=>by
  have h':(j,some z)∈os:=by
   rcases List.mem_cons.1 h with h | h
   ·cases h
   ·exact h
  obtain ⟨h1,h2⟩:=qbS (W:=W) (os:=os) (s:=s) (fun q hq=>h0 q (by simp [hq])) hs ⟨j,z,h',hz⟩
  exact ⟨List.mem_cons_of_mem _ h1,h2⟩
 | (i,some y)::os,s,h0,hs,⟨j,z,h,hz⟩=>by
  rw [cst]
  by_cases hy:(q0v W (some y)).1=true
  ·rw [if_pos ⟨hy,hs⟩]
   have hi:0≤i:=h0 (i,some y) (by simp) (by simp)
   rw [qbR (s:=(i,y)) hi]
   exact ⟨by simp,hy⟩
  ·rw [if_neg (fun e=>hy e.1)]
   have h':(j,some z)∈os:=by
    rcases List.mem_cons.1 h with h | h
    ·cases h;exact absurd hz hy
    ·exact h
   obtain ⟨h1,h2⟩:=qbS (W:=W) (os:=os) (s:=s) (fun q hq=>h0 q (by simp [hq])) hs ⟨j,z,h',hz⟩
   exact ⟨List.mem_cons_of_mem _ h1,h2⟩
theorem q7I {d who:Int}:∀ {l:List (E9×Nat)} {q:Int×Option Int},q∈q1c d who l→q.2≠none→0≤q.1
 | [],q,h,hn=>by
  simp only [q1c,List.mem_singleton] at h
  subst h;exact absurd rfl hn
 | (e,i)::r,q,h,hn=>by
  simp only [q1c] at h
  split at h
  ·rcases List.mem_cons.1 h with h | h
   ·subst h;simp only;omega
   ·split at h
    ·cases h
    ·exact q7I h hn
  ·exact q7I h hn
section
variable (n:Nat) (a b c:Option (List E9)) (o:Option (List E5)) (d p:Int) (S B W:q3u) (hd:0≤d∧d≤4166) (ha:(a.getD []).length≤1000000) (hc:(c.getD []).length≤1000000) (ho:(o.getD []).length≤1000000)
def qeH (s:Int×Int):List Yr:=[.d (il s.1),.d (il s.2),.m (mq S),.m (mq B),.m (mq W),.d (q0e a b c o),.d (il p)]
def Q151 (os:List (Int×Option Int)) (s:Int×Int) (r:Out):Prop :=
 (r=some (1,qeH a b c o p S B W (cst (q0U (a.getD []) (c.getD []) (o.getD []) d) s os))∧∀ q∈os,q.2≠none)∨((∃ s',r=some (2,qeH a b c o p S B W s'))∧∃ q∈os,q.2=none)
include hd ha hc ho
theorem l151 (s:Int×Int):Q151 a b c o d p S B W (q1c d p (ixs (c.getD []))) s
  (q0o [q47 (RP (n+6)) (il p) (q0e a b c o) (il d)] M0 0 (.d (il d)::.d (il (((c.getD []).length:Int) - 1))::qeH a b c o p S B W s)):=by
 refine q7J (σ:=Int×Int) (c.getD []) hc d p [q47 (RP (n+6)) (il p) (q0e a b c o) (il d)] (fun m s=>(0,.d (il d)::.d (il ((m:Int) - 1))::qeH a b c o p S B W s)) (fun _ _=>True) (fun os s r=>Q151 a b c o d p S B W os s r) ?_ ?_ s trivial
 ·intro s k _
  refine ⟨_,rfl,.inr ⟨⟨s,by simp [q47,qeH]⟩,(-1,none),by simp,rfl⟩⟩
 ·intro m e s k he _ hw hm1 _
  refine ⟨_,rfl,?_⟩
  have ho':=s195 (n+5) a b c o m e p he
  have h196:=s196 n a b c o d e.b hd ha hc ho
  have hp:∀ q:List D→Out,(RP (n+6)).ptrW 4 (q0e a b c o) q=q [d9 a,d9 b,d9 c,d5 o]:=fun q=>q1e _ 4 q rfl
  have hnn:¬ ((m:Nat):Int) < 0:=by omega
  simp only [hm1,q47,qeH,q02,q06,q0S,q0R,q04,q23,q00]
  rw [if_pos (by simp)]
  simp only [q08,ho',q01,q02,q06,q0z,q00,q1p,hw,q9X,q0D,q0c,q0A,q1a,hp,h196]
  refine ⟨fun hc=>.inr ?_,fun hc=>⟨trivial,?_⟩⟩
  ·obtain ⟨h2,h3⟩:=hc
   refine ⟨if (q0v (q0U (a.getD []) (c.getD []) (o.getD []) d) (some e.b)).1=true∧s.1 < 0 then ((m:Int),e.b) else s,trivial,fun os r h=>?_,fun hs=>.inl ⟨?_,fun q hq=>by cases hq⟩,fun hs=>?_⟩
   ·rcases h with ⟨h4,h5⟩ | ⟨h4,q,h5,h6⟩
    ·refine .inl ⟨h4,fun q hq=>?_⟩
     rcases List.mem_cons.1 hq with rfl | hq
     ·simp
     ·exact h5 q hq
    ·exact .inr ⟨h4,q,by simp [h5],h6⟩
   all_goals
    by_cases hx:e.b=0
    ·simp [h2,h3,hnn,hx,q4C,hs,q0v,cst,qeH]
    ·by_cases hx1:(q0U (a.getD []) (c.getD []) (o.getD []) d e.b).1=true
     ·by_cases hx2:s.1 < 0
      ·simp [h2,h3,hnn,hx,hx1,hx2,hp,h196,q4C,hs,q0v,cst,qeH]
      ·simp [h2,h3,hnn,hx,hx1,hx2,hp,h196,q4C,hs,q0v,cst,qeH]
     ·simp [h2,h3,hnn,hx,hx1,hp,h196,q4C,hs,q0v,cst,qeH]
  ·by_cases h2:e.a=p
   ·have h3:¬ q1J e.f1 e.t2 d=true:=fun h=>hc ⟨h2,h⟩
    simp [h2,h3]
   ·simp [h2]
def GoS (S' W':q3u):Prop :=
 (S'=S∧W'=q4q W p (-1)∧none∈q0O d p (below (c.getD []) (c.getD []).length)) ∨
 ∃ j z,(j,some z)∈q1c d p (ixs (c.getD []))∧(q0v (q0U (a.getD []) (c.getD []) (o.getD []) d) (some z)).1=true∧W'=q4q (q4q W p j) z (-1)∧WalkS d z (a.getD []) S S'
theorem s151 (hy:∃ y∈q0O d p (below (c.getD []) (c.getD []).length),(q0v (q0U (a.getD []) (c.getD []) (o.getD []) d) y).1=true) :
  ∃ S' W',GoS a c o d p S W S' W'∧FN (n+7) 1000151 [dM S,dM B,dM W,q0e a b c o,il p,il d]=some (0,[.d (dM S'),.d (dM B),.d (dM W')]):=by
 have hp:∀ q:List D→Out,(RP (n+6)).ptrW 4 (q0e a b c o) q=q [d9 a,d9 b,d9 c,d5 o]:=fun q=>q1e _ 4 q rfl
 have hpi:∀ k:Out,(RP (n+6)).isPtr (q0e a b c o) k=k:=fun k=>q1R _ _ k
 have hw0:IntKind.i64.wrap (((c.getD []).length:Int) - 1)=((c.getD []).length:Int) - 1:=q0m (by omega) (by omega)
 rw [FS,qcd]
 simp only [qdW,qah,q04,hpi,hp,q0b,q0j,q5A,q1p,hw0,q0r]
 have hl:=l151 n a b c o d p S B W hd ha hc ho (-1,0)
 simp only [qeH] at hl
 rcases hl with ⟨h1,h2⟩ | ⟨⟨s',h1⟩,q,h2,h3⟩
 ·rw [h1]
  have hz:∃ j z,(j,some z)∈q1c d p (ixs (c.getD []))∧(q0v (q0U (a.getD []) (c.getD []) (o.getD []) d) (some z)).1=true:=by
   obtain ⟨y,hy,hy1⟩:=hy
   obtain ⟨j,hj⟩:=q34 hy
   cases y with
   | none=>exact absurd rfl (h2 _ hj)
   | some z=>exact ⟨j,z,hj,hy1⟩
  obtain ⟨h4,h5⟩:=qbS (s:=(-1,0)) (fun q hq hn=>q7I hq hn) (by decide) hz
  generalize cst (q0U (a.getD []) (c.getD []) (o.getD []) d) (-1,0) (q1c d p (ixs (c.getD [])))=s at h1 h4 h5
  obtain ⟨S',hS,h6⟩:=s200 (n+4) a b c o d s.2 S B (q4q W p s.1) ha
  refine ⟨S',_,.inr ⟨s.1,s.2,h4,h5,rfl,hS⟩,?_⟩
  simp only [qeH,q1z,q02,q06,q0S,q0R,q1D,q8z,q08,h6,q01,qah,q0c]
 ·rw [h1]
  refine ⟨S,q4q W p (-1),.inl ⟨rfl,rfl,?_⟩,?_⟩
  ·obtain ⟨j,x⟩:=q
   simp only at h3
   subst h3
   exact q3b h2
  ·simp [qeH,q1D,q8z]
end
end
section
theorem qi6 {a c:List E9} {o:List E5} {d z:Int} (h:(q0U a c o d z).1=true):q8E d z o=false∧(∃ x∈q0O d z (below a a.length),f0 x≠0)∧none∈q0O d z (below c c.length):=by
 unfold q0U at h
 by_cases hb:q8E d z o=true
 ·rw [if_pos hb] at h;cases h
 ·rw [if_neg hb] at h
  simp only [Bool.and_eq_true,q1N,decide_eq_true_eq,q6D] at h
  obtain ⟨h1,x,h2,h3⟩:=h
  cases x with
  | none=>exact ⟨by simpa using hb,h1,h2⟩
  | some w=>cases h3
theorem go_yes {a c:List E9} {o:List E5} {d p:Int} (h:(goP a c o d p).1=true):q8E d p o=false∧∃ y∈q0O d p (below c c.length),(q0v (q0U a c o d) y).1=true:=by
 unfold goP at h
 by_cases hb:q8E d p o=true
 ·rw [if_pos hb] at h;cases h
 ·rw [if_neg hb] at h
  simp only [q1N] at h
  exact ⟨by simpa using hb,h⟩
section
variable (n:Nat) (a b c:Option (List E9)) (o:Option (List E5)) (d f p:Int)
def Q67 (os:List (Int×Option Int)) (r:Out):Prop :=
 (∃ j w B' q,(j,some w)∈os∧w≠0∧Chain d f (b.getD []) (q1K B') w∧r=some (2,[.m (mq []),.m (mq B'),.m (mq (q4q [] p j)),.d (q0e a b c o),.d (q0e a b c o),.d (il d),.m q,.d (q0e a b c o),.d (il d),.d (q0e a b c o),.d (il p)])) ∨
 ∀ q∈os,∀ w,q.2=some w→f∉q07 d (b.getD []) w
theorem l67 (hb:q5a (b.getD [])) (hl:(b.getD []).length≤1000000) (hk:∀ e∈b.getD [],okE e) (ha:(a.getD []).length≤1000000) (hf:qcl (a.getD [])) :
  Q67 a b c o d f p (q1c d p (ixs (a.getD []))) (q0o [qjA (RP (n+206)) (il f) (il p) (il d)] M0 0 [.d (il d),.d (il (((a.getD []).length:Int) - 1)),.m ([],[]),.m ([],[]),.m ([],[]),.d (q0e a b c o),.d (q0e a b c o),.d (il d),.m ([],[]),.d (q0e a b c o),.d (il d),.d (q0e a b c o),.d (il p)]):=by
 refine q7J (σ:=Mr) (a.getD []) ha d p [qjA (RP (n+206)) (il f) (il p) (il d)] (fun m q=>(0,[.d (il d),.d (il ((m:Int) - 1)),.m (mq []),.m (mq []),.m (mq []),.d (q0e a b c o),.d (q0e a b c o),.d (il d),.m q,.d (q0e a b c o),.d (il d),.d (q0e a b c o),.d (il p)])) (fun _ q=>q2H d (b.getD []) q) (fun os _ r=>Q67 a b c o d f p os r) ?_ ?_ ([],[]) (q64 _ _)
 ·intro q k _
  refine ⟨_,rfl,.inr fun q hq w hw=>?_⟩
  rw [List.mem_singleton] at hq
  subst hq;cases hw
 ·intro m e q k he _ hw hm1 hq
  refine ⟨_,rfl,?_⟩
  have ho:=qjP (n+205) a b c o m e p he
  have hfe:=hf e (List.mem_of_getElem? he)
  obtain ⟨q',hq',h161⟩:=s161 a b c o d hb hl 100 (n+101) e.b q hfe.1 (by omega) (by omega) hq
  have hlen:(q07 d (b.getD []) e.b).length≤1000000:=by
   have:=q5J (q3N d (b.getD []) e.b) fun x hx=>by
    have:=q1d hb _ e.b x (Nat.le_refl _) hfe.1 hx
    omega
   omega
  have h149:=s149 (n+204) (some (q07 d (b.getD []) e.b)) f (by simp only [Option.getD_some];omega)
  simp only [Option.getD_some] at h149
  have h161':FN (n+206) 1000161 [q0e a b c o,il d,.mp false q.1 q.2,il e.b,q0e a b c o,il d]=some (0,[.d (dI (some (q07 d (b.getD []) e.b))),.d (q0e a b c o),.d (il d),.d (.mp false q'.1 q'.2)]):=h161
  have hb0:e.b≠0:=by omega
  simp only [hm1,qjA,q02,q06,q0S,q0R,q04,q23,q00]
  rw [if_pos (by simp)]
  simp only [q08,ho,q01,q02,q06,q0z,q00,q1p,hw,q9X,q0D,q0c,q0Y,q1D]
  refine ⟨fun hc=>?_,fun hc=>⟨hq,?_⟩⟩
  ·obtain ⟨h2,h3⟩:=hc
   by_cases hx:f∈q07 d (b.getD []) e.b
   ·left
    intro os
    obtain ⟨B',_,h5,h6⟩:=s150 a b c o d f (q4q [] p m) [] hb hl hk 100 n e.b [] hfe.1 (by omega) hfe.2 hx
    have h6':FN (n+206) 1000150 [dM (q4q [] p m),dM [],dM [],q0e a b c o,il e.b,il f,il d]=_:=h6
    refine .inl ⟨m,e.b,B',q',by simp,hb0,h5,?_⟩
    simp [h2,h3,hb0,hx,h161',h149,q1H,q1I,q1D,r_mpd,qah,h6']
   ·right
    refine ⟨q',hq',fun os r h=>?_,fun hs=>.inr (fun p hp=>by cases hp),fun hs=>?_⟩
    ·rcases h with ⟨j,w,B',q,h4,h5⟩ | h4
     ·exact .inl ⟨j,w,B',q,by simp [h4],h5⟩
     ·refine .inr fun p hp w hw=>?_
      rcases List.mem_cons.1 hp with rfl | hp
      ·cases hw;exact hx
      ·exact h4 p hp w hw
    ·simp [h2,h3,hb0,hx,h161',h149,q1H,q1I,q4C,hs]
  ·by_cases h2:e.a=p
   ·have h3:¬ q1J e.f1 e.t2 d=true:=fun h=>hc ⟨h2,h⟩
    simp [h2,h3]
   ·simp [h2]
variable (k:Int) (ha:(a.getD []).length*72≤140737488351232) (hb:(b.getD []).length*72≤140737488351232) (hc:(c.getD []).length*72≤140737488351232) (ho:(o.getD []).length*40≤140737488351232)
include ha hb hc ho
theorem qil (he:q1Q (q0H (a.getD []) (b.getD []) (c.getD []) (o.getD [])) true true p f [d,k]=0) (hf:q4t (q42 k a b c o d p) f=0):FN (n+207) 67 [d9 a,d9 b,d9 c,d5 o,il p,il f,il d,il k]=some (0,[.d (dT none),.d (dT none),.d (dT none),.d (il 3)]):=by
 have g:=q3j k he
 have hp:∀ q:List D→Out,(RP (n+206)).ptrW 4 (q0e (kn9 k a) (kn9 k b) (kn9 k c) (kn5 k o)) q=q [d9 (kn9 k a),d9 (kn9 k b),d9 (kn9 k c),d5 (kn5 k o)]:=fun q=>q1e _ 4 q rfl
 have h86:=k86 (n+100) d p f (q1V he).1 g
 simp only [q0d,q1v] at h86
 rw [show q2n (q0w k (a.getD [])) (q0w k (b.getD [])) (q0w k (c.getD [])) (q5O k (o.getD [])) d p=q42 k a b c o d p from rfl,hf] at h86
 rw [FS,qkt]
 simp only [G67,q08,q0D,q0C,q1n,q7e (n+196) p f d k a b c o ha hb hc ho true true]
 simp only [q4o,he,if_true,q01,q02,q06,q04,q0Y,ne_eq,not_true_eq_false,decide_false,q00,Bool.false_eq_true,if_false,hp,q0b,q0j,h86,q1a,decide_true,if_true,q0c]
 simp [dT,dSl]
theorem s67_ok (he:q1Q (q0H (a.getD []) (b.getD []) (c.getD []) (o.getD [])) true true p f [d,k]=0) (hf:q4t (q42 k a b c o d p) f≠0) :
  ∃ S B W:q3u,ShowP (q0w k (a.getD [])) (q0w k (b.getD [])) (q0w k (c.getD [])) (q5O k (o.getD [])) d f p (q1K S) (q1K B) (q1K W) ∧
   FN (n+207) 67 [d9 a,d9 b,d9 c,d5 o,il p,il f,il d,il k]=some (0,[.d (dT (nzO (q0q d (q1K S) (q0w k (a.getD []))))),.d (dT (nzO (q0q d (q1K B) (q0w k (b.getD []))))),.d (dT (nzO (q0q d (q1K W) (q0w k (c.getD []))))),.d (il 0)]):=by
 have g:=q3j k he
 have la:=g.la;have lb:=g.lb;have lc:=g.lc;have lo:=g.lo
 have hk:=qd3 (q1U he) k
 have hf1:1≤f:=by
  unfold q1Q at he
  split at he
  ·simp at he
  ·split at he
   ·simp at he
   ·split at he
    ·simp at he
    ·split at he
     ·simp at he
     ·rename_i h2 _
      have h3:1≤f∧f≤99:=by simpa using h2
      exact h3.1
 have hne:∀ e∈q0w k (c.getD []),e.b≠e.a:=fun e h=>((q5z (q1U he)).2.2.1 e (q4i h)).2.2.2.1
 have hmem:f∈q42 k a b c o d p:=by
  unfold q4t at hf
  by_cases h:f∈q42 k a b c o d p
  ·exact h
  ·rw [if_neg h] at hf;exact absurd rfl hf
 have hmem':f∈q2n (q0w k (a.getD [])) (q0w k (b.getD [])) (q0w k (c.getD [])) (q5O k (o.getD [])) d p:=hmem
 rw [q1P] at hmem'
 obtain ⟨hgo,h,hh,h0,hlead⟩:=hmem'.resolve_left fun e=>by omega
 obtain ⟨hbar,hy⟩:=go_yes hgo
 have hp:∀ q:List D→Out,(RP (n+206)).ptrW 4 (q0e (kn9 k a) (kn9 k b) (kn9 k c) (kn5 k o)) q=q [d9 (kn9 k a),d9 (kn9 k b),d9 (kn9 k c),d5 (kn5 k o)]:=fun q=>q1e _ 4 q rfl
 have hpi:∀ q:Out,(RP (n+206)).isPtr (q0e (kn9 k a) (kn9 k b) (kn9 k c) (kn5 k o)) q=q:=fun q=>q1R _ _ q
 have h86:=k86 (n+100) d p f (q1V he).1 g
 simp only [q0d,q1v] at h86
 rw [show q2n (q0w k (a.getD [])) (q0w k (b.getD [])) (q0w k (c.getD [])) (q5O k (o.getD [])) d p=q42 k a b c o d p from rfl] at h86
 have hw0:IntKind.i64.wrap ((((kn9 k a).getD []).length:Int) - 1)=(((kn9 k a).getD []).length:Int) - 1:=q0m (by omega) (by omega)
 have hl:=l67 n (kn9 k a) (kn9 k b) (kn9 k c) (kn5 k o) d f p g.less (by omega) (by rw [q0d];exact hk.b) (by omega) g.fam
 rw [Q67] at hl
 rcases hl with ⟨j,w,B,q,h1,h2,h3,h4⟩ | h1
 ·rw [q0d] at h1 h3
  obtain ⟨S',W',hG,h5⟩:=s151 (n+199) (kn9 k a) (kn9 k b) (kn9 k c) (kn5 k o) d p (q4q [] p j) B [] (q1V he).1 (by omega) (by omega) (by omega) (by simp only [q0d,q1v];exact hy)
  have h148:=s148 (n+204) d S' B W' (kn9 k a) (kn9 k b) (kn9 k c) (kn5 k o) la lb lc
  simp only [q0d] at h148
  refine ⟨S',B,W',?_,?_⟩
  ·unfold GoS at hG
   simp only [q0d,q1v] at hG
   have hS0:q1K (q4q [] p j) p=some j:=by rw [q1C,if_pos rfl]
   rcases hG with ⟨rfl,rfl,hn⟩ | ⟨i,z,h6,h7,rfl,h8,h9,h10⟩
   ·exact ⟨hbar,q74 hk.a hS0 h1 ⟨h2,h3⟩,q74 hk.c (by rw [q1C,if_pos rfl]) (q55 hn) (.inl rfl)⟩
   ·have hz0:z≠0:=by
     rintro rfl
     simp [q0v] at h7
    have h7':(q0U (q0w k (a.getD [])) (q0w k (c.getD [])) (q5O k (o.getD [])) d z).1=true:=by
     simpa [q0v,hz0] using h7
    obtain ⟨hb1,hb2,hb3⟩:=qi6 h7'
    have hzp:z≠p:=by
     obtain ⟨e,he1,he2,he3,_⟩:=q53 _ _ _ _ (q3b h6)
     have:=hne e (q3e he1)
     rw [he2,he3] at this
     exact this
    have hSz:q1K (q4q [] p j) z=none:=by rw [q1C,if_neg hzp];rfl
    obtain ⟨j',x,h11,h12,h13⟩:=h10 hSz hb2
    refine ⟨hbar,q74 hk.a (by rw [h8 p (Ne.symm hzp),hS0]) h1 ⟨h2,h3⟩,q74 hk.c (by rw [q1C,if_neg (Ne.symm hzp),q1C,if_pos rfl]) h6 (.inr ⟨z,rfl,hz0,hb1,q74 hk.a h11 h12 h13,q74 hk.c (by rw [q1C,if_pos rfl]) (q55 hb3) rfl⟩)⟩
  ·rw [FS,qkt]
   simp only [G67,q08,q0D,q0C,q1n,q7e (n+196) p f d k a b c o ha hb hc ho true true]
   simp only [q4o,he,if_true,q01,q02,q06,q04,q0Y,ne_eq,not_true_eq_false,decide_false,q00,Bool.false_eq_true,if_false,hp,q0b,q0j,h86,q1a,hf,hpi,q5A,q1p,hw0,qek,q0r,h4]
   have h5':FN (n+206) 1000151 [dM (q4q [] p j),dM B,dM [],q0e (kn9 k a) (kn9 k b) (kn9 k c) (kn5 k o),il p,il d]=_:=h5
   simp only [q01,q2N,List.getElem?_cons_succ,List.getElem?_cons_zero,q02,q06,q0S,q0R,q8z,q0c,h5',qah,hp,q0b,q0j,h148]
 ·obtain ⟨x,hx,rfl⟩:=(q0p ..).1 hh
  obtain ⟨j,hj⟩:=q34 hx
  cases x with
  | none=>exact absurd rfl h0
  | some w =>
   rw [q0d] at h1
   have:=h1 _ hj w rfl
   rw [q0d] at this
   exact absurd hlead this
end
end
section
section
variable {Fn:Nat→List D→Out} {FnD:D→List Sh→List D→Out} {m:Nat}
theorem a10_n (A B C O F X Y Z:D) (p f d k g:Int) (h67:Fn 67 [A,B,C,O,il p,il g,il d,il k]=some (0,[.d X,.d Y,.d Z,.d (il 3)])) (h41:Fn 41 [F,il g]=some (0,[.d (bl false)])) (hg:g≤8) (hw:IntKind.i64.wrap (g+1)=g+1) (K:Nat→List Yr→Out) :
  q9T (q05 Fn FnD m) K [.d A,.d B,.d C,.d O,.d (il p),.d (il f),.d (il d),.d (il k),.d F,.d (il g)]=K 0 [.d A,.d B,.d C,.d O,.d (il p),.d (il f),.d (il d),.d (il k),.d F,.d (il (g+1))]:=by
 simp only [q9T,q02,q06,q04,q77,q00,decide_eq_true_eq]
 rw [if_pos hg]
 simp only [q08,h67,q01,q02,q06,q1a,h41,qfC,q00,q0Y,q0s,hw]
 simp
theorem a10_y (A B C O F X Y Z:D) (p f d k g:Int) (h67:Fn 67 [A,B,C,O,il p,il g,il d,il k]=some (0,[.d X,.d Y,.d Z,.d (il 0)])) (h41:Fn 41 [F,il g]=some (0,[.d (bl true)])) (h50:Fn 50 [A,B,C,O,X,Y,Z,il p,il d,il k]=some (0,[.d (il g),.d (il 0)])) (hg:g≤8) (hw:IntKind.i64.wrap (g+1)=g+1) (K:Nat→List Yr→Out) :
  q9T (q05 Fn FnD m) K [.d A,.d B,.d C,.d O,.d (il p),.d (il f),.d (il d),.d (il k),.d F,.d (il g)]=K 0 [.d A,.d B,.d C,.d O,.d (il p),.d (il f),.d (il d),.d (il k),.d F,.d (il (g+1))]:=by
 simp only [q9T,q02,q06,q04,q77,q00,decide_eq_true_eq]
 rw [if_pos hg]
 simp only [q08,h67,q01,q02,q06,q1a,h41,qfC,q00,q0Y,h50,q0s,hw]
 simp
theorem a10 (A B C O S M:D) (p f d k lo hi:Int) (ok:Bool)
  (h24:Fn 24 [A,B,C,O]=some (0,[.d (il (if ok=true then 0 else 34))])) (hd25:Fn 25 [il d]=some (0,[.d (bl (decide (0≤d∧d≤4166)))])) (hk25:Fn 25 [il k]=some (0,[.d (bl (decide (0≤k∧k≤4166)))])) (h26:Fn 26 [il f]=some (0,[.d (bl (decide (1≤f∧f≤99)))])) (h65:Fn 65 [il p]=some (0,[.d (bl (decide (1≤p∧p≤999)))])) (h23:Fn 23 []=some (0,[.d (bl true)]))
  (hm:ok=true→0≤d∧d≤4166→0≤k∧k≤4166→1≤f∧f≤99→1≤p∧p≤999→∃ X1 X2 X3 Y1 Y2 Y3 L1 L2 F:D,
   Fn 32 [A,B,C,O,il f,il d,il k]=some (0,[.d S,.d (il 0)])∧Fn 34 [A,B,C,O,il f,il d,il k]=some (0,[.d M,.d (il 0)])∧Fn 29 [A,B,C,O,il f,il d,il k]=some (0,[.d (il lo),.d (il hi),.d (il 0)]) ∧
   Fn 66 [A,B,C,O,il f,il d,il k,bl true]=some (0,[.d X1,.d X2,.d X3,.d (il 0)])∧Fn 66 [A,B,C,O,il f,il d,il k,bl false]=some (0,[.d Y1,.d Y2,.d Y3,.d (il 0)]) ∧
   Fn 48 [A,B,C,O,X1,X2,X3,il f,il d,il k]=some (0,[.d L1,.d (il 0)])∧Fn 48 [A,B,C,O,Y1,Y2,Y3,il f,il d,il k]=some (0,[.d L2,.d (il 0)]) ∧
   Fn 22 [L1,M]=some (0,[.d (bl true)])∧Fn 22 [L2,S]=some (0,[.d (bl true)])∧(∀ q:D→Out,(q05 Fn FnD m).lenD S q=q (il lo))∧(∀ q:D→Out,(q05 Fn FnD m).lenD M q=q (il hi)) ∧
   Fn 16 [A,B,C,O,il p,il d,il k]=some (0,[.d F,.d (il 0)])∧q0o [q9T (q05 Fn FnD m)] m 0 [.d A,.d B,.d C,.d O,.d (il p),.d (il f),.d (il d),.d (il k),.d F,.d (il 1)]=some (1,[])) :
  G10 (q05 Fn FnD m) A B C O (il p) (il f) (il d) (il k)=some (0,[.d (bl true)]):=by
 simp only [G10,q08,h24,q01,q02,q04,q0Y,q00,hd25,hk25,h26,h65,q0z,h23,q0c]
 cases ok with
 | false=>simp
 | true =>
  simp only [if_true,ne_eq,not_true_eq_false,decide_false,Bool.false_eq_true,if_false]
  by_cases hd:0≤d∧d≤4166
  ·simp only [hd,and_self,decide_true,Bool.not_true,Bool.false_eq_true,if_false]
   by_cases hk:0≤k∧k≤4166
   ·simp only [hk,and_self,decide_true,Bool.not_true,Bool.false_eq_true,if_false]
    by_cases hf:1≤f∧f≤99
    ·simp only [hf,and_self,decide_true,Bool.not_true,Bool.false_eq_true,if_false]
     by_cases hp:1≤p∧p≤999
     ·obtain ⟨X1,X2,X3,Y1,Y2,Y3,L1,L2,F,g1,g2,g3,g4,g5,g6,g7,g8,g9,g10,g11,g12,g13⟩:=hm rfl hd hk hf hp
      simp only [hp,and_self,decide_true,Bool.not_true,Bool.false_eq_true,if_false,g1,q01,q02,q06,g2,g3,q0D,g4,g5,g6,g7,g8,g9,g10,g11,qfG,g12,q0Y,ne_eq,not_true_eq_false,decide_false,q00,q0z,q0r,g13,q1z,if_true]
     ·simp [hp]
    ·simp [hf]
   ·simp [hk]
  ·simp [hd]
end
end
section
section
variable {k:Int} {a b c:Option (List E9)} {o:Option (List E5)} {d f:Int} {S B W:Int→Option Int}
abbrev tP (d:Int) (S:Int→Option Int) (l:List E9):Option (List T2):=nzO (q0q d S l)
theorem q9m (p:Int):qhK k a b c o (tP d S (q0w k (a.getD []))) (tP d B (q0w k (b.getD []))) (tP d W (q0w k (c.getD []))) d p=qhJ (q0w k (a.getD [])) (q0w k (b.getD [])) (q0w k (c.getD [])) (q5O k (o.getD [])) (q0q d S (q0w k (a.getD []))) (q0q d B (q0w k (b.getD []))) (q0q d W (q0w k (c.getD []))) d p:=by
 unfold qhK
 rw [q2Y,q2Y,q2Y]
theorem q9Q (hk:OkK (q0w k (a.getD [])) (q0w k (b.getD [])) (q0w k (c.getD []))):areK k a b c (tP d S (q0w k (a.getD []))) (tP d B (q0w k (b.getD []))) (tP d W (q0w k (c.getD [])))=true:=by
 refine q8g.2 ?_
 rw [q2Y,q2Y,q2Y]
 exact hk.true d S B W
theorem qjo (g:GoodK (q0w k (a.getD [])) (q0w k (b.getD [])) (q0w k (c.getD [])) (q5O k (o.getD []))) (hk:OkK (q0w k (a.getD [])) (q0w k (b.getD [])) (q0w k (c.getD []))) (hf:f≠0)
  (m:Most (q0w k (a.getD [])) (q0w k (b.getD [])) (q0w k (c.getD [])) (q5O k (o.getD [])) d f S B W) :
  cntT k a b c o (tP d S (q0w k (a.getD []))) (tP d B (q0w k (b.getD []))) (tP d W (q0w k (c.getD []))) d f=qeo k a b c o d f:=by
 unfold cntT qeo
 congr 1
 funext l
 refine List.filter_congr fun p _=>?_
 rw [q9m,Bool.eq_iff_iff,decide_eq_true_iff,decide_eq_true_iff]
 constructor
 ·intro h h0
  exact (qfh g (hk.true d S B W) f).2 h0 h
 ·intro h
  refine qig g hk m hf ?_
  unfold q4t at h
  by_cases hm:f∈q42 k a b c o d p
  ·exact hm
  ·rw [if_neg hm] at h;exact absurd rfl h
theorem qlI (g:GoodK (q0w k (a.getD [])) (q0w k (b.getD [])) (q0w k (c.getD [])) (q5O k (o.getD []))) (hk:OkK (q0w k (a.getD [])) (q0w k (b.getD [])) (q0w k (c.getD []))) (hf:f≠0)
  (m:Few (q0w k (a.getD [])) (q0w k (b.getD [])) (q0w k (c.getD [])) (q5O k (o.getD [])) d f S B W) :
  cntT k a b c o (tP d S (q0w k (a.getD []))) (tP d B (q0w k (b.getD []))) (tP d W (q0w k (c.getD []))) d f=q5T k a b c o d f:=by
 unfold cntT q5T
 congr 1
 funext l
 refine List.filter_congr fun p _=>?_
 rw [q9m,Bool.eq_iff_iff,decide_eq_true_iff,decide_eq_true_iff]
 constructor
 ·intro h
  have:=qkF g hk m hf h
  show q4t (q2n (q0w k (a.getD [])) (q0w k (b.getD [])) (q0w k (c.getD [])) (q5O k (o.getD [])) d p) f=1
  rw [this]
  simp [q4t]
 ·intro h
  exact (qfh g (hk.true d S B W) f).1 h
end
section
variable (n:Nat) (p f d k:Int) (a b c:Option (List E9)) (o:Option (List E5)) (ha:(a.getD []).length*72≤140737488351232) (hb:(b.getD []).length*72≤140737488351232) (hc:(c.getD []).length*72≤140737488351232) (ho:(o.getD []).length*40≤140737488351232)
include ha hb hc ho
theorem qlO (he:q1Q (q0H (a.getD []) (b.getD []) (c.getD []) (o.getD [])) false true 0 f [d,k]=0) (hf:1≤f):∃ X Y Z:D,FN (n+208) 66 [d9 a,d9 b,d9 c,d5 o,il f,il d,il k,bl true]=some (0,[.d X,.d Y,.d Z,.d (il 0)])∧FN (n+208) 48 [d9 a,d9 b,d9 c,d5 o,X,Y,Z,il f,il d,il k]=some (0,[.d (dI (qeo k a b c o d f)),.d (il 0)]):=by
 obtain ⟨S,B,W,h1,h2,h3⟩:=qjO (n+101) f d k true a b c o ha hb hc ho he
 have g:=(q4O (q1U he)).cnt k
 have hk:=qd3 (q1U he) k
 have m:=qkU (o:=q5O k (o.getD [])) (f:=f) g hk h1 h2
 refine ⟨_,_,_,h3,?_⟩
 have h48:=s48 (n+99) f d k a b c o (tP d (q1K S) (q0w k (a.getD []))) (tP d (q1K B) (q0w k (b.getD []))) (tP d (q1K W) (q0w k (c.getD []))) ha hb hc ho
 rw [if_pos he,if_pos (q9Q hk),qjo g hk (by omega) m] at h48
 exact h48
theorem at_few (he:q1Q (q0H (a.getD []) (b.getD []) (c.getD []) (o.getD [])) false true 0 f [d,k]=0) (hf:1≤f):∃ X Y Z:D,FN (n+208) 66 [d9 a,d9 b,d9 c,d5 o,il f,il d,il k,bl false]=some (0,[.d X,.d Y,.d Z,.d (il 0)])∧FN (n+208) 48 [d9 a,d9 b,d9 c,d5 o,X,Y,Z,il f,il d,il k]=some (0,[.d (dI (q5T k a b c o d f)),.d (il 0)]):=by
 obtain ⟨S,B,W,h1,h2,h3⟩:=qjO (n+101) f d k false a b c o ha hb hc ho he
 have g:=(q4O (q1U he)).cnt k
 have hk:=qd3 (q1U he) k
 have m:=few_of (o:=q5O k (o.getD [])) (f:=f) g hk h1 h2
 refine ⟨_,_,_,h3,?_⟩
 have h48:=s48 (n+99) f d k a b c o (tP d (q1K S) (q0w k (a.getD []))) (tP d (q1K B) (q0w k (b.getD []))) (tP d (q1K W) (q0w k (c.getD []))) ha hb hc ho
 rw [if_pos he,if_pos (q9Q hk),qlI g hk (by omega) m] at h48
 exact h48
theorem l10_0 (hok:q0H (a.getD []) (b.getD []) (c.getD []) (o.getD [])=true) (hd:0≤d∧d≤4166) (hk:0≤k∧k≤4166) (hp:1≤p∧p≤999) :
  q0o [q9T (RP (n+208))] M0 0 [.d (d9 a),.d (d9 b),.d (d9 c),.d (d5 o),.d (il p),.d (il f),.d (il d),.d (il k),.d (dI (some (q42 k a b c o d p))),.d (il 1)]=some (1,[]):=by
 refine q3g (σ:=Nat) [q9T (RP (n+208))] (fun m=>(0,[.d (d9 a),.d (d9 b),.d (d9 c),.d (d5 o),.d (il p),.d (il f),.d (il d),.d (il k),.d (dI (some (q42 k a b c o d p))),.d (il ((9 - m:Nat):Int))])) (fun m=>m) (fun m=>m≤8) (fun _=>some (1,[])) ?_ M0 8 (by omega) (by unfold M0;omega)
 intro m q hm ih
 refine ⟨_,rfl,?_⟩
 cases m with
 | zero=>simp [q9T]
 | succ m =>
  have g:=(q4O hok).cnt k
  have hkk:=qd3 hok k
  have ih':=ih m (by omega) (by omega)
  simp only at ih' ⊢
  have e9:((9 - m:Nat):Int)=((9 - (m+1):Nat):Int)+1:=by omega
  have hg:(1:Int)≤((9 - (m+1):Nat):Int)∧((9 - (m+1):Nat):Int)≤8:=by omega
  rw [e9] at ih'
  generalize ((9 - (m+1):Nat):Int)=z at ih' hg ⊢
  have he:q1Q (q0H (a.getD []) (b.getD []) (c.getD []) (o.getD [])) true true p z [d,k]=0:=by
   have:1≤z∧z≤99:=by omega
   simp [q1Q,hok,hp,hd,hk,this]
  have he2:q1Q (q0H (a.getD []) (b.getD []) (c.getD []) (o.getD [])) true false p 0 [d,k]=0:=by simp [q1Q,hok,hp,hd,hk]
  have l3:(q42 k a b c o d p).length≤100:=q6m (q4c ..) fun z hz=>q41 g.fam g.less hz
  have h41:=s41 (n+207) (some (q42 k a b c o d p)) z (by simp only [Option.getD_some];omega)
  simp only [Option.getD_some] at h41
  have hw:IntKind.i64.wrap (z+1)=z+1:=q0m (by omega) (by omega)
  by_cases hm:z∈q42 k a b c o d p
  ·have hfor:q4t (q42 k a b c o d p) z≠0:=by
    unfold q4t
    rw [if_pos hm]
    split<;>omega
   obtain ⟨S,B,W,hS,h67⟩:=s67_ok (n+1) a b c o d z p k ha hb hc ho he hfor
   have h50:=s50 (n+101) p d k a b c o (tP d (q1K S) (q0w k (a.getD []))) (tP d (q1K B) (q0w k (b.getD []))) (tP d (q1K W) (q0w k (c.getD []))) ha hb hc ho
   rw [if_pos he2,if_pos (q9Q hkk),q9m,qif g hkk hS] at h50
   rw [decide_eq_true hm] at h41
   rw [a10_y (d9 a) (d9 b) (d9 c) (d5 o) _ _ _ _ p f d k z h67 h41 h50 hg.2 hw q]
   exact ih'
  ·have hfor:q4t (q42 k a b c o d p) z=0:=by
    unfold q4t
    rw [if_neg hm]
   have h67:=qil (n+1) a b c o d z p k ha hb hc ho he hfor
   rw [decide_eq_false hm] at h41
   rw [a10_n (d9 a) (d9 b) (d9 c) (d5 o) _ _ _ _ p f d k z h67 h41 hg.2 hw q]
   exact ih'
theorem s10:G10 (RP (n+208)) (d9 a) (d9 b) (d9 c) (d5 o) (il p) (il f) (il d) (il k)=some (0,[.d (bl true)]):=by
 refine a10 (d9 a) (d9 b) (d9 c) (d5 o) (dI (q5T k a b c o d f)) (dI (qeo k a b c o d f)) p f d k (((q5T k a b c o d f).getD []).length:Int) (((qeo k a b c o d f).getD []).length:Int) (q0H (a.getD []) (b.getD []) (c.getD []) (o.getD [])) (s24 (n+203) a b c o) (s25 (n+206) d) (s25 (n+206) k) (s26 (n+206) f) (s65 (n+206) p) (s23 (n+97)) ?_
 intro hok hd hk hf hp
 have he:q1Q (q0H (a.getD []) (b.getD []) (c.getD []) (o.getD [])) false true 0 f [d,k]=0:=by simp [q1Q,hok,hd,hk,hf]
 have he2:q1Q (q0H (a.getD []) (b.getD []) (c.getD []) (o.getD [])) true false p 0 [d,k]=0:=by simp [q1Q,hok,hp,hd,hk]
 obtain ⟨X1,X2,X3,h1,h2⟩:=qlO n f d k a b c o ha hb hc ho he hf.1
 obtain ⟨Y1,Y2,Y3,h3,h4⟩:=at_few n f d k a b c o ha hb hc ho he hf.1
 have h32:=s32 (n+98) f d k a b c o ha hb hc ho
 have h34:=s34 (n+98) f d k a b c o ha hb hc ho
 have h29:=s29 (n+98) f d k a b c o ha hb hc ho
 have h16:=s16 (n+102) p d k a b c o ha hb hc ho
 rw [if_pos he] at h32 h34 h29
 rw [if_pos he2] at h16
 have m1:(q5T k a b c o d f).getD []=(q2s (q0w k (a.getD []))).filter fun p=>decide (q4t (q42 k a b c o d p) f=1):=qd6
 have m2:(qeo k a b c o d f).getD []=(q2s (q0w k (a.getD []))).filter fun p=>decide (q4t (q42 k a b c o d p) f≠0):=qd6
 have lp:=q3X (q0w k (a.getD []))
 have lc:=q2M k (a.getD [])
 have n1:=List.length_filter_le (fun p=>decide (q4t (q42 k a b c o d p) f=1)) (q2s (q0w k (a.getD [])))
 have n2:=List.length_filter_le (fun p=>decide (q4t (q42 k a b c o d p) f≠0)) (q2s (q0w k (a.getD [])))
 have q1:=s22 (n+207) (qeo k a b c o d f) (qeo k a b c o d f) (by rw [m2];omega)
 have q2:=s22 (n+207) (q5T k a b c o d f) (q5T k a b c o d f) (by rw [m1];omega)
 rw [decide_eq_true rfl] at q1 q2
 exact ⟨X1,X2,X3,Y1,Y2,Y3,_,_,_,h32,h34,h29,h1,h3,h2,h4,q1,q2,fun q=>q6o _ q,fun q=>q6o _ q,h16,l10_0 n p f d k a b c o ha hb hc ho hok hd hk hp⟩
end
end
section
open Go.Proofs.YtobeabinccohlaaGreat
set_option maxRecDepth 100000
theorem q88 (vds:List VD) (h:VTs Tryz.prog 8 [27,29] vds):SC Tryz.prog 10 vds (.one (.d (bl true))):=by
 obtain ⟨_,_,rfl,h1,h⟩:=qdE h
 obtain ⟨_,_,rfl,h2,h⟩:=qdE h
 cases qlT h
 obtain ⟨_,rfl,k1⟩:=h1.agg_ Tryz.underlying27
 obtain ⟨_,rfl,k2⟩:=h2.agg_ Tryz.underlying29
 obtain ⟨a,b,c,o,rfl,ha,hb,hc,ho⟩:=o27 k1
 obtain ⟨p,f,d,k,rfl⟩:=o29 k2
 refine lawSC (T:=tb) (fuel:=400) (m0:=M0) (xs:=[d9 a,d9 b,d9 c,d5 o,il p,il f,il d,il k]) mixP (FN_ok 208) (FN_okM 208) spOK (by decide) (sh:=[.agg 4,.agg 4]) rfl rfl rfl ?_
 rw [G10_eq]
 exact s10 0 p f d k a b c o ha hb hc ho
end
end Go.VE
namespace Go.Proofs.YtobeabinccohlaaGreat
open Go.VE Go.RowKit
set_option maxRecDepth 100000
theorem q5F (os:Os) (started:os.Started) (H:Type) (enc:TypeId×Value→H) :
  ReturnsInHanded {} Tryz.checked os 10 .any (Rows.familyAtOnceSpec.pre6 enc Tryz.prog Tryz.f10 Rows.familyAtOnceRow.domain false) (Rows.familyAtOnceSpec.post enc Tryz.prog Tryz.f10 false true false false) :=
 lawIn (C:=Tryz.checked) (n:=8) (tb:=4) own started (by kernel_rfl) Tryz.func10
  (ChangeSpec.witness6 (enc:=enc) (C:=Tryz.checked) false ⟨#[],#[.agg #[.slice none 0 0,.slice none 0 0,.slice none 0 0,.slice none 0 0],.agg #[.int .i64 0,.int .i64 0,.int .i64 0,.int .i64 0]],[]⟩ 8 (by kernel_rfl) (by kernel_rfl) (by kernel_rfl) (by kernel_rfl))
  ql5 (by kernel_rfl) (by kernel_rfl) Tryz.underlying4 rfl
  (fun ds hd=>by
   rw [show Tryz.f10.params.toList=[27,29] by kernel_rfl] at hd
   match ds,hd with
   | [a,b],_=>rfl)
  (fun vds h=>q88 vds h)
theorem q6N:Rows.familyAtOnceRow.holds Tryz.pinned (OpenSpec.ofChange Rows.familyAtOnceSpec) :=
 OpenClaim.holds_of_wide 10 Tryz.f10 rfl rfl rfl rfl rfl rfl rfl ⟨rfl,rfl,rfl,rfl,rfl⟩ rfl rfl rfl rfl rfl (by kernel_rfl) Tryz.func10 (by kernel_rfl)
  (of_decide_eq_true (by kernel_rfl)) (by unfold Func.isWrapper;first | (rw [if_pos (by decide +kernel)];kernel_rfl) | (rw [if_neg (by decide +kernel)];exact ⟨rfl,rfl⟩))
  (fun os started H enc _=>q5F os started H enc)
theorem familyAtOnce_holds:Rows.FamilyAtOnceSaid:=q6N
#print axioms familyAtOnce_holds
end Go.Proofs.YtobeabinccohlaaGreat
