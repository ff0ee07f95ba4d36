/- The statement FamilyTrue: whatever the kin, the true terms by numbers, the family and the days are, each person gleans for one family or for none, which is one of Families; where Gleans and For are Yes or No, it is so; who is in Sure gleans for the family, and who does is in May, and Heads has as many. -/
import Derived.Test.YtobeabinccohlaaGreatMg4
namespace Go.VE
open Go.RowKit Go.Proofs
theorem s185 (n:Nat) (t:T2) (e:E9):FN (n+2) 185 [il t.b,il t.e,il e.f1,il e.f2,il e.t1,il e.t2]=some (0,[.d (bl (inT t e))]):=by
 rw [F185]
 simp only [G185,q06,qi9,q00,q02,q01,q0K,q0d,inT]
 by_cases h:e.f1≤t.b∧t.b≤e.f2
 ·simp [h]
 ·have:¬ (e.f1≤t.b∧t.b≤e.f2∧e.t1≤t.e∧t.e≤e.t2):=fun h'=>h ⟨h'.1,h'.2.1⟩
  simp only [h,decide_false,Bool.false_eq_true,if_false,this]
theorem qbJ {α:Type} {l:List α} {i:Nat} (h:i < l.length):∃ t,l[i]?=some t∧l.drop i=t::l.drop (i+1):=⟨l[i],List.getElem?_eq_getElem h,List.drop_eq_getElem_cons h⟩
set_option maxRecDepth 10000 in
theorem l108_0 (n:Nat) (ts:Option (List T2)) (o:Option (List E9)) (hl:(o.getD []).length≤4611686018427387904) (he:(ts.getD []).length=(o.getD []).length) (x1 x2 x3 x5 x6:D) :
  q0l [L108_0 (RP (n+2))] M0 0 [.d (d9 o),.d x1,.d x2,.d x3,.d (dT ts),.d x5,.d x6,.d (d9 o),.d (il (o.getD []).length),.d (il 0)]=if inL (ts.getD []) (o.getD [])=true then some (1,[.d (d9 o),.d x1,.d x2,.d x3,.d (dT ts),.d x5,.d x6]) else some (0,[.d (bl false)]):=by
 have:=q0C (β:=Unit) (o.getD []) hl (L108_0 (RP (n+2))) (fun i _=>[.d (d9 o),.d x1,.d x2,.d x3,.d (dT ts),.d x5,.d x6,.d (d9 o),.d (il (o.getD []).length),.d (il (i:Nat))]) (fun _ _=>True)
  (fun i r _=>if inL ((ts.getD []).drop i) r=true then some (1,[.d (d9 o),.d x1,.d x2,.d x3,.d (dT ts),.d x5,.d x6]) else some (0,[.d (bl false)]))
  (fun _ q _=>by rw [←he,List.drop_length];simp [L108_0,inL,he]) ?_ M0 () trivial (q1X hl)
 ·simpa using this
 ·intro i e r _ q hi hd hlt hw _ ih
  have ih':=ih () trivial
  have hlt':(i:Int) < ((o.getD []).length:Int):=by omega
  obtain ⟨t,ht,hdt⟩:=qbJ (l:=ts.getD []) (i:=i) (by omega)
  rw [hdt,inL]
  simp only [L108_0,q02,q04,q0n,q01,hlt',decide_true,if_true,q37 hi,qgj ht,rT,r9,q07,q0g,q06,s185 n t e,q00,q0J,q0K,q0d,q03,q0i,hw]
  cases hq:inT t e with
  | false=>simp
  | true =>
   simp only [Bool.not_true,Bool.false_eq_true,if_false,Bool.true_and]
   exact ih'
set_option maxRecDepth 10000 in
theorem l108_1 (n:Nat) (ts:Option (List T2)) (o:Option (List E9)) (hl:(o.getD []).length≤4611686018427387904) (he:(ts.getD []).length=(o.getD []).length) (x0 x2 x3 x4 x6:D) :
  q0l [L108_1 (RP (n+2))] M0 0 [.d x0,.d (d9 o),.d x2,.d x3,.d x4,.d (dT ts),.d x6,.d (d9 o),.d (il (o.getD []).length),.d (il 0)]=if inL (ts.getD []) (o.getD [])=true then some (1,[.d x0,.d (d9 o),.d x2,.d x3,.d x4,.d (dT ts),.d x6]) else some (0,[.d (bl false)]):=by
 have:=q0C (β:=Unit) (o.getD []) hl (L108_1 (RP (n+2))) (fun i _=>[.d x0,.d (d9 o),.d x2,.d x3,.d x4,.d (dT ts),.d x6,.d (d9 o),.d (il (o.getD []).length),.d (il (i:Nat))]) (fun _ _=>True)
  (fun i r _=>if inL ((ts.getD []).drop i) r=true then some (1,[.d x0,.d (d9 o),.d x2,.d x3,.d x4,.d (dT ts),.d x6]) else some (0,[.d (bl false)]))
  (fun _ q _=>by rw [←he,List.drop_length];simp [L108_1,inL,he]) ?_ M0 () trivial (q1X hl)
 ·simpa using this
 ·intro i e r _ q hi hd hlt hw _ ih
  have ih':=ih () trivial
  have hlt':(i:Int) < ((o.getD []).length:Int):=by omega
  obtain ⟨t,ht,hdt⟩:=qbJ (l:=ts.getD []) (i:=i) (by omega)
  rw [hdt,inL]
  simp only [L108_1,q02,q04,q0n,q01,hlt',decide_true,if_true,q37 hi,qgj ht,rT,r9,q07,q0g,q06,s185 n t e,q00,q0J,q0K,q0d,q03,q0i,hw]
  cases hq:inT t e with
  | false=>simp
  | true =>
   simp only [Bool.not_true,Bool.false_eq_true,if_false,Bool.true_and]
   exact ih'
set_option maxRecDepth 10000 in
theorem l108_2 (n:Nat) (ts:Option (List T2)) (o:Option (List E9)) (hl:(o.getD []).length≤4611686018427387904) (he:(ts.getD []).length=(o.getD []).length) (x0 x1:D) :
  q0l [L108_2 (RP (n+2))] M0 0 [.d x0,.d x1,.d (dT ts),.d (d9 o),.d (il (o.getD []).length),.d (il 0)]=if inL (ts.getD []) (o.getD [])=true then some (1,[]) else some (0,[.d (bl false)]):=by
 have:=q0C (β:=Unit) (o.getD []) hl (L108_2 (RP (n+2))) (fun i _=>[.d x0,.d x1,.d (dT ts),.d (d9 o),.d (il (o.getD []).length),.d (il (i:Nat))]) (fun _ _=>True)
  (fun i r _=>if inL ((ts.getD []).drop i) r=true then some (1,[]) else some (0,[.d (bl false)]))
  (fun _ q _=>by rw [←he,List.drop_length];simp [L108_2,inL,he]) ?_ M0 () trivial (q1X hl)
 ·simpa using this
 ·intro i e r _ q hi hd hlt hw _ ih
  have ih':=ih () trivial
  have hlt':(i:Int) < ((o.getD []).length:Int):=by omega
  obtain ⟨t,ht,hdt⟩:=qbJ (l:=ts.getD []) (i:=i) (by omega)
  rw [hdt,inL]
  simp only [L108_2,q02,q04,q0n,q01,hlt',decide_true,if_true,q37 hi,qgj ht,rT,r9,q07,q0g,q06,s185 n t e,q00,q0J,q0K,q0d,q03,q0i,hw]
  cases hq:inT t e with
  | false=>simp
  | true =>
   simp only [Bool.not_true,Bool.false_eq_true,if_false,Bool.true_and]
   exact ih'
def areT (a b c:List E9) (ta tb tc:List T2):Bool:=inL ta a&&(inL tb b&&inL tc c)
theorem q6n {a b c:List E9} {ta tb tc:List T2}:areT a b c ta tb tc=true↔TrueT a b c ta tb tc:=by
 unfold areT
 simp only [Bool.and_eq_true]
 exact ⟨fun h=>⟨h.1,h.2.1,h.2.2⟩,fun h=>⟨h.a,h.b,h.c⟩⟩
theorem qfm {ts:List T2} {l:List E9} (h:¬ ts.length=l.length):inL ts l=false:=by
 cases hq:inL ts l with
 | false=>rfl
 | true=>exact absurd (q81 hq) h
theorem s108 (n:Nat) (a b c:Option (List E9)) (O:D) (ta tb tc:Option (List T2)) (ha:(a.getD []).length≤4611686018427387904) (hb:(b.getD []).length≤4611686018427387904) (hc:(c.getD []).length≤4611686018427387904) :
  FN (n+3) 108 [d9 a,d9 b,d9 c,O,dT ta,dT tb,dT tc]=some (0,[.d (bl (areT (a.getD []) (b.getD []) (c.getD []) (ta.getD []) (tb.getD []) (tc.getD [])))]):=by
 rw [F108]
 have nn:∀ {x y:Nat},¬ x=y→(x:Int)≠(y:Int):=fun h h'=>h (by omega)
 simp only [G108,lenT,q4R,q0y,q01,q0K,q0d,decide_eq_true_eq,areT]
 by_cases h1:(ta.getD []).length=(a.getD []).length
 ·rw [if_neg (by simp [h1])]
  by_cases h2:(tb.getD []).length=(b.getD []).length
  ·rw [if_neg (by simp [h2])]
   by_cases h3:(tc.getD []).length=(c.getD []).length
   ·rw [if_neg (by simp [h3])]
    simp only [q03,q0r,l108_0 n ta a ha h1]
    cases inL (ta.getD []) (a.getD []) with
    | false=>simp
    | true =>
     simp only [if_true,q3M,q02,q04,q4R,l108_1 n tb b hb h2]
     cases inL (tb.getD []) (b.getD []) with
     | false=>simp
     | true =>
      simp only [if_true,q3M,q02,q04,q4R,l108_2 n tc c hc h3]
      cases inL (tc.getD []) (c.getD [])<;>simp
   ·rw [if_pos (nn h3),qfm h3];simp
  ·rw [if_pos (nn h2),qfm h2];simp
 ·rw [if_pos (nn h1),qfm h1];simp
theorem q2s (b:(Nat→List Yr→Out)→List Yr→Out) (ys:List Yr) (r:Out) (h:∀ k,b k ys=r):q0l [b] M0 0 ys=r :=
 q1Y (σ:=Unit) [b] (fun _=>(0,ys)) (fun _=>0) (fun _=>True) (fun _=>r) (fun _ k _ _=>⟨b,rfl,h k⟩) M0 () trivial (by unfold M0;omega)
def qfB (ts:List T2) (l:List E9) (i:Nat):List E9:=q5N (ts.take i) (l.take i)++l.drop i
theorem qhv {ts:List T2} {l:List E9} (h:ts.length=l.length) (i:Nat):(qfB ts l i).length=l.length:=by
 unfold qfB
 rw [List.length_append,q3c (by simp [h])]
 simp;omega
theorem qjJ {ts:List T2} {l:List E9} (h:ts.length=l.length) {i:Nat} (hi:i < l.length):(qfB ts l i)[i]?=l[i]?:=by
 unfold qfB
 have:(q5N (ts.take i) (l.take i)).length=i:=by rw [q3c (by simp [h])];simp;omega
 rw [List.getElem?_append_right (by omega),this];simp
theorem qaR:∀ {ts:List T2} {l:List E9} (t:T2) (e:E9),ts.length=l.length→q5N (ts++[t]) (l++[e])=q5N ts l++[fixE t e]
 | [],[],_,_,_=>rfl
 | [],_::_,_,_,h=>by simp at h
 | _::_,[],_,_,h=>by simp at h
 | _::ts,_::l,t,e,h=>by simp only [List.cons_append,q5N,qaR (ts:=ts) (l:=l) t e (by simpa using h)]
theorem qfA {ts:List T2} {l:List E9} (h:ts.length=l.length) {i:Nat} {t:T2} {e:E9} (ht:ts[i]?=some t) (he:l[i]?=some e):(qfB ts l i).set i (fixE t e)=qfB ts l (i+1):=by
 have hi:i < l.length:=(List.getElem?_eq_some_iff.1 he).1
 have hl:(q5N (ts.take i) (l.take i)).length=i:=by rw [q3c (by simp [h])];simp;omega
 unfold qfB
 rw [List.take_add_one,List.take_add_one,ht,he]
 simp only [Option.toList_some]
 rw [qaR t e (by simp [h]),List.append_assoc,List.set_append_right _ _ (by omega),hl,Nat.sub_self]
 have hd:l.drop i=e::l.drop (i+1):=by
  rw [List.drop_eq_getElem_cons hi]
  have:=(List.getElem?_eq_some_iff.1 he).2
  rw [this]
 rw [hd];rfl
theorem q4y (ts:List T2) (l:List E9) (hn:ts.length=l.length) (hl:l.length≤1000000) (body:(Nat→List Yr→Out)→List Yr→Out) (st:Nat→Rr→List Yr) (ex:Rr→Out)
  (h0:∀ k rows,rows.length=l.length→body k (st ts.length rows)=ex rows)
  (h1:∀ (i:Nat) (t:T2) (e:E9) (rows:Rr) k,ts[i]?=some t→rows[i]?=some (r9 e)→rows.length=l.length→(i:Int) < (ts.length:Int)→i < l.length→IntKind.i64.wrap ((i:Int)+1)=((i+1:Nat):Int)→body k (st i rows)=k 0 (st (i+1) (rows.set i (r9 (fixE t e))))) :
  q0l [body] M0 0 (st 0 (l.map r9))=ex ((q5N ts l).map r9):=by
 have:=q1Y (σ:=Nat) [body] (fun i=>(0,st i ((qfB ts l i).map r9))) (fun i=>l.length - i) (fun i=>i≤l.length) (fun _=>ex ((q5N ts l).map r9)) ?_ M0 0 (Nat.zero_le _) (by unfold M0;omega)
 ·simpa [qfB,q5N] using this
 ·intro i k hi ih
  refine ⟨body,rfl,?_⟩
  simp only
  by_cases h:i < l.length
  ·have ih':=ih (i+1) (by omega) (by omega)
   obtain ⟨e,he⟩:∃ e,l[i]?=some e:=⟨_,List.getElem?_eq_getElem h⟩
   obtain ⟨t,ht⟩:∃ t,ts[i]?=some t:=⟨_,List.getElem?_eq_getElem (by omega)⟩
   rw [h1 i t e _ k ht (by rw [List.getElem?_map,qjJ hn h,he];rfl) (by rw [List.length_map,qhv hn]) (by omega) h (by rw [q0f (by omega) (by omega)];omega),← List.map_set,qfA hn ht he]
   exact ih'
  ·have e:i=l.length:=by omega
   have e2:qfB ts l i=q5N ts l:=by
    unfold qfB
    rw [e,List.drop_length,List.append_nil,List.take_length,List.take_of_length_le (by omega)]
   rw [e2]
   have e3:i=ts.length:=by omega
   rw [e3]
   exact h0 k _ (by rw [List.length_map,q3c hn])
theorem q5s {rows:Rr} {i:Nat} {e:E9} {w:List D} (h:rows[i]?=some (r9 e)):(rows.set i w)[i]?=some w:=by
 have:=(List.getElem?_eq_some_iff.1 h).1
 simp [this]
set_option maxRecDepth 10000 in
theorem l109_0 (n:Nat) (ts:Option (List T2)) (l:List E9) (hn:(ts.getD []).length=l.length) (hl:l.length≤1000000) (x1:D) (x2:D) (x6:Rr) (x7:Rr) (x11:Nat) (x12:Nat) (x13:Nat) (x14:Nat) (x15:D):q0l [L109_0 (RP n)] M0 0 [.d (dT ts),.d x1,.d x2,.d (dT ts),.d (il (ts.getD []).length),.d (il 0),.r x6,.r x7,.r (l.map r9),.n l.length,.n l.length,.n x11,.n x12,.n x13,.n x14,.d x15]=some (0,[.d (dT ts),.d x1,.d x2,.r x6,.r x7,.r ((q5N (ts.getD []) l).map r9),.n l.length,.n l.length,.n x11,.n x12,.n x13,.n x14,.d x15]):=by
 refine q4y (ts.getD []) l hn hl (L109_0 (RP n)) (fun i rows=>[.d (dT ts),.d x1,.d x2,.d (dT ts),.d (il (ts.getD []).length),.d (il (i:Nat)),.r x6,.r x7,.r rows,.n l.length,.n l.length,.n x11,.n x12,.n x13,.n x14,.d x15]) (fun rows=>some (0,[.d (dT ts),.d x1,.d x2,.r x6,.r x7,.r rows,.n l.length,.n l.length,.n x11,.n x12,.n x13,.n x14,.d x15])) ?_ ?_
 ·intro k rows hr;simp [L109_0]
 ·intro i t e rows k ht hr hrl hlt hil hw
  have h1:(0:Int)≤(i:Int)∧(i:Int) < (l.length:Int):=by omega
  have h2:=q5s (w:=[il e.src,il e.a,il e.b,il t.b,il t.b,il e.t1,il e.t2,il e.kn,il e.un]) hr
  simp only [L109_0,q02,q04,q0E,q0D,q0x,q0F,q0n,q01,hlt,decide_true,if_true,qgj ht,rT,q0A,q0B,hrl,q3L,h1,and_self,Int.toNat_natCast,q2l,hr,r9,List.length_cons,List.length_nil,q07,q0g,q32,List.length_set,h2,q03,q0i,hw,List.set_set]
  rfl
set_option maxRecDepth 10000 in
theorem l109_1 (n:Nat) (ts:Option (List T2)) (l:List E9) (hn:(ts.getD []).length=l.length) (hl:l.length≤1000000) (x1:D) (x2:D) (x6:Rr) (x10:Nat) (x11:Nat) (x12:D) (x13:D):q0l [L109_1 (RP n)] M0 0 [.d (dT ts),.d x1,.d x2,.d (dT ts),.d (il (ts.getD []).length),.d (il 0),.r x6,.r (l.map r9),.n l.length,.n l.length,.n x10,.n x11,.d x12,.d x13]=some (0,[.d (dT ts),.d x1,.d x2,.r x6,.r ((q5N (ts.getD []) l).map r9),.n l.length,.n l.length,.n x10,.n x11,.d x12,.d x13]):=by
 refine q4y (ts.getD []) l hn hl (L109_1 (RP n)) (fun i rows=>[.d (dT ts),.d x1,.d x2,.d (dT ts),.d (il (ts.getD []).length),.d (il (i:Nat)),.r x6,.r rows,.n l.length,.n l.length,.n x10,.n x11,.d x12,.d x13]) (fun rows=>some (0,[.d (dT ts),.d x1,.d x2,.r x6,.r rows,.n l.length,.n l.length,.n x10,.n x11,.d x12,.d x13])) ?_ ?_
 ·intro k rows hr;simp [L109_1]
 ·intro i t e rows k ht hr hrl hlt hil hw
  have h1:(0:Int)≤(i:Int)∧(i:Int) < (l.length:Int):=by omega
  have h2:=q5s (w:=[il e.src,il e.a,il e.b,il t.b,il t.b,il e.t1,il e.t2,il e.kn,il e.un]) hr
  simp only [L109_1,q02,q04,q0E,q0D,q0x,q0F,q0n,q01,hlt,decide_true,if_true,qgj ht,rT,q0A,q0B,hrl,q3L,h1,and_self,Int.toNat_natCast,q2l,hr,r9,List.length_cons,List.length_nil,q07,q0g,q32,List.length_set,h2,q03,q0i,hw,List.set_set]
  rfl
set_option maxRecDepth 10000 in
theorem l109_2 (n:Nat) (ts:Option (List T2)) (h:ts.getD []=[]) (x1:D) (x2:D) (x6:Rr) (x7:Rr) (x8:D) (x9:Nat) (x10:Nat) (x11:Nat) (x12:Nat) (x13:D):q0l [L109_2 (RP n)] M0 0 [.d (dT ts),.d x1,.d x2,.d (dT ts),.d (il (ts.getD []).length),.d (il 0),.r x6,.r x7,.d x8,.n x9,.n x10,.n x11,.n x12,.d x13]=some (0,[.d (dT ts),.d x1,.d x2,.r x6,.r x7,.d x8,.n x9,.n x10,.n x11,.n x12,.d x13]) :=
 q2s _ _ _ fun k=>by rw [h];simp [L109_2]
set_option maxRecDepth 10000 in
theorem l109_3 (n:Nat) (ts:Option (List T2)) (l:List E9) (hn:(ts.getD []).length=l.length) (hl:l.length≤1000000) (x1:D) (x2:D) (x6:Rr) (x10:D) (x11:Nat) (x12:Nat) (x13:D):q0l [L109_3 (RP n)] M0 0 [.d (dT ts),.d x1,.d x2,.d (dT ts),.d (il (ts.getD []).length),.d (il 0),.r x6,.r (l.map r9),.n l.length,.n l.length,.d x10,.n x11,.n x12,.d x13]=some (0,[.d (dT ts),.d x1,.d x2,.r x6,.r ((q5N (ts.getD []) l).map r9),.n l.length,.n l.length,.d x10,.n x11,.n x12,.d x13]):=by
 refine q4y (ts.getD []) l hn hl (L109_3 (RP n)) (fun i rows=>[.d (dT ts),.d x1,.d x2,.d (dT ts),.d (il (ts.getD []).length),.d (il (i:Nat)),.r x6,.r rows,.n l.length,.n l.length,.d x10,.n x11,.n x12,.d x13]) (fun rows=>some (0,[.d (dT ts),.d x1,.d x2,.r x6,.r rows,.n l.length,.n l.length,.d x10,.n x11,.n x12,.d x13])) ?_ ?_
 ·intro k rows hr;simp [L109_3]
 ·intro i t e rows k ht hr hrl hlt hil hw
  have h1:(0:Int)≤(i:Int)∧(i:Int) < (l.length:Int):=by omega
  have h2:=q5s (w:=[il e.src,il e.a,il e.b,il t.b,il t.b,il e.t1,il e.t2,il e.kn,il e.un]) hr
  simp only [L109_3,q02,q04,q0E,q0D,q0x,q0F,q0n,q01,hlt,decide_true,if_true,qgj ht,rT,q0A,q0B,hrl,q3L,h1,and_self,Int.toNat_natCast,q2l,hr,r9,List.length_cons,List.length_nil,q07,q0g,q32,List.length_set,h2,q03,q0i,hw,List.set_set]
  rfl
set_option maxRecDepth 10000 in
theorem l109_4 (n:Nat) (ts:Option (List T2)) (h:ts.getD []=[]) (x0:D) (x2:D) (x6:Rr) (x7:D) (x8:D) (x9:Nat) (x10:Nat) (x11:D):q0l [L109_4 (RP n)] M0 0 [.d x0,.d (dT ts),.d x2,.d (dT ts),.d (il (ts.getD []).length),.d (il 0),.r x6,.d x7,.d x8,.n x9,.n x10,.d x11]=some (0,[.d x0,.d (dT ts),.d x2,.r x6,.d x7,.d x8,.n x9,.n x10,.d x11]) :=
 q2s _ _ _ fun k=>by rw [h];simp [L109_4]
set_option maxRecDepth 10000 in
theorem l109_5 (n:Nat) (ts:Option (List T2)) (h:ts.getD []=[]) (x1:D) (x2:D) (x6:Rr) (x7:D) (x8:D) (x9:Nat) (x10:Nat) (x11:D):q0l [L109_5 (RP n)] M0 0 [.d (dT ts),.d x1,.d x2,.d (dT ts),.d (il (ts.getD []).length),.d (il 0),.r x6,.d x7,.d x8,.n x9,.n x10,.d x11]=some (0,[.d (dT ts),.d x1,.d x2,.r x6,.d x7,.d x8,.n x9,.n x10,.d x11]) :=
 q2s _ _ _ fun k=>by rw [h];simp [L109_5]
set_option maxRecDepth 10000 in
theorem l109_6 (n:Nat) (ts:Option (List T2)) (h:ts.getD []=[]) (x0:D) (x2:D) (x6:Rr) (x7:D) (x8:D) (x9:Nat) (x10:Nat) (x11:D):q0l [L109_6 (RP n)] M0 0 [.d x0,.d (dT ts),.d x2,.d (dT ts),.d (il (ts.getD []).length),.d (il 0),.r x6,.d x7,.d x8,.n x9,.n x10,.d x11]=some (0,[.d x0,.d (dT ts),.d x2,.r x6,.d x7,.d x8,.n x9,.n x10,.d x11]) :=
 q2s _ _ _ fun k=>by rw [h];simp [L109_6]
set_option maxRecDepth 10000 in
theorem l109_7 (n:Nat) (ts:Option (List T2)) (l:List E9) (hn:(ts.getD []).length=l.length) (hl:l.length≤1000000) (x1:D) (x2:D) (x9:D) (x10:D) (x11:D):q0l [L109_7 (RP n)] M0 0 [.d (dT ts),.d x1,.d x2,.d (dT ts),.d (il (ts.getD []).length),.d (il 0),.r (l.map r9),.n l.length,.n l.length,.d x9,.d x10,.d x11]=some (0,[.d (dT ts),.d x1,.d x2,.r ((q5N (ts.getD []) l).map r9),.n l.length,.n l.length,.d x9,.d x10,.d x11]):=by
 refine q4y (ts.getD []) l hn hl (L109_7 (RP n)) (fun i rows=>[.d (dT ts),.d x1,.d x2,.d (dT ts),.d (il (ts.getD []).length),.d (il (i:Nat)),.r rows,.n l.length,.n l.length,.d x9,.d x10,.d x11]) (fun rows=>some (0,[.d (dT ts),.d x1,.d x2,.r rows,.n l.length,.n l.length,.d x9,.d x10,.d x11])) ?_ ?_
 ·intro k rows hr;simp [L109_7]
 ·intro i t e rows k ht hr hrl hlt hil hw
  have h1:(0:Int)≤(i:Int)∧(i:Int) < (l.length:Int):=by omega
  have h2:=q5s (w:=[il e.src,il e.a,il e.b,il t.b,il t.b,il e.t1,il e.t2,il e.kn,il e.un]) hr
  simp only [L109_7,q02,q04,q0E,q0D,q0x,q0F,q0n,q01,hlt,decide_true,if_true,qgj ht,rT,q0A,q0B,hrl,q3L,h1,and_self,Int.toNat_natCast,q2l,hr,r9,List.length_cons,List.length_nil,q07,q0g,q32,List.length_set,h2,q03,q0i,hw,List.set_set]
  rfl
set_option maxRecDepth 10000 in
theorem l109_8 (n:Nat) (ts:Option (List T2)) (h:ts.getD []=[]) (x0:D) (x2:D) (x6:D) (x7:D) (x8:D) (x9:D):q0l [L109_8 (RP n)] M0 0 [.d x0,.d (dT ts),.d x2,.d (dT ts),.d (il (ts.getD []).length),.d (il 0),.d x6,.d x7,.d x8,.d x9]=some (0,[.d x0,.d (dT ts),.d x2,.d x6,.d x7,.d x8,.d x9]) :=
 q2s _ _ _ fun k=>by rw [h];simp [L109_8]
set_option maxRecDepth 10000 in
theorem l109_9 (n:Nat) (ts:Option (List T2)) (h:ts.getD []=[]) (x3:D) (x4:D) (x5:D) (x6:D):q0l [L109_9 (RP n)] M0 0 [.d (dT ts),.d (il (ts.getD []).length),.d (il 0),.d x3,.d x4,.d x5,.d x6]=some (0,[.d x3,.d x4,.d x5,.d x6]) :=
 q2s _ _ _ fun k=>by rw [h];simp [L109_9]
set_option maxRecDepth 10000 in
theorem qjv (n:Nat) (ts:Option (List T2)) (h:ts.getD []=[]) (x1:D) (x2:D) (x6:Rr) (x7:D) (x8:Nat) (x9:Nat) (x10:D) (x11:D):q0l [L109_10 (RP n)] M0 0 [.d (dT ts),.d x1,.d x2,.d (dT ts),.d (il (ts.getD []).length),.d (il 0),.r x6,.d x7,.n x8,.n x9,.d x10,.d x11]=some (0,[.d (dT ts),.d x1,.d x2,.r x6,.d x7,.n x8,.n x9,.d x10,.d x11]) :=
 q2s _ _ _ fun k=>by rw [h];simp [L109_10]
set_option maxRecDepth 10000 in
theorem qju (n:Nat) (ts:Option (List T2)) (h:ts.getD []=[]) (x1:D) (x2:D) (x6:D) (x7:D) (x8:D) (x9:D):q0l [L109_11 (RP n)] M0 0 [.d (dT ts),.d x1,.d x2,.d (dT ts),.d (il (ts.getD []).length),.d (il 0),.d x6,.d x7,.d x8,.d x9]=some (0,[.d (dT ts),.d x1,.d x2,.d x6,.d x7,.d x8,.d x9]) :=
 q2s _ _ _ fun k=>by rw [h];simp [L109_11]
set_option maxRecDepth 10000 in
theorem qjt (n:Nat) (ts:Option (List T2)) (h:ts.getD []=[]) (x0:D) (x2:D) (x6:D) (x7:D) (x8:D) (x9:D):q0l [L109_12 (RP n)] M0 0 [.d x0,.d (dT ts),.d x2,.d (dT ts),.d (il (ts.getD []).length),.d (il 0),.d x6,.d x7,.d x8,.d x9]=some (0,[.d x0,.d (dT ts),.d x2,.d x6,.d x7,.d x8,.d x9]) :=
 q2s _ _ _ fun k=>by rw [h];simp [L109_12]
set_option maxRecDepth 10000 in
theorem qjs (n:Nat) (ts:Option (List T2)) (h:ts.getD []=[]) (x3:D) (x4:D) (x5:D) (x6:D):q0l [L109_13 (RP n)] M0 0 [.d (dT ts),.d (il (ts.getD []).length),.d (il 0),.d x3,.d x4,.d x5,.d x6]=some (0,[.d x3,.d x4,.d x5,.d x6]) :=
 q2s _ _ _ fun k=>by rw [h];simp [L109_13]
set_option maxRecDepth 10000 in
theorem qjr (n:Nat) (ts:Option (List T2)) (l:List E9) (hn:(ts.getD []).length=l.length) (hl:l.length≤1000000) (x4:D) (x5:D) (x8:D):q0l [L109_14 (RP n)] M0 0 [.d (dT ts),.d (il (ts.getD []).length),.d (il 0),.r (l.map r9),.d x4,.d x5,.n l.length,.n l.length,.d x8]=some (0,[.r ((q5N (ts.getD []) l).map r9),.d x4,.d x5,.n l.length,.n l.length,.d x8]):=by
 refine q4y (ts.getD []) l hn hl (L109_14 (RP n)) (fun i rows=>[.d (dT ts),.d (il (ts.getD []).length),.d (il (i:Nat)),.r rows,.d x4,.d x5,.n l.length,.n l.length,.d x8]) (fun rows=>some (0,[.r rows,.d x4,.d x5,.n l.length,.n l.length,.d x8])) ?_ ?_
 ·intro k rows hr;simp [L109_14]
 ·intro i t e rows k ht hr hrl hlt hil hw
  have h1:(0:Int)≤(i:Int)∧(i:Int) < (l.length:Int):=by omega
  have h2:=q5s (w:=[il e.src,il e.a,il e.b,il t.b,il t.b,il e.t1,il e.t2,il e.kn,il e.un]) hr
  simp only [L109_14,q02,q04,q0E,q0D,q0x,q0F,q0n,q01,hlt,decide_true,if_true,qgj ht,rT,q0A,q0B,hrl,q3L,h1,and_self,Int.toNat_natCast,q2l,hr,r9,List.length_cons,List.length_nil,q07,q0g,q32,List.length_set,h2,q03,q0i,hw,List.set_set]
  rfl
set_option maxRecDepth 10000 in
theorem qjq (n:Nat) (ts:Option (List T2)) (l:List E9) (hn:(ts.getD []).length=l.length) (hl:l.length≤1000000) (x0:D) (x2:D) (x7:D) (x10:D) (x11:D):q0l [L109_15 (RP n)] M0 0 [.d x0,.d (dT ts),.d x2,.d (dT ts),.d (il (ts.getD []).length),.d (il 0),.r (l.map r9),.d x7,.n l.length,.n l.length,.d x10,.d x11]=some (0,[.d x0,.d (dT ts),.d x2,.r ((q5N (ts.getD []) l).map r9),.d x7,.n l.length,.n l.length,.d x10,.d x11]):=by
 refine q4y (ts.getD []) l hn hl (L109_15 (RP n)) (fun i rows=>[.d x0,.d (dT ts),.d x2,.d (dT ts),.d (il (ts.getD []).length),.d (il (i:Nat)),.r rows,.d x7,.n l.length,.n l.length,.d x10,.d x11]) (fun rows=>some (0,[.d x0,.d (dT ts),.d x2,.r rows,.d x7,.n l.length,.n l.length,.d x10,.d x11])) ?_ ?_
 ·intro k rows hr;simp [L109_15]
 ·intro i t e rows k ht hr hrl hlt hil hw
  have h1:(0:Int)≤(i:Int)∧(i:Int) < (l.length:Int):=by omega
  have h2:=q5s (w:=[il e.src,il e.a,il e.b,il t.b,il t.b,il e.t1,il e.t2,il e.kn,il e.un]) hr
  simp only [L109_15,q02,q04,q0E,q0D,q0x,q0F,q0n,q01,hlt,decide_true,if_true,qgj ht,rT,q0A,q0B,hrl,q3L,h1,and_self,Int.toNat_natCast,q2l,hr,r9,List.length_cons,List.length_nil,q07,q0g,q32,List.length_set,h2,q03,q0i,hw,List.set_set]
  rfl
set_option maxRecDepth 10000 in
theorem qjp (n:Nat) (ts:Option (List T2)) (h:ts.getD []=[]) (x3:D) (x4:D) (x5:D) (x6:D):q0l [L109_16 (RP n)] M0 0 [.d (dT ts),.d (il (ts.getD []).length),.d (il 0),.d x3,.d x4,.d x5,.d x6]=some (0,[.d x3,.d x4,.d x5,.d x6]) :=
 q2s _ _ _ fun k=>by rw [h];simp [L109_16]
set_option maxRecDepth 10000 in
theorem qjo (n:Nat) (ts:Option (List T2)) (l:List E9) (hn:(ts.getD []).length=l.length) (hl:l.length≤1000000) (x0:D) (x2:D) (x6:Rr) (x8:D) (x11:Nat) (x12:Nat) (x13:D):q0l [L109_17 (RP n)] M0 0 [.d x0,.d (dT ts),.d x2,.d (dT ts),.d (il (ts.getD []).length),.d (il 0),.r x6,.r (l.map r9),.d x8,.n l.length,.n l.length,.n x11,.n x12,.d x13]=some (0,[.d x0,.d (dT ts),.d x2,.r x6,.r ((q5N (ts.getD []) l).map r9),.d x8,.n l.length,.n l.length,.n x11,.n x12,.d x13]):=by
 refine q4y (ts.getD []) l hn hl (L109_17 (RP n)) (fun i rows=>[.d x0,.d (dT ts),.d x2,.d (dT ts),.d (il (ts.getD []).length),.d (il (i:Nat)),.r x6,.r rows,.d x8,.n l.length,.n l.length,.n x11,.n x12,.d x13]) (fun rows=>some (0,[.d x0,.d (dT ts),.d x2,.r x6,.r rows,.d x8,.n l.length,.n l.length,.n x11,.n x12,.d x13])) ?_ ?_
 ·intro k rows hr;simp [L109_17]
 ·intro i t e rows k ht hr hrl hlt hil hw
  have h1:(0:Int)≤(i:Int)∧(i:Int) < (l.length:Int):=by omega
  have h2:=q5s (w:=[il e.src,il e.a,il e.b,il t.b,il t.b,il e.t1,il e.t2,il e.kn,il e.un]) hr
  simp only [L109_17,q02,q04,q0E,q0D,q0x,q0F,q0n,q01,hlt,decide_true,if_true,qgj ht,rT,q0A,q0B,hrl,q3L,h1,and_self,Int.toNat_natCast,q2l,hr,r9,List.length_cons,List.length_nil,q07,q0g,q32,List.length_set,h2,q03,q0i,hw,List.set_set]
  rfl
end Go.VE
namespace Go.VE
open Go.RowKit Go.Proofs
theorem qjW (l:List E9) (n:Nat) (h:n=l.length):(.sl 9 ((l.map r9).take n):D)=d9 (some l):=by rw [h,q4I];rfl
theorem qjX (l:List E5):(.sl 5 ((l.map r5).take l.length):D)=d5 (some l):=by rw [List.take_of_length_le (by simp)];rfl
def q89 (ts:Option (List T2)) (o:Option (List E9)):Option (List E9):=o.map (q5N (ts.getD []))
theorem q4g (ts:Option (List T2)) (o:Option (List E9)):(q89 ts o).getD []=q5N (ts.getD []) (o.getD []):=by
 cases o with
 | none=>simp [q89];cases ts.getD []<;>rfl
 | some l=>rfl
set_option maxRecDepth 20000 in
set_option maxHeartbeats 4000000 in
theorem s109 (n:Nat) (a b c:Option (List E9)) (o:Option (List E5)) (ta tb tc:Option (List T2)) (ha:(a.getD []).length≤60) (hb:(b.getD []).length≤60) (hc:(c.getD []).length≤60) (ho:(o.getD []).length≤60)
  (h1:(ta.getD []).length=(a.getD []).length) (h2:(tb.getD []).length=(b.getD []).length) (h3:(tc.getD []).length=(c.getD []).length) :
  FN (n+3) 109 [d9 a,d9 b,d9 c,d5 o,dT ta,dT tb,dT tc]=some (0,[.d (q0U (q89 ta a) (q89 tb b) (q89 tc c) o)]):=by
 rw [F109]
 unfold G109
 rw [q06,s96 n a b c o (by omega) (by omega) (by omega) (by omega)]
 cases a<;>cases b<;>cases c<;>cases o<;>simp only [Option.getD_none,Option.getD_some,List.length_nil,List.length_eq_zero_iff] at ha hb hc ho h1 h2 h3
 all_goals
  try have g1:=(q3c h1).symm
  try have g2:=(q3c h2).symm
  try have g3:=(q3c h3).symm
  try have k1:=Nat.le_trans ha (show 60≤1000000 by omega)
  try have k2:=Nat.le_trans hb (show 60≤1000000 by omega)
  try have k3:=Nat.le_trans hc (show 60≤1000000 by omega)
  simp only [Option.isSome_none,Option.isSome_some,ix96,lv9,lv5]
  refine q9d _ (by simp only [↓q00,↓q1E,q02,q04,q0x,q0F,q0A,q0B,if_true,q1e,q0q,qjX,List.length_map,q0d];exact rfl) ?_
  simp only [↓q00,↓q1E,lenT,q02,q04,q0r,q03]
  simp (disch:=assumption) only [↓q00,q02,q04,q0E,q0D,q0x,q0F,q0A,q0B,if_true,q1e,q0q,List.length_map,lenT,q0r,q03,C109_0,C109_1,C109_2,l109_0,l109_1,l109_2,l109_3,l109_4,l109_5,l109_6,l109_7,l109_8,l109_9,qjv,qju,qjt,qjs,qjr,qjq,qjp,qjo,qjW,q3c,q0d,q5u]
  rfl
end Go.VE
namespace Go.VE
open Go.RowKit Go.Proofs
section
variable {a b c:Option (List E9)} {o:Option (List E5)}
theorem s113 (n:Nat) (d p:Int) (hd:0≤d∧d≤4166) (g:GoodK (a.getD []) (b.getD []) (c.getD []) (o.getD [])) :
  FN (n+106) 113 [d9 a,d9 b,d9 c,d5 o,il p,il d]=some (0,[.d (il (qdZ (a.getD []) (b.getD []) (c.getD []) (o.getD []) d p))]):=by
 rw [F113]
 obtain ⟨z,hz⟩:=q78 (c:=c.getD []) (o:=o.getD []) (d:=d) (p:=p) g.fam g.less
 simp only [G113,q06,k82 n d p hd g,q00,q02,qdZ]
 cases hl:q1j (a.getD []) (b.getD []) (c.getD []) (o.getD []) d p with
 | nil=>rw [hl] at hz;simp at hz
 | cons x r =>
  have hrow:∀ q:List D→Out,(RP (n+105)).rowD 1 (dI (some (x::r))) (il 0) q=q (rI x):=fun q=>q2R (i:=0) rfl q
  simp only [q03,hrow,rI,q07,q0d,List.headD_cons]
theorem s112 (n:Nat) (d f p:Int) (hd:0≤d∧d≤4166) (g:GoodK (a.getD []) (b.getD []) (c.getD []) (o.getD [])) :
  FN (n+107) 112 [il p,q0U a b c o,il d,il f]=some (0,[.d (bl (!decide (qdZ (a.getD []) (b.getD []) (c.getD []) (o.getD []) d p=f)))]):=by
 rw [F112]
 have hp:∀ k:List D→Out,(RP (n+106)).ptrW 4 (q0U a b c o) k=k [d9 a,d9 b,d9 c,d5 o]:=fun k=>q1O _ 4 k rfl
 simp only [G112,hp,q07,q0g,q06,s113 n d p hd g,q00,q02,q0y,q0d]
 simp
theorem d112 (n:Nat) (d f p:Int) (hd:0≤d∧d≤4166) (g:GoodK (a.getD []) (b.getD []) (c.getD []) (o.getD [])) :
  FD (n+107) (.fn 112 [.dp [q0U a b c o] 0,.dp [il d] 0,.dp [il f] 0]) [.one] (rI p)=some (0,[.d (bl (!decide (qdZ (a.getD []) (b.getD []) (c.getD []) (o.getD []) d p=f)))]) :=
 q4A [.one,.ptr 1,.ptr 1,.ptr 1] [.one (il p)] (by decide) rfl (by kernel_rfl) rfl (by kernel_rfl) (s112 n d f p hd g)
set_option maxRecDepth 20000 in
theorem l48 (n:Nat) (d f:Int) (hd:0≤d∧d≤4166) (g:GoodK (a.getD []) (b.getD []) (c.getD []) (o.getD []))
  (l:List Int) (hl:l.length≤4611686018427387904) (i0:Nat) (h0:i0 < l.length) (h1:(l.take (i0+1)).filter (fun p=>!(!decide (qdZ (a.getD []) (b.getD []) (c.getD []) (o.getD []) d p=f)))=l.take i0) :
  ∃ (i:Nat) (ks:List Int),q0l [L48_0 (RP (n+108))] M0 0 [.n l.length,.n l.length,.d (il d),.d (il f),.d (il i0),.d (il ((i0+1:Nat):Int)),.d (q0U a b c o),.r (l.map rI)]=some (0,[.n l.length,.n l.length,.d (il (i:Int)),.d (q0U a b c o),.r (ks.map rI)])∧i < l.length∧ks.length=l.length∧ks.take i=l.filter (fun p=>!(!decide (qdZ (a.getD []) (b.getD []) (c.getD []) (o.getD []) d p=f))):=by
 refine q6i l hl (fun p=>!decide (qdZ (a.getD []) (b.getD []) (c.getD []) (o.getD []) d p=f)) (L48_0 (RP (n+108))) (fun i j ks=>[.n l.length,.n l.length,.d (il d),.d (il f),.d (il (i:Nat)),.d (il (j:Nat)),.d (q0U a b c o),.r (ks.map rI)])
  (fun i ks=>some (0,[.n l.length,.n l.length,.d (il ((i:Nat):Int)),.d (q0U a b c o),.r (ks.map rI)])) ?_ ?_ i0 h0 h1
 ·intro i ks k hk
  simp [L48_0]
 ·intro i j ks e e2 k _ hj hi hij hjl hil hks hwj hwi
  have hkr:(ks.map rI)[j]?=some (rI e):=by rw [List.getElem?_map,hj];rfl
  have hkr2:(ks.map rI)[i]?=some (rI e2):=by rw [List.getElem?_map,hi];rfl
  simp only [L48_0,q02,q04,q0E,q0D,q0x,q0F,q5h,q0n,q01,hjl,decide_true,if_true,q0A,List.length_map,q0B,hks]
  rw [q8A _ _ _ ⟨by omega,hjl⟩,Int.toNat_natCast,q3p 1 _ _ _ _ hkr rfl]
  simp only [rI,q07,q06,s112 (n+1) d f e hd g,q00,q02,q29,List.all_cons,List.all_nil,qiP,Bool.and_true,if_true,q0J,q01,q03,q0i,hwj,hwi]
  cases hqv:decide (qdZ (a.getD []) (b.getD []) (c.getD []) (o.getD []) d e=f) with
  | true =>
   simp only [Bool.not_true,Bool.not_false,if_true,Bool.false_eq_true,if_false]
   rw [q8A _ _ _ ⟨by omega,hil⟩,Int.toNat_natCast,q3p 1 _ _ _ _ hkr2 rfl]
   simp only [q32,List.map_set,rI]
  | false =>
   simp only [Bool.not_true,Bool.not_false,if_true,Bool.false_eq_true,if_false]
end
theorem qcP {k:Int} {a b c:Option (List E9)} {o:Option (List E5)} {ta tb tc:Option (List T2)} (g:GoodK (q0p k (a.getD [])) (q0p k (b.getD [])) (q0p k (c.getD [])) (q2Q k (o.getD []))) (t:TrueT (q0p k (a.getD [])) (q0p k (b.getD [])) (q0p k (c.getD [])) (ta.getD []) (tb.getD []) (tc.getD [])) :
  GoodK ((q89 ta (kn9 k a)).getD []) ((q89 tb (kn9 k b)).getD []) ((q89 tc (kn9 k c)).getD []) ((kn5 k o).getD []):=by
 rw [q4g,q4g,q4g,q0m,q0m,q0m,q2w]
 exact g.nar (q5C t.a) (q5C t.b) (q5C t.c)
def q7r (k:Int) (a b c:Option (List E9)) (o:Option (List E5)) (ta tb tc:Option (List T2)) (d p:Int):Int:=qgE (q0p k (a.getD [])) (q0p k (b.getD [])) (q0p k (c.getD [])) (q2Q k (o.getD [])) (ta.getD []) (tb.getD []) (tc.getD []) d p
theorem qbe (k:Int) (a b c:Option (List E9)) (o:Option (List E5)) (ta tb tc:Option (List T2)) (d p:Int):qdZ ((q89 ta (kn9 k a)).getD []) ((q89 tb (kn9 k b)).getD []) ((q89 tc (kn9 k c)).getD []) ((kn5 k o).getD []) d p=q7r k a b c o ta tb tc d p:=by
 rw [q4g,q4g,q4g,q0m,q0m,q0m,q2w];rfl
def qhP (k:Int) (a b c:Option (List E9)) (ta tb tc:Option (List T2)):Bool:=areT (q0p k (a.getD [])) (q0p k (b.getD [])) (q0p k (c.getD [])) (ta.getD []) (tb.getD []) (tc.getD [])
def qbN (k:Int) (a b c:Option (List E9)) (o:Option (List E5)) (ta tb tc:Option (List T2)) (d f:Int):Option (List Int):=(nzO (q0H (q0p k (a.getD [])))).map (List.filter fun p=>decide (q7r k a b c o ta tb tc d p=f))
section
variable (n:Nat) (p f d k:Int) (a b c:Option (List E9)) (o:Option (List E5)) (ta tb tc:Option (List T2)) (ha:(a.getD []).length*72≤140737488351232) (hb:(b.getD []).length*72≤140737488351232) (hc:(c.getD []).length*72≤140737488351232) (ho:(o.getD []).length*40≤140737488351232)
include ha hb hc ho
omit ho in
theorem w108:FN (n+3) 108 [d9 (kn9 k a),d9 (kn9 k b),d9 (kn9 k c),d5 (kn5 k o),dT ta,dT tb,dT tc]=some (0,[.d (bl (qhP k a b c ta tb tc))]):=by
 have la:=q24 k (a.getD []);have lb:=q24 k (b.getD []);have lc:=q24 k (c.getD [])
 rw [s108 n (kn9 k a) (kn9 k b) (kn9 k c) (d5 (kn5 k o)) ta tb tc (by rw [q0m];omega) (by rw [q0m];omega) (by rw [q0m];omega),q0m,q0m,q0m]
 rfl
omit ha hb hc ho in
theorem w109 (_:GoodK (q0p k (a.getD [])) (q0p k (b.getD [])) (q0p k (c.getD [])) (q2Q k (o.getD []))) (hg:(q0p k (a.getD [])).length≤60∧(q0p k (b.getD [])).length≤60∧(q0p k (c.getD [])).length≤60∧(q2Q k (o.getD [])).length≤60) (t:TrueT (q0p k (a.getD [])) (q0p k (b.getD [])) (q0p k (c.getD [])) (ta.getD []) (tb.getD []) (tc.getD [])) :
  FN (n+3) 109 [d9 (kn9 k a),d9 (kn9 k b),d9 (kn9 k c),d5 (kn5 k o),dT ta,dT tb,dT tc]=some (0,[.d (q0U (q89 ta (kn9 k a)) (q89 tb (kn9 k b)) (q89 tc (kn9 k c)) (kn5 k o))]) :=
 s109 n (kn9 k a) (kn9 k b) (kn9 k c) (kn5 k o) ta tb tc (by rw [q0m];exact hg.1) (by rw [q0m];exact hg.2.1) (by rw [q0m];exact hg.2.2.1) (by rw [q2w];exact hg.2.2.2) (by rw [q0m];exact q81 t.a) (by rw [q0m];exact q81 t.b) (by rw [q0m];exact q81 t.c)
omit ha hb hc ho in
theorem qhd {a b c:Option (List E9)} {o:Option (List E5)} (k:Int) (h:q0k (a.getD []) (b.getD []) (c.getD []) (o.getD [])=true):(q0p k (a.getD [])).length≤60∧(q0p k (b.getD [])).length≤60∧(q0p k (c.getD [])).length≤60∧(q2Q k (o.getD [])).length≤60:=by
 have h0:=q0Y h
 have la:=q24 k (a.getD []);have lb:=q24 k (b.getD []);have lc:=q24 k (c.getD [])
 have lo:(q2Q k (o.getD [])).length≤(o.getD []).length:=List.length_filter_le _ _
 omega
set_option maxRecDepth 20000 in
theorem s47:FN (n+12) 47 [d9 a,d9 b,d9 c,d5 o,il k,dT ta,dT tb,dT tc]=some (0,[.d (il (if q0R (q0k (a.getD []) (b.getD []) (c.getD []) (o.getD [])) false false 0 0 [k]=0 then (if qhP k a b c ta tb tc=true then 0 else 37) else q0R (q0k (a.getD []) (b.getD []) (c.getD []) (o.getD [])) false false 0 0 [k]))]):=by
 rw [F47]
 have h73:=s73 (n+1) 0 0 false false a b c o [] k (by simp) ha hb hc ho
 rw [show dI (some ([]++[k]))=.sl 1 [[il k]] from rfl,List.nil_append] at h73
 have hp:∀ q:List D→Out,(RP (n+11)).ptrW 4 (q0U (kn9 k a) (kn9 k b) (kn9 k c) (kn5 k o)) q=q [d9 (kn9 k a),d9 (kn9 k b),d9 (kn9 k c),d5 (kn5 k o)]:=fun q=>q1O _ 4 q rfl
 simp only [G47,q06,q03,q0K,q0u,q1e,h73]
 by_cases he:q0R (q0k (a.getD []) (b.getD []) (c.getD []) (o.getD [])) false false 0 0 [k]=0
 ·simp only [q4C,he,if_true,q00,q02,q04,q0y,ne_eq,not_true_eq_false,decide_false,q01,Bool.false_eq_true,if_false,hp,q07,q0g,w108 (n+8) k a b c o ta tb tc ha hb hc,q0J,q0d]
  cases qhP k a b c ta tb tc<;>simp
 ·simp only [q4C,if_neg he,q00,q02,q04,q0y,q01,q0d]
  rw [if_pos (by simpa using he)]
set_option maxRecDepth 20000 in
theorem s50:FN (n+107) 50 [d9 a,d9 b,d9 c,d5 o,dT ta,dT tb,dT tc,il p,il d,il k]=if q0R (q0k (a.getD []) (b.getD []) (c.getD []) (o.getD [])) true false p 0 [d,k]=0 then (if qhP k a b c ta tb tc=true then some (0,[.d (il (q7r k a b c o ta tb tc d p)),.d (il 0)]) else some (0,[.d (il 0),.d (il 37)])) else some (0,[.d (il 0),.d (il (q0R (q0k (a.getD []) (b.getD []) (c.getD []) (o.getD [])) true false p 0 [d,k]))]):=by
 rw [F50]
 have hp:∀ q:List D→Out,(RP (n+106)).ptrW 4 (q0U (kn9 k a) (kn9 k b) (kn9 k c) (kn5 k o)) q=q [d9 (kn9 k a),d9 (kn9 k b),d9 (kn9 k c),d5 (kn5 k o)]:=fun q=>q1O _ 4 q rfl
 have hp2:∀ q:List D→Out,(RP (n+106)).ptrW 4 (q0U (q89 ta (kn9 k a)) (q89 tb (kn9 k b)) (q89 tc (kn9 k c)) (kn5 k o)) q=q [d9 (q89 ta (kn9 k a)),d9 (q89 tb (kn9 k b)),d9 (q89 tc (kn9 k c)),d5 (kn5 k o)]:=fun q=>q1O _ 4 q rfl
 simp only [G50,q06,s72,q00,q02,q04,q0u,q1e,q9Y (n+96) p 0 d k a b c o ha hb hc ho true false]
 by_cases he:q0R (q0k (a.getD []) (b.getD []) (c.getD []) (o.getD [])) true false p 0 [d,k]=0
 ·rw [if_pos he]
  simp only [q4C,he,if_true,q00,q02,q04,q03,q0y,ne_eq,not_true_eq_false,decide_false,q01,Bool.false_eq_true,if_false,hp,q07,q0g,w108 (n+103) k a b c o ta tb tc ha hb hc,q0J,q0d]
  cases ht:qhP k a b c ta tb tc with
  | false=>simp
  | true =>
   have t:=q6n.1 ht
   have g:=(q1f (q15 he)).cnt k
   simp only [Bool.not_true,Bool.false_eq_true,if_false,if_true,w109 (n+103) k a b c o ta tb tc g (qhd k (q15 he)) t,q00,q02,hp2,q07,q0g,s113 n d p (q1s he).1 (qcP g t),qbe]
 ·rw [if_neg he]
  simp only [q4C,if_neg he,q00,q02,q04,q03,q0y,q01,q0d]
  rw [if_pos (by simpa using he)]
set_option maxRecDepth 20000 in
set_option maxHeartbeats 1000000 in
theorem s48:FN (n+109) 48 [d9 a,d9 b,d9 c,d5 o,dT ta,dT tb,dT tc,il f,il d,il k]=if q0R (q0k (a.getD []) (b.getD []) (c.getD []) (o.getD [])) false true 0 f [d,k]=0 then (if qhP k a b c ta tb tc=true then some (0,[.d (dI (qbN k a b c o ta tb tc d f)),.d (il 0)]) else some (0,[.d (dI none),.d (il 37)])) else some (0,[.d (dI none),.d (il (q0R (q0k (a.getD []) (b.getD []) (c.getD []) (o.getD [])) false true 0 f [d,k]))]):=by
 rw [F48]
 have hp:∀ q:List D→Out,(RP (n+108)).ptrW 4 (q0U (kn9 k a) (kn9 k b) (kn9 k c) (kn5 k o)) q=q [d9 (kn9 k a),d9 (kn9 k b),d9 (kn9 k c),d5 (kn5 k o)]:=fun q=>q1O _ 4 q rfl
 have hn:(dI none:D)=.lit (.slice none 0 0):=rfl
 simp only [G48,q06,s79,q00,q02,q04,q0u,q1e,q9Y (n+98) 0 f d k a b c o ha hb hc ho false true]
 by_cases he:q0R (q0k (a.getD []) (b.getD []) (c.getD []) (o.getD [])) false true 0 f [d,k]=0
 ·rw [if_pos he]
  simp only [q4C,he,if_true,q00,q02,q04,q03,q0Z,q0y,ne_eq,not_true_eq_false,decide_false,q01,Bool.false_eq_true,if_false,hp,q07,q0g,w108 (n+105) k a b c o ta tb tc ha hb hc,q0J,q0d]
  cases ht:qhP k a b c ta tb tc with
  | false=>simp [hn]
  | true =>
   have t:=q6n.1 ht
   have g:=(q1f (q15 he)).cnt k
   have gf:=qcP g t
   have hla:=(qhd k (q15 he)).1
   have hd:=(q1s he).1
   have hlp:=q1l (q0p k (a.getD []))
   have h111:=s111 (n+103) (kn9 k a) (d9 (kn9 k b)) (d9 (kn9 k c)) (d5 (kn5 k o)) (by rw [q0m];omega)
   rw [q0m] at h111
   have hdk:(.dp [d9 (kn9 k a),d9 (kn9 k b),d9 (kn9 k c),d5 (kn5 k o)] 0:D)=q0U (kn9 k a) (kn9 k b) (kn9 k c) (kn5 k o):=rfl
   have hip:∀ q:Out,(RP (n+108)).isPtr (q0U (kn9 k a) (kn9 k b) (kn9 k c) (kn5 k o)) q=q:=fun q=>q3Z _ _ _
   simp only [Bool.not_true,Bool.false_eq_true,if_false,if_true,w109 (n+105) k a b c o ta tb tc g (qhd k (q15 he)) t,q00,q02,hip,h111,qbN]
   have hi:=fun l hl=>s186 (n+107) l hl (.fn 112 [.dp [q0U (q89 ta (kn9 k a)) (q89 tb (kn9 k b)) (q89 tc (kn9 k c)) (kn5 k o)] 0,.dp [il d] 0,.dp [il f] 0]) (fun p=>!decide (q7r k a b c o ta tb tc d p=f)) (fun e _=>by rw [←qbe];exact d112 n d f e hd gf)
   have hloop:=fun l hl i0 h0 h1=>l48 n d f hd gf l hl i0 h0 h1
   simp only [qbe] at hloop
   generalize hl:q0H (q0p k (a.getD []))=l at hlp ⊢
   cases l with
   | nil =>
    have:=hi none (by simp)
    simp only [q1E,q00,q02,q4L,q5u,this,q77,fnd,q0M,q01,Option.getD_none]
    simp [nzO,dI,dSl]
   | cons y r =>
    have h2:=hi (some (y::r)) (by simp only [Option.getD_some];omega)
    simp only [Option.getD_some] at h2
    simp only [q00,q0x,q0A,q0B,if_true,q0q,q4L,q5u,qeK,h2,q02,q29,List.all_cons,List.all_nil,qgh,Bool.and_true,q0M,q01,decide_eq_true_eq]
    have hres:dI ((nzO (y::r)).map (List.filter fun p=>decide (q7r k a b c o ta tb tc d p=f)))=dI (some ((y::r).filter fun p=>decide (q7r k a b c o ta tb tc d p=f))):=rfl
    rw [hres]
    generalize hy:(y::r)=l at *
    unfold q77
    cases hf:fnd (fun p=>!decide (q7r k a b c o ta tb tc d p=f)) l with
    | none =>
     simp only [if_true]
     have:=q3V hf
     simp only [Bool.not_not] at this
     rw [this]
    | some i0 =>
     obtain ⟨h0,h1⟩:=q3U hf
     simp only
     rw [if_neg (by omega),q0i,q0f (by omega) (by omega),q0r,List.length_map]
     obtain ⟨i,ks,e1,e2,e3,e4⟩:=hloop l (by omega) i0 h0 h1
     rw [show ((i0:Nat):Int)+1=((i0+1:Nat):Int) by simp,e1]
     have ek:(ks.map rI).length=l.length:=by simp [e3]
     simp only [q00,q02,q04,q0E,q0D,q0x,q0F,ek,if_true]
     rw [q5v _ _ _ _ e2]
     have ea:i+(l.length - i)=l.length:=by omega
     have et:((ks.map rI).take i++List.replicate (l.length - i) [il 0]).length=l.length:=by
      simp [e3];omega
     simp only [q16,ea,q1R,q73,et,if_true]
     rw [q5w _ _ _ _ (by omega)]
     simp only [Bool.not_not] at e4
     have er:((ks.map rI).take i++List.replicate (l.length - i) [il 0]).take i=(l.filter fun p=>decide (q7r k a b c o ta tb tc d p=f)).map rI:=by
      rw [List.take_append_of_le_length (by simp [e3];omega),List.take_take,Nat.min_self,← List.map_take,e4]
     rw [er]
     rfl
 ·rw [if_neg he]
  simp only [q4C,if_neg he,q00,q02,q04,q03,q0Z,q0y,q01,q0d]
  rw [if_pos (by simpa using he)]
  rfl
end
end Go.VE
namespace Go.VE
open Go.RowKit Go.Proofs
def q8N (a:Int) (is:Bool):Bool:=(decide (a=1)&&!is)||(decide (a=0)&&is)
theorem s51 (n:Nat) (a:Int) (is:Bool):FN (n+1) 51 [il a,bl is]=some (0,[.d (bl (q8N a is))]):=by
 rw [F51]
 simp only [G51,q03,q0K,q0M,q01,q0J,q0d,q8N,decide_eq_true_eq]
 by_cases h1:a=1
 ·subst h1;cases is<;>simp
 ·by_cases h0:a=0
  ·subst h0;cases is<;>simp
  ·cases is<;>simp [h1,h0]
section
variable {Fn:Nat→List D→Out} {FnD:D→List Sh→List D→Out} {m:Nat}
set_option maxRecDepth 20000 in
theorem a8_0 (A B C O TA TB TC P L N F x4:D) (f d k z g w p:Int) (i:Nat)
  (hrow:∀ q:List D→Out,(q08 Fn FnD m).rowD 1 P (il i) q=q (rI p)) (hL:∃ n:Nat,N=il n∧i < n)
  (h50:Fn 50 [A,B,C,O,TA,TB,TC,il p,il d,il k]=some (0,[.d (il z),.d (il 0)])) (h16:Fn 16 [A,B,C,O,il p,il d,il k]=some (0,[.d F,.d (il 0)]))
  (h18:Fn 18 [A,B,C,O,il p,il d,il k]=some (0,[.d (il g),.d (il 0)])) (h20:Fn 20 [A,B,C,O,il p,il f,il d,il k]=some (0,[.d (il w),.d (il 0)]))
  (q1:Fn 41 [F,il z]=some (0,[.d (bl true)])) (q2:Fn 51 [il g,bl (decide (z≠0))]=some (0,[.d (bl false)])) (q3:Fn 51 [il w,bl (decide (z=f))]=some (0,[.d (bl false)]))
  (q4:Fn 41 [L,il p]=some (0,[.d (bl (decide (z=f)))])) (hw:IntKind.i64.wrap ((i:Int)+1)=(i:Int)+1) (K:Nat→List Yr→Out) :
  L8_0 (q08 Fn FnD m) K [.d A,.d B,.d C,.d O,.d x4,.d (il f),.d (il d),.d (il k),.d L,.d P,.d N,.d (il i),.d TA,.d TB,.d TC]=K 0 [.d A,.d B,.d C,.d O,.d x4,.d (il f),.d (il d),.d (il k),.d L,.d P,.d N,.d (il ((i:Int)+1)),.d TA,.d TB,.d TC]:=by
 obtain ⟨n,rfl,hi⟩:=hL
 have hlt':(i:Int) < (n:Int):=by omega
 simp only [L8_0,q02,q04,q0n,q01,hlt',decide_true,if_true,hrow,rI,q07,q06,h50,h16,h18,h20,q00,q03,q0y,q0M,ne_eq,not_true_eq_false,decide_false,Bool.false_eq_true,if_false,q1,q0J,Bool.not_true]
 simp only [ne_eq] at q2
 simp only [q2,q3,q4,q00,q02,q01,Bool.false_eq_true,if_false,qeA,bne_self_eq_false,q0i,hw]
set_option maxRecDepth 20000 in
theorem a8 (A B C O TA TB TC PK L S M P:D) (x4 f d k lo hi n N:Int) (ok:Bool)
  (h24:Fn 24 [A,B,C,O]=some (0,[.d (il (if ok=true then 0 else 34))])) (hd25:Fn 25 [il d]=some (0,[.d (bl (decide (0≤d∧d≤4166)))])) (hk25:Fn 25 [il k]=some (0,[.d (bl (decide (0≤k∧k≤4166)))])) (h26:Fn 26 [il f]=some (0,[.d (bl (decide (1≤f∧f≤99)))])) (h23:Fn 23 []=some (0,[.d (bl true)]))
  (hm:ok=true→0≤d∧d≤4166→0≤k∧k≤4166→1≤f∧f≤99→Fn 46 [A,B,C,O,il k,PK]=some (0,[.d TA,.d TB,.d TC])∧Fn 47 [A,B,C,O,il k,TA,TB,TC]=some (0,[.d (il 0)]) ∧
   Fn 48 [A,B,C,O,TA,TB,TC,il f,il d,il k]=some (0,[.d L,.d (il 0)])∧Fn 32 [A,B,C,O,il f,il d,il k]=some (0,[.d S,.d (il 0)])∧Fn 34 [A,B,C,O,il f,il d,il k]=some (0,[.d M,.d (il 0)])∧Fn 29 [A,B,C,O,il f,il d,il k]=some (0,[.d (il lo),.d (il hi),.d (il 0)]) ∧
   Fn 30 [S,L]=some (0,[.d (bl true)])∧Fn 30 [L,M]=some (0,[.d (bl true)])∧(∀ q:D→Out,(q08 Fn FnD m).lenD L q=q (il n))∧Fn 49 [il n,il lo,il hi]=some (0,[.d (bl true)])∧Fn 31 [A,B,C,O]=some (0,[.d P])∧(∀ q:D→Out,(q08 Fn FnD m).lenD P q=q (il N)) ∧
   q0l [L8_0 (q08 Fn FnD m)] m 0 [.d A,.d B,.d C,.d O,.d (il x4),.d (il f),.d (il d),.d (il k),.d L,.d P,.d (il N),.d (il 0),.d TA,.d TB,.d TC]=some (1,[])) :
  G8 (q08 Fn FnD m) A B C O PK (il x4) (il f) (il d) (il k)=some (0,[.d (bl true)]):=by
 simp only [G8,q06,h24,q00,q02,q03,q0y,q01,hd25,hk25,h26,q0J,h23,q0d]
 cases ok with
 | false=>simp
 | true =>
  simp only [if_true,ne_eq,not_true_eq_false,decide_false,Bool.false_eq_true,if_false]
  by_cases hd:0≤d∧d≤4166
  ·simp only [hd,and_self,decide_true,Bool.not_true,Bool.false_eq_true,if_false]
   by_cases hk:0≤k∧k≤4166
   ·simp only [hk,and_self,decide_true,Bool.not_true,Bool.false_eq_true,if_false]
    by_cases hf:1≤f∧f≤99
    ·obtain ⟨g1,g2,g3,g4,g5,g6,g7,g8,g9,g10,g11,g12,g13⟩:=hm rfl hd hk hf
     simp only [hf,and_self,decide_true,Bool.not_true,Bool.false_eq_true,if_false,g1,q00,q02,q04,g2,g3,g4,g5,g6,g7,g8,g9,g10,g11,g12,q0y,ne_eq,not_true_eq_false,decide_false,q01,q0J,q0r,g13,q3M]
    ·simp [hf]
   ·simp [hk]
  ·simp [hd]
end
end Go.VE
namespace Go.VE
open Go.RowKit Go.Proofs
section
variable {k:Int} {a b c:Option (List E9)} {o:Option (List E5)} {ta tb tc:Option (List T2)} {d f:Int}
theorem q3z:(qbN k a b c o ta tb tc d f).getD []=(q0H (q0p k (a.getD []))).filter fun p=>decide (q7r k a b c o ta tb tc d p=f):=q1I
theorem qh4 (g:GoodK (q0p k (a.getD [])) (q0p k (b.getD [])) (q0p k (c.getD [])) (q2Q k (o.getD []))) (t:TrueT (q0p k (a.getD [])) (q0p k (b.getD [])) (q0p k (c.getD [])) (ta.getD []) (tb.getD []) (tc.getD [])) (hf:1≤f) {p:Int}:p∈(qbN k a b c o ta tb tc d f).getD []↔q7r k a b c o ta tb tc d p=f:=by
 rw [q3z,List.mem_filter]
 refine ⟨fun h=>of_decide_eq_true h.2,fun h=>⟨?_,decide_eq_true h⟩⟩
 by_cases hp:p∈q0H (q0p k (a.getD []))
 ·exact hp
 ·have:=qgD (d:=d) g t hp
  unfold q7r at h
  omega
theorem qc8 (g:GoodK (q0p k (a.getD [])) (q0p k (b.getD [])) (q0p k (c.getD [])) (q2Q k (o.getD []))) (t:TrueT (q0p k (a.getD [])) (q0p k (b.getD [])) (q0p k (c.getD [])) (ta.getD []) (tb.getD []) (tc.getD [])) (p:Int) (h:decide (q3b (q1Q k a b c o d p) f=1)=true):decide (q7r k a b c o ta tb tc d p=f)=true :=
 decide_eq_true ((qbd g t f).1 (of_decide_eq_true h))
theorem qfU (g:GoodK (q0p k (a.getD [])) (q0p k (b.getD [])) (q0p k (c.getD [])) (q2Q k (o.getD []))) (t:TrueT (q0p k (a.getD [])) (q0p k (b.getD [])) (q0p k (c.getD [])) (ta.getD []) (tb.getD []) (tc.getD [])) (p:Int) (h:decide (q7r k a b c o ta tb tc d p=f)=true):decide (q3b (q1Q k a b c o d p) f≠0)=true:=by
 have h:=of_decide_eq_true h
 refine decide_eq_true fun h0=>(qbd g t f).2 h0 h
theorem qcD {p q:Int→Bool} (h:∀ x,p x=true→q x=true) {l:List Int}:∀ z∈l.filter p,z∈l.filter q:=fun z hz=>by
 rw [List.mem_filter] at hz ⊢
 exact ⟨hz.1,h z hz.2⟩
end
section
variable (n:Nat) (x4 d f k:Int) (a b c:Option (List E9)) (o:Option (List E5)) (ta tb tc:Option (List T2)) (ha:(a.getD []).length*72≤140737488351232) (hb:(b.getD []).length*72≤140737488351232) (hc:(c.getD []).length*72≤140737488351232) (ho:(o.getD []).length*40≤140737488351232)
include ha hb hc ho
theorem l8_0 (hok:q0k (a.getD []) (b.getD []) (c.getD []) (o.getD [])=true) (hd:0≤d∧d≤4166) (hk:0≤k∧k≤4166) (hf:1≤f∧f≤99) (t:TrueT (q0p k (a.getD [])) (q0p k (b.getD [])) (q0p k (c.getD [])) (ta.getD []) (tb.getD []) (tc.getD [])) :
  q0l [L8_0 (RP (n+111))] M0 0 [.d (d9 a),.d (d9 b),.d (d9 c),.d (d5 o),.d (il x4),.d (il f),.d (il d),.d (il k),.d (dI (qbN k a b c o ta tb tc d f)),.d (dI (nzO (q0H (a.getD [])))),.d (il (q0H (a.getD [])).length),.d (il 0),.d (dT ta),.d (dT tb),.d (dT tc)]=some (1,[]):=by
 have g:=(q1f hok).cnt k
 have hla:=(q0Y hok).1
 have hlp:=q1l (a.getD [])
 have ht:qhP k a b c ta tb tc=true:=q6n.2 t
 have e1:=q0C (β:=Unit) (q0H (a.getD [])) (by omega) (L8_0 (RP (n+111))) (fun i _=>[.d (d9 a),.d (d9 b),.d (d9 c),.d (d5 o),.d (il x4),.d (il f),.d (il d),.d (il k),.d (dI (qbN k a b c o ta tb tc d f)),.d (dI (nzO (q0H (a.getD [])))),.d (il (q0H (a.getD [])).length),.d (il i),.d (dT ta),.d (dT tb),.d (dT tc)]) (fun _ _=>True) (fun _ _ _=>some (1,[]))
  (fun _ z _=>by simp [L8_0]) ?_ M0 () trivial (by unfold M0;omega)
 ·simpa using e1
 ·intro i p r _ z hi hdr hlt hw _ ih
  have ih':=ih () trivial
  have hm:=List.mem_of_getElem? hi
  have hp:1≤p∧p≤999:=by
   obtain ⟨e,he,h⟩:=(q63 _ _).1 hm
   have:=((q1H hok).1 e he).2.1
   omega
  have he:q0R (q0k (a.getD []) (b.getD []) (c.getD []) (o.getD [])) true false p 0 [d,k]=0:=by simp [q0R,hok,hp,hd,hk]
  have he2:q0R (q0k (a.getD []) (b.getD []) (c.getD []) (o.getD [])) true true p f [d,k]=0:=by simp [q0R,hok,hp,hd,hk,hf]
  have h50:=s50 (n+4) p d k a b c o ta tb tc ha hb hc ho
  have h16:=s16 (n+5) p d k a b c o ha hb hc ho
  have h18:=s18 (n+4) p d k a b c o ha hb hc ho
  have h20:=s20 (n+4) p f d k a b c o ha hb hc ho
  rw [if_pos he,if_pos ht] at h50
  rw [if_pos he] at h16 h18
  rw [if_pos he2] at h20
  have l3:(q1Q k a b c o d p).length≤100:=q1t (q1v ..) fun z hz=>q1d g.fam g.less hz
  have q1:=s41 (n+110) (some (q1Q k a b c o d p)) (q7r k a b c o ta tb tc d p) (by simp only [Option.getD_some];omega)
  have hmem:q7r k a b c o ta tb tc d p∈q1Q k a b c o d p:=q9o (d:=d) (p:=p) g t
  simp only [Option.getD_some,hmem,decide_true] at q1
  have hg:=qdd (d:=d) (p:=p) g t
  have q2:=s51 (n+110) (q1g (q0p k (a.getD [])) (q0p k (c.getD [])) (q2Q k (o.getD [])) d p) (decide (q7r k a b c o ta tb tc d p≠0))
  rw [show q8N (q1g (q0p k (a.getD [])) (q0p k (c.getD [])) (q2Q k (o.getD [])) d p) (decide (q7r k a b c o ta tb tc d p≠0))=false from by
   unfold q8N q7r
   by_cases h1:q1g (q0p k (a.getD [])) (q0p k (c.getD [])) (q2Q k (o.getD [])) d p=1
   ·have:=hg.1 h1;simp [h1,this]
   ·by_cases h0:q1g (q0p k (a.getD [])) (q0p k (c.getD [])) (q2Q k (o.getD [])) d p=0
    ·have:=hg.2 h0;simp [h0,this]
    ·simp [h0,h1]] at q2
  have hr:=qbd (d:=d) (p:=p) g t f
  have q3:=s51 (n+110) (q3b (q1Q k a b c o d p) f) (decide (q7r k a b c o ta tb tc d p=f))
  rw [show q8N (q3b (q1Q k a b c o d p) f) (decide (q7r k a b c o ta tb tc d p=f))=false from by
   unfold q8N q7r q1Q
   by_cases h1:q3b (q1j (q0p k (a.getD [])) (q0p k (b.getD [])) (q0p k (c.getD [])) (q2Q k (o.getD [])) d p) f=1
   ·have:=hr.1 h1;simp [h1,this]
   ·by_cases h0:q3b (q1j (q0p k (a.getD [])) (q0p k (b.getD [])) (q0p k (c.getD [])) (q2Q k (o.getD [])) d p) f=0
    ·have:=hr.2 h0;simp [h0,this]
    ·simp [h0,h1]] at q3
  have lc:((qbN k a b c o ta tb tc d f).getD []).length≤60:=by
   rw [q3z]
   have h1:=List.length_filter_le (fun p=>decide (q7r k a b c o ta tb tc d p=f)) (q0H (q0p k (a.getD [])))
   have h2:=q1l (q0p k (a.getD []))
   have h3:=q24 k (a.getD [])
   omega
  have q4:=s41 (n+110) (qbN k a b c o ta tb tc d f) p (by omega)
  rw [show decide (p∈(qbN k a b c o ta tb tc d f).getD [])=decide (q7r k a b c o ta tb tc d p=f) from by
   rw [Bool.eq_iff_iff,decide_eq_true_iff,decide_eq_true_iff];exact qh4 g t hf.1] at q4
  have hi':((nzO (q0H (a.getD []))).getD [])[i]?=some p:=by rw [q09];exact hi
  rw [a8_0 (d9 a) (d9 b) (d9 c) (d5 o) (dT ta) (dT tb) (dT tc) (dI (nzO (q0H (a.getD [])))) (dI (qbN k a b c o ta tb tc d f)) _ _ (il x4) f d k _ _ _ p i (fun q=>q2R hi' q) ⟨_,rfl,hlt⟩ h50 h16 h18 h20 q1 q2 q3 q4 hw z]
  exact ih'
theorem s8 (P:Option (List Int)) (hP:(P.getD []).length≤4611686018427387904) (hI:I64 (P.getD [])):G8 (RP (n+111)) (d9 a) (d9 b) (d9 c) (d5 o) (dI P) (il x4) (il f) (il d) (il k)=some (0,[.d (bl true)]):=by
 refine a8 (d9 a) (d9 b) (d9 c) (d5 o) (dT (nzO (tmL (P.getD []) 0 (q0p k (a.getD []))))) (dT (nzO (tmL (P.getD []) (q0p k (a.getD [])).length (q0p k (b.getD []))))) (dT (nzO (tmL (P.getD []) ((q0p k (a.getD [])).length+(q0p k (b.getD [])).length) (q0p k (c.getD []))))) (dI P)
  (dI (qbN k a b c o (nzO (tmL (P.getD []) 0 (q0p k (a.getD [])))) (nzO (tmL (P.getD []) (q0p k (a.getD [])).length (q0p k (b.getD [])))) (nzO (tmL (P.getD []) ((q0p k (a.getD [])).length+(q0p k (b.getD [])).length) (q0p k (c.getD [])))) d f))
  (dI (q3F k a b c o d f)) (dI (q9G k a b c o d f)) (dI (nzO (q0H (a.getD [])))) x4 f d k (((q3F k a b c o d f).getD []).length:Int) (((q9G k a b c o d f).getD []).length:Int) (((qbN k a b c o (nzO (tmL (P.getD []) 0 (q0p k (a.getD [])))) (nzO (tmL (P.getD []) (q0p k (a.getD [])).length (q0p k (b.getD [])))) (nzO (tmL (P.getD []) ((q0p k (a.getD [])).length+(q0p k (b.getD [])).length) (q0p k (c.getD [])))) d f).getD []).length:Int) (q0H (a.getD [])).length (q0k (a.getD []) (b.getD []) (c.getD []) (o.getD [])) (s24 (n+106) a b c o) (s25 (n+109) d) (s25 (n+109) k) (s26 (n+109) f) (s23 n) ?_
 intro hok hd hk hf
 obtain ⟨l1,l2,l3,l4⟩:=q0Y hok
 have l60:=qhd k hok
 have hp:=q1H hok
 have sa:∀ e∈q0p k (a.getD []),q0N e.f1 e.f2 e.t1 e.t2:=fun e he=>(hp.1 e (q4t he)).2.2.2.1
 have sb:∀ e∈q0p k (b.getD []),q0N e.f1 e.f2 e.t1 e.t2:=fun e he=>(hp.2.1 e (q4t he)).2.2.2.1
 have sc:∀ e∈q0p k (c.getD []),q0N e.f1 e.f2 e.t1 e.t2:=fun e he=>(hp.2.2.1 e (q4t he)).2.2.2.2.1
 have g:=(q1f hok).cnt k
 have h46:=s46 (n+108) k P hP hI a b c o ha hb hc ho l60.1 l60.2.1 l60.2.2.1 sa sb sc
 generalize hta:nzO (tmL (P.getD []) 0 (q0p k (a.getD [])))=ta at h46 ⊢
 generalize htb:nzO (tmL (P.getD []) (q0p k (a.getD [])).length (q0p k (b.getD [])))=tb at h46 ⊢
 generalize htc:nzO (tmL (P.getD []) ((q0p k (a.getD [])).length+(q0p k (b.getD [])).length) (q0p k (c.getD [])))=tc at h46 ⊢
 have t:TrueT (q0p k (a.getD [])) (q0p k (b.getD [])) (q0p k (c.getD [])) (ta.getD []) (tb.getD []) (tc.getD []):=by
  rw [←hta,← htb,← htc,q09,q09,q09]
  exact ⟨qc7 _ _ _ sa,qc7 _ _ _ sb,qc7 _ _ _ sc⟩
 have ht:qhP k a b c ta tb tc=true:=q6n.2 t
 have h47:=s47 (n+99) k a b c o ta tb tc ha hb hc ho
 rw [if_pos (by simp [q0R,hok,hk]),if_pos ht] at h47
 have he:q0R (q0k (a.getD []) (b.getD []) (c.getD []) (o.getD [])) false true 0 f [d,k]=0:=by simp [q0R,hok,hd,hk,hf]
 have h48:=s48 (n+2) f d k a b c o ta tb tc ha hb hc ho
 rw [if_pos he,if_pos ht] at h48
 have h32:=s32 (n+1) f d k a b c o ha hb hc ho
 have h34:=s34 (n+1) f d k a b c o ha hb hc ho
 have h29:=s29 (n+1) f d k a b c o ha hb hc ho
 rw [if_pos he] at h32 h34 h29
 have m1:(q3F k a b c o d f).getD []=(q0H (q0p k (a.getD []))).filter fun p=>decide (q3b (q1Q k a b c o d p) f=1):=q1I
 have m2:(q9G k a b c o d f).getD []=(q0H (q0p k (a.getD []))).filter fun p=>decide (q3b (q1Q k a b c o d p) f≠0):=q1I
 have lp:=q1l (q0p k (a.getD []))
 have n1:=q3x (qc8 (f:=f) (d:=d) g t) (q0H (q0p k (a.getD [])))
 have n2:=q3x (qfU (f:=f) (d:=d) g t) (q0H (q0p k (a.getD [])))
 have n3:=List.length_filter_le (fun p=>decide (q3b (q1Q k a b c o d p) f≠0)) (q0H (q0p k (a.getD [])))
 have q1:=s30 (n+109) (q3F k a b c o d f) (qbN k a b c o ta tb tc d f) (by rw [m1];omega) (by rw [q3z];omega)
 rw [m1,q3z,qb3 (qcD (qc8 g t))] at q1
 have q2:=s30 (n+109) (qbN k a b c o ta tb tc d f) (q9G k a b c o d f) (by rw [q3z];omega) (by rw [m2];omega)
 rw [m2,q3z,qb3 (qcD (qfU g t))] at q2
 have q3:=s49 (n+110) ((qbN k a b c o ta tb tc d f).getD []).length ((q3F k a b c o d f).getD []).length ((q9G k a b c o d f).getD []).length
 rw [decide_eq_true (by rw [m1,m2,q3z];omega)] at q3
 exact ⟨h46,h47,h48,h32,h34,h29,q1,q2,fun q=>q2I _ q,q3,s31 (n+109) a (d9 b) (d9 c) (d5 o) (by omega),fun q=>by rw [q2I,q09],l8_0 n x4 d f k a b c o ta tb tc ha hb hc ho hok hd hk hf t⟩
end
end Go.VE
namespace Go.VE
open Go.RowKit Go.Proofs Go.Proofs.YtobeabinccohlaaGreat
set_option maxRecDepth 100000
theorem o30 {n:Nat} {ds:List D} (h:HasT Tryz.prog (n+2) 30 ds):∃ o:Option (List Int),ds=[dI o]∧(o.getD []).length*8≤140737488351232∧I64 (o.getD []):=by
 obtain ⟨o,rfl,h1,h2⟩:=h.sl (c:=1) (b:=8) Tryz.underlying30 (by kernel_rfl) (by kernel_rfl)
 obtain ⟨q,rfl⟩:=q9A (f:=rI) fun r hr=>by
  obtain ⟨z,hz,_⟩:=o3 (h2 r hr)
  exact ⟨z,hz⟩
 refine ⟨q,rfl,?_,?_⟩
 ·cases q with
  | none=>simp
  | some l=>simpa using h1
 ·intro z hz
  cases q with
  | none=>simp at hz
  | some l =>
   obtain ⟨z',h3,h4⟩:=o3 (h2 (rI z) (by simpa using ⟨z,by simpa using hz,rfl⟩))
   have:z=z':=by simpa [rI] using h3
   rw [this];exact h4
theorem q9T (vds:List VD) (h:VTs Tryz.prog 8 [27,30,29] vds):SC Tryz.prog 8 vds (.one (.d (bl true))):=by
 obtain ⟨_,_,rfl,h1,h⟩:=q1u h
 obtain ⟨_,_,rfl,h2,h⟩:=q1u h
 obtain ⟨_,_,rfl,h3,h⟩:=q1u h
 cases q6X h
 obtain ⟨_,rfl,k1⟩:=h1.agg_ Tryz.underlying27
 obtain ⟨_,rfl,k2⟩:=h2.sl_ Tryz.underlying30
 obtain ⟨_,rfl,k3⟩:=h3.agg_ Tryz.underlying29
 obtain ⟨a,b,c,o,rfl,ha,hb,hc,ho⟩:=o27 k1
 obtain ⟨P,hP,hl,hI⟩:=o30 k2
 cases hP
 obtain ⟨p,f,d,k,rfl⟩:=o29 k3
 refine qdv (T:=tb) (fuel:=400) (m0:=M0) (xs:=[d9 a,d9 b,d9 c,d5 o,dI P,il p,il f,il d,il k]) qin (qdY 111) (q9j 111) qi6 (by decide) (sh:=[.agg 4,.one,.agg 4]) rfl rfl rfl ?_
 rw [G8_eq]
 exact s8 0 p d f k a b c o ha hb hc ho P (by omega) hI
end Go.VE
namespace Go.Proofs.YtobeabinccohlaaGreat
open Go.VE Go.RowKit
set_option maxRecDepth 100000
theorem q6R (os:Os) (started:os.Started) (H:Type) (enc:TypeId×Value→H) :
  ReturnsInHanded {} Tryz.checked os 8 .any (Rows.familyTrueSpec.pre6 enc Tryz.prog Tryz.f8 Rows.familyTrueRow.domain false) (Rows.familyTrueSpec.post enc Tryz.prog Tryz.f8 false true false false) :=
 qdw (C:=Tryz.checked) (n:=8) (tb:=4) own started (by kernel_rfl) Tryz.func8
  (ChangeSpec.witness6 (enc:=enc) (C:=Tryz.checked) false ⟨#[],#[.agg #[.slice none 0 0,.slice none 0 0,.slice none 0 0,.slice none 0 0],.slice none 0 0,.agg #[.int .i64 0,.int .i64 0,.int .i64 0,.int .i64 0]],[]⟩ 8 (by kernel_rfl) (by kernel_rfl) (by kernel_rfl) (by kernel_rfl))
  q6F (by kernel_rfl) (by kernel_rfl) Tryz.underlying4 rfl
  (fun ds hd=>by
   rw [show Tryz.f8.params.toList=[27,30,29] by kernel_rfl] at hd
   match ds,hd with
   | [a,b,c],_=>rfl)
  (fun vds h=>q9T vds h)
theorem q8d:Rows.familyTrueRow.holds Tryz.pinned (OpenSpec.ofChange Rows.familyTrueSpec) :=
 OpenClaim.holds_of_wide 8 Tryz.f8 rfl rfl rfl rfl rfl rfl rfl ⟨rfl,rfl,rfl,rfl,rfl⟩ rfl rfl rfl rfl rfl (by kernel_rfl) Tryz.func8 (by kernel_rfl)
  (of_decide_eq_true (by kernel_rfl)) (by unfold Func.isWrapper;first | (rw [if_pos (by decide +kernel)];kernel_rfl) | (rw [if_neg (by decide +kernel)];exact ⟨rfl,rfl⟩))
  (fun os started H enc _=>q6R os started H enc)
theorem familyTrue_holds:Rows.FamilyTrueSaid:=q8d
#print axioms familyTrue_holds
end Go.Proofs.YtobeabinccohlaaGreat
