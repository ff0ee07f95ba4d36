/- Family: by true terms: CheckTimes, Truly, Count (program). -/
import Derived.Test.YtobeabinccohlaaGreatMg4
set_option maxRecDepth 20000
namespace Go.VE
open Go.RowKit Go.Proofs
section
section
variable {a b c:Option (List E9)} {o:Option (List E5)}
theorem s113 (n:Nat) (d p:Int) (hd:0≤d∧d≤4166) (g:GoodK (a.getD []) (b.getD []) (c.getD []) (o.getD [])) :
  FN (n+106) 113 [d9 a,d9 b,d9 c,d5 o,il p,il d]=some (0,[.d (il (qf0 (a.getD []) (b.getD []) (c.getD []) (o.getD []) d p))]):=by
 rw [FS,qn0]
 obtain ⟨z,hz⟩:=q8Z (c:=c.getD []) (o:=o.getD []) (d:=d) (p:=p) g.fam g.less
 simp only [G113,q08,k82 n d p hd g,q01,q02,qf0]
 cases hl:q2n (a.getD []) (b.getD []) (c.getD []) (o.getD []) d p with
 | nil=>rw [hl] at hz;simp at hz
 | cons x r =>
  have hrow:∀ q:List D→Out,(RP (n+105)).rowD 1 (dI (some (x::r))) (il 0) q=q (rI x):=fun q=>q76 (i:=0) rfl q
  simp only [q04,hrow,rI,q0b,q0c,List.headD_cons]
theorem s112 (n:Nat) (d f p:Int) (hd:0≤d∧d≤4166) (g:GoodK (a.getD []) (b.getD []) (c.getD []) (o.getD [])) :
  FN (n+107) 112 [il p,q0e a b c o,il d,il f]=some (0,[.d (bl (!decide (qf0 (a.getD []) (b.getD []) (c.getD []) (o.getD []) d p=f)))]):=by
 rw [FS,qn1]
 have hp:∀ k:List D→Out,(RP (n+106)).ptrW 4 (q0e a b c o) k=k [d9 a,d9 b,d9 c,d5 o]:=fun k=>q1e _ 4 k rfl
 simp only [G112,hp,q0b,q0j,q08,s113 n d p hd g,q01,q02,q0Y,q0c]
 simp
theorem d112 (n:Nat) (d f p:Int) (hd:0≤d∧d≤4166) (g:GoodK (a.getD []) (b.getD []) (c.getD []) (o.getD [])) :
  FD (n+107) (.fn 112 [.dp [q0e a b c o] 0,.dp [il d] 0,.dp [il f] 0]) [.one] (rI p)=some (0,[.d (bl (!decide (qf0 (a.getD []) (b.getD []) (c.getD []) (o.getD []) d p=f)))]) :=
 q4p [.one,.ptr 1,.ptr 1,.ptr 1] [.one (il p)] (by decide) rfl (by kernel_rfl) rfl (by kernel_rfl) (s112 n d f p hd g)
theorem l48 (n:Nat) (d f:Int) (hd:0≤d∧d≤4166) (g:GoodK (a.getD []) (b.getD []) (c.getD []) (o.getD []))
  (l:List Int) (hl:l.length≤4611686018427387904) (i0:Nat) (h0:i0 < l.length) (h1:(l.take (i0+1)).filter (fun p=>!(!decide (qf0 (a.getD []) (b.getD []) (c.getD []) (o.getD []) d p=f)))=l.take i0) :
  ∃ (i:Nat) (ks:List Int),q0o [qhj (RP (n+108))] M0 0 [.n l.length,.n l.length,.d (il d),.d (il f),.d (il i0),.d (il ((i0+1:Nat):Int)),.d (q0e a b c o),.r (l.map rI)]=some (0,[.n l.length,.n l.length,.d (il (i:Int)),.d (q0e a b c o),.r (ks.map rI)])∧i < l.length∧ks.length=l.length∧ks.take i=l.filter (fun p=>!(!decide (qf0 (a.getD []) (b.getD []) (c.getD []) (o.getD []) d p=f))):=by
 refine q6e l hl (fun p=>!decide (qf0 (a.getD []) (b.getD []) (c.getD []) (o.getD []) d p=f)) (qhj (RP (n+108))) (fun i j ks=>[.n l.length,.n l.length,.d (il d),.d (il f),.d (il (i:Nat)),.d (il (j:Nat)),.d (q0e a b c o),.r (ks.map rI)])
  (fun i ks=>some (0,[.n l.length,.n l.length,.d (il ((i:Nat):Int)),.d (q0e a b c o),.r (ks.map rI)])) ?_ ?_ i0 h0 h1
 ·intro i ks k hk
  simp [qhj]
 ·intro i j ks e e2 k _ hj hi hij hjl hil hks hwj hwi
  have hkr:(ks.map rI)[j]?=some (rI e):=by rw [List.getElem?_map,hj];rfl
  have hkr2:(ks.map rI)[i]?=some (rI e2):=by rw [List.getElem?_map,hi];rfl
  simp only [qhj,q02,q06,q0Q,q0P,q0G,q0Z,q7C,q0A,q00,hjl,decide_true,if_true,q0B,List.length_map,q0K,hks]
  rw [q7D _ _ _ ⟨by omega,hjl⟩,Int.toNat_natCast,q3a 1 _ _ _ _ hkr rfl]
  simp only [rI,q0b,q08,s112 (n+1) d f e hd g,q01,q02,q2D,List.all_cons,List.all_nil,yl_b,Bool.and_true,if_true,q0z,q00,q04,q0s,hwj,hwi]
  cases hqv:decide (qf0 (a.getD []) (b.getD []) (c.getD []) (o.getD []) d e=f) with
  | true =>
   simp only [Bool.not_true,Bool.not_false,if_true,Bool.false_eq_true,if_false]
   rw [q7D _ _ _ ⟨by omega,hil⟩,Int.toNat_natCast,q3a 1 _ _ _ _ hkr2 rfl]
   simp only [q3S,List.map_set,rI]
  | false =>
   simp only [Bool.not_true,Bool.not_false,if_true,Bool.false_eq_true,if_false]
end
theorem qdg {k:Int} {a b c:Option (List E9)} {o:Option (List E5)} {ta tb tc:Option (List T2)} (g:GoodK (q0w k (a.getD [])) (q0w k (b.getD [])) (q0w k (c.getD [])) (q5O k (o.getD []))) (t:TrueT (q0w k (a.getD [])) (q0w k (b.getD [])) (q0w k (c.getD [])) (ta.getD []) (tb.getD []) (tc.getD [])) :
  GoodK ((q85 ta (kn9 k a)).getD []) ((q85 tb (kn9 k b)).getD []) ((q85 tc (kn9 k c)).getD []) ((kn5 k o).getD []):=by
 rw [q3Z,q3Z,q3Z,q0d,q0d,q0d,q1v]
 exact g.nar (q3l t.a) (q3l t.b) (q3l t.c)
def qhK (k:Int) (a b c:Option (List E9)) (o:Option (List E5)) (ta tb tc:Option (List T2)) (d p:Int):Int:=qhJ (q0w k (a.getD [])) (q0w k (b.getD [])) (q0w k (c.getD [])) (q5O k (o.getD [])) (ta.getD []) (tb.getD []) (tc.getD []) d p
theorem qbk (k:Int) (a b c:Option (List E9)) (o:Option (List E5)) (ta tb tc:Option (List T2)) (d p:Int):qf0 ((q85 ta (kn9 k a)).getD []) ((q85 tb (kn9 k b)).getD []) ((q85 tc (kn9 k c)).getD []) ((kn5 k o).getD []) d p=qhK k a b c o ta tb tc d p:=by
 rw [q3Z,q3Z,q3Z,q0d,q0d,q0d,q1v];rfl
def areK (k:Int) (a b c:Option (List E9)) (ta tb tc:Option (List T2)):Bool:=areT (q0w k (a.getD [])) (q0w k (b.getD [])) (q0w k (c.getD [])) (ta.getD []) (tb.getD []) (tc.getD [])
def cntT (k:Int) (a b c:Option (List E9)) (o:Option (List E5)) (ta tb tc:Option (List T2)) (d f:Int):Option (List Int):=(nzO (q2s (q0w k (a.getD [])))).map (List.filter fun p=>decide (qhK k a b c o ta tb tc d p=f))
section
variable (n:Nat) (p f d k:Int) (a b c:Option (List E9)) (o:Option (List E5)) (ta tb tc:Option (List T2)) (ha:(a.getD []).length*72≤140737488351232) (hb:(b.getD []).length*72≤140737488351232) (hc:(c.getD []).length*72≤140737488351232) (ho:(o.getD []).length*40≤140737488351232)
include ha hb hc ho
omit ho in
theorem w108:FN (n+3) 108 [d9 (kn9 k a),d9 (kn9 k b),d9 (kn9 k c),d5 (kn5 k o),dT ta,dT tb,dT tc]=some (0,[.d (bl (areK k a b c ta tb tc))]):=by
 have la:=q2M k (a.getD []);have lb:=q2M k (b.getD []);have lc:=q2M k (c.getD [])
 rw [s108 n (kn9 k a) (kn9 k b) (kn9 k c) (d5 (kn5 k o)) ta tb tc (by rw [q0d];omega) (by rw [q0d];omega) (by rw [q0d];omega),q0d,q0d,q0d]
 rfl
omit ha hb hc ho in
theorem w109 (_:GoodK (q0w k (a.getD [])) (q0w k (b.getD [])) (q0w k (c.getD [])) (q5O k (o.getD []))) (hg:(q0w k (a.getD [])).length≤60∧(q0w k (b.getD [])).length≤60∧(q0w k (c.getD [])).length≤60∧(q5O k (o.getD [])).length≤60) (t:TrueT (q0w k (a.getD [])) (q0w k (b.getD [])) (q0w k (c.getD [])) (ta.getD []) (tb.getD []) (tc.getD [])) :
  FN (n+3) 109 [d9 (kn9 k a),d9 (kn9 k b),d9 (kn9 k c),d5 (kn5 k o),dT ta,dT tb,dT tc]=some (0,[.d (q0e (q85 ta (kn9 k a)) (q85 tb (kn9 k b)) (q85 tc (kn9 k c)) (kn5 k o))]) :=
 s109 n (kn9 k a) (kn9 k b) (kn9 k c) (kn5 k o) ta tb tc (by rw [q0d];exact hg.1) (by rw [q0d];exact hg.2.1) (by rw [q0d];exact hg.2.2.1) (by rw [q1v];exact hg.2.2.2) (by rw [q0d];exact q80 t.a) (by rw [q0d];exact q80 t.b) (by rw [q0d];exact q80 t.c)
omit ha hb hc ho in
theorem ql3 {a b c:Option (List E9)} {o:Option (List E5)} (k:Int) (h:q0H (a.getD []) (b.getD []) (c.getD []) (o.getD [])=true):(q0w k (a.getD [])).length≤60∧(q0w k (b.getD [])).length≤60∧(q0w k (c.getD [])).length≤60∧(q5O k (o.getD [])).length≤60:=by
 have h0:=q4I h
 have la:=q2M k (a.getD []);have lb:=q2M k (b.getD []);have lc:=q2M k (c.getD [])
 have lo:(q5O k (o.getD [])).length≤(o.getD []).length:=List.length_filter_le _ _
 omega
theorem s50:FN (n+107) 50 [d9 a,d9 b,d9 c,d5 o,dT ta,dT tb,dT tc,il p,il d,il k]=if q1Q (q0H (a.getD []) (b.getD []) (c.getD []) (o.getD [])) true false p 0 [d,k]=0 then (if areK k a b c ta tb tc=true then some (0,[.d (il (qhK k a b c o ta tb tc d p)),.d (il 0)]) else some (0,[.d (il 0),.d (il 37)])) else some (0,[.d (il 0),.d (il (q1Q (q0H (a.getD []) (b.getD []) (c.getD []) (o.getD [])) true false p 0 [d,k]))]):=by
 rw [FS,G50_eq]
 have hp:∀ q:List D→Out,(RP (n+106)).ptrW 4 (q0e (kn9 k a) (kn9 k b) (kn9 k c) (kn5 k o)) q=q [d9 (kn9 k a),d9 (kn9 k b),d9 (kn9 k c),d5 (kn5 k o)]:=fun q=>q1e _ 4 q rfl
 have hp2:∀ q:List D→Out,(RP (n+106)).ptrW 4 (q0e (q85 ta (kn9 k a)) (q85 tb (kn9 k b)) (q85 tc (kn9 k c)) (kn5 k o)) q=q [d9 (q85 ta (kn9 k a)),d9 (q85 tb (kn9 k b)),d9 (q85 tc (kn9 k c)),d5 (kn5 k o)]:=fun q=>q1e _ 4 q rfl
 simp only [G50,q08,s72,q01,q02,q06,q0C,q1n,q7e (n+96) p 0 d k a b c o ha hb hc ho true false]
 by_cases he:q1Q (q0H (a.getD []) (b.getD []) (c.getD []) (o.getD [])) true false p 0 [d,k]=0
 ·rw [if_pos he]
  simp only [q4o,he,if_true,q01,q02,q06,q04,q0Y,ne_eq,not_true_eq_false,decide_false,q00,Bool.false_eq_true,if_false,hp,q0b,q0j,w108 (n+103) k a b c o ta tb tc ha hb hc,q0z,q0c]
  cases ht:areK k a b c ta tb tc with
  | false=>simp
  | true =>
   have t:=q8g.1 ht
   have g:=(q4O (q1U he)).cnt k
   simp only [Bool.not_true,Bool.false_eq_true,if_false,if_true,w109 (n+103) k a b c o ta tb tc g (ql3 k (q1U he)) t,q01,q02,hp2,q0b,q0j,s113 n d p (q1V he).1 (qdg g t),qbk]
 ·rw [if_neg he]
  simp only [q4o,if_neg he,q01,q02,q06,q04,q0Y,q00,q0c]
  rw [if_pos (by simpa using he)]
set_option maxHeartbeats 1000000 in
theorem s48:FN (n+109) 48 [d9 a,d9 b,d9 c,d5 o,dT ta,dT tb,dT tc,il f,il d,il k]=if q1Q (q0H (a.getD []) (b.getD []) (c.getD []) (o.getD [])) false true 0 f [d,k]=0 then (if areK k a b c ta tb tc=true then some (0,[.d (dI (cntT k a b c o ta tb tc d f)),.d (il 0)]) else some (0,[.d (dI none),.d (il 37)])) else some (0,[.d (dI none),.d (il (q1Q (q0H (a.getD []) (b.getD []) (c.getD []) (o.getD [])) false true 0 f [d,k]))]):=by
 rw [FS,G48_eq]
 have hp:∀ q:List D→Out,(RP (n+108)).ptrW 4 (q0e (kn9 k a) (kn9 k b) (kn9 k c) (kn5 k o)) q=q [d9 (kn9 k a),d9 (kn9 k b),d9 (kn9 k c),d5 (kn5 k o)]:=fun q=>q1e _ 4 q rfl
 have hn:(dI none:D)=.lit (.slice none 0 0):=rfl
 simp only [G48,q08,s79,q01,q02,q06,q0C,q1n,q7e (n+98) 0 f d k a b c o ha hb hc ho false true]
 by_cases he:q1Q (q0H (a.getD []) (b.getD []) (c.getD []) (o.getD [])) false true 0 f [d,k]=0
 ·rw [if_pos he]
  simp only [q4o,he,if_true,q01,q02,q06,q04,q2h,q0Y,ne_eq,not_true_eq_false,decide_false,q00,Bool.false_eq_true,if_false,hp,q0b,q0j,w108 (n+105) k a b c o ta tb tc ha hb hc,q0z,q0c]
  cases ht:areK k a b c ta tb tc with
  | false=>simp [hn]
  | true =>
   have t:=q8g.1 ht
   have g:=(q4O (q1U he)).cnt k
   have gf:=qdg g t
   have hla:=(ql3 k (q1U he)).1
   have hd:=(q1V he).1
   have hlp:=q3X (q0w k (a.getD []))
   have h111:=s111 (n+103) (kn9 k a) (d9 (kn9 k b)) (d9 (kn9 k c)) (d5 (kn5 k o)) (by rw [q0d];omega)
   rw [q0d] at h111
   have hdk:(.dp [d9 (kn9 k a),d9 (kn9 k b),d9 (kn9 k c),d5 (kn5 k o)] 0:D)=q0e (kn9 k a) (kn9 k b) (kn9 k c) (kn5 k o):=rfl
   have hip:∀ q:Out,(RP (n+108)).isPtr (q0e (kn9 k a) (kn9 k b) (kn9 k c) (kn5 k o)) q=q:=fun q=>q1R _ _ _
   simp only [Bool.not_true,Bool.false_eq_true,if_false,if_true,w109 (n+105) k a b c o ta tb tc g (ql3 k (q1U he)) t,q01,q02,hip,h111,cntT]
   have hi:=fun l hl=>s186 (n+107) l hl (.fn 112 [.dp [q0e (q85 ta (kn9 k a)) (q85 tb (kn9 k b)) (q85 tc (kn9 k c)) (kn5 k o)] 0,.dp [il d] 0,.dp [il f] 0]) (fun p=>!decide (qhK k a b c o ta tb tc d p=f)) (fun e _=>by rw [←qbk];exact d112 n d f e hd gf)
   have hloop:=fun l hl i0 h0 h1=>l48 n d f hd gf l hl i0 h0 h1
   simp only [qbk] at hloop
   generalize hl:q2s (q0w k (a.getD []))=l at hlp ⊢
   cases l with
   | nil =>
    have:=hi none (by simp)
    simp only [q2N,q01,q02,q4E,q5t,this,q73,fnd,q1a,q00,Option.getD_none]
    simp [nzO,dI,dSl]
   | cons y r =>
    have h2:=hi (some (y::r)) (by simp only [Option.getD_some];omega)
    simp only [Option.getD_some] at h2
    simp only [q01,q0G,q0B,q0K,if_true,q0J,q4E,q5t,qfP,h2,q02,q2D,List.all_cons,List.all_nil,qhH,Bool.and_true,q1a,q00,decide_eq_true_eq]
    have hres:dI ((nzO (y::r)).map (List.filter fun p=>decide (qhK k a b c o ta tb tc d p=f)))=dI (some ((y::r).filter fun p=>decide (qhK k a b c o ta tb tc d p=f))):=rfl
    rw [hres]
    generalize hy:(y::r)=l at *
    unfold q73
    cases hf:fnd (fun p=>!decide (qhK k a b c o ta tb tc d p=f)) l with
    | none =>
     simp only [if_true]
     have:=q3G hf
     simp only [Bool.not_not] at this
     rw [this]
    | some i0 =>
     obtain ⟨h0,h1⟩:=q3F hf
     simp only
     rw [if_neg (by omega),q0s,q0m (by omega) (by omega),q0r,List.length_map]
     obtain ⟨i,ks,e1,e2,e3,e4⟩:=hloop l (by omega) i0 h0 h1
     rw [show ((i0:Nat):Int)+1=((i0+1:Nat):Int) by simp,e1]
     have ek:(ks.map rI).length=l.length:=by simp [e3]
     simp only [q01,q02,q06,q0Q,q0P,q0G,q0Z,ek,if_true]
     rw [q5u _ _ _ _ e2]
     have ea:i+(l.length - i)=l.length:=by omega
     have et:((ks.map rI).take i++List.replicate (l.length - i) [il 0]).length=l.length:=by
      simp [e3];omega
     simp only [q2c,ea,q4f,q6Y,et,if_true]
     rw [q5v _ _ _ _ (by omega)]
     simp only [Bool.not_not] at e4
     have er:((ks.map rI).take i++List.replicate (l.length - i) [il 0]).take i=(l.filter fun p=>decide (qhK k a b c o ta tb tc d p=f)).map rI:=by
      rw [List.take_append_of_le_length (by simp [e3];omega),List.take_take,Nat.min_self,← List.map_take,e4]
     rw [er]
     rfl
 ·rw [if_neg he]
  simp only [q4o,if_neg he,q01,q02,q06,q04,q2h,q0Y,q00,q0c]
  rw [if_pos (by simpa using he)]
  rfl
end
end
section
def ixs (l:List E9):List (E9×Nat):=l.zipIdx.reverse
def q1c (d who:Int):List (E9×Nat)→List (Int×Option Int)
 | []=>[(-1,none)]
 | (e,i)::r=>if e.a=who∧q1J e.f1 e.t2 d=true then ((i:Int),some e.b)::(if q1h e.f2 e.t1 d=true then [] else q1c d who r) else q1c d who r
theorem q7H (d who:Int):∀ l:List (E9×Nat),(q1c d who l).map (·.2)=q0O d who (l.map (·.1))
 | []=>rfl
 | (e,i)::r=>by
  simp only [q1c,q0O,List.map_cons]
  by_cases h:e.a=who∧q1J e.f1 e.t2 d=true
  ·rw [if_pos h,if_pos h]
   by_cases hs:q1h e.f2 e.t1 d=true
   ·simp [hs]
   ·simp [hs,q7H d who r]
  ·rw [if_neg h,if_neg h,q7H d who r]
theorem qlf (l:List E9):(ixs l).map (·.1)=below l l.length:=by
 rw [q6j,ixs,List.map_reverse,List.zipIdx_map_fst]
theorem q8Q (d who:Int) (l:List E9):(q1c d who (ixs l)).map (·.2)=q0O d who (below l l.length):=by rw [q7H,qlf]
theorem q3b {d who:Int} {l:List E9} {j:Int} {x:Option Int} (h:(j,x)∈q1c d who (ixs l)):x∈q0O d who (below l l.length):=by
 rw [←q8Q]
 exact List.mem_map.2 ⟨_,h,rfl⟩
theorem q34 {d who:Int} {l:List E9} {x:Option Int} (h:x∈q0O d who (below l l.length)):∃ j,(j,x)∈q1c d who (ixs l):=by
 rw [←q8Q] at h
 obtain ⟨⟨j,y⟩,h1,rfl⟩:=List.mem_map.1 h
 exact ⟨j,h1⟩
def tmF (d:Int) (has:Bool) (e:E9):T2:=if has=true then ⟨e.f1,e.t2⟩ else if d < e.f2 then ⟨e.f2,e.t2⟩ else ⟨e.f1,e.t1⟩
def qdu (S:Int→Option Int) (e:E9) (i:Nat):Bool:=match S e.a with
 | none=>true
 | some j=>decide (j=(i:Int))
def q0q (d:Int) (S:Int→Option Int) (l:List E9):List T2:=l.zipIdx.map fun p=>tmF d (qdu S p.1 p.2) p.1
theorem q61 (d:Int) (S:Int→Option Int) (l:List E9):(q0q d S l).length=l.length:=by simp [q0q]
def okE (e:E9):Prop:=e.f1≤e.f2∧e.f2≤e.t1∧e.t1≤e.t2
theorem tmF_in (d:Int) (has:Bool) {e:E9} (h:okE e):inT (tmF d has e) e=true:=by
 unfold okE at h
 unfold inT tmF
 split
 ·simp only [decide_eq_true_eq];omega
 ·split<;>simp only [decide_eq_true_eq]<;>omega
theorem qgo (d:Int) (S:Int→Option Int):∀ (l:List E9) (n:Nat),(∀ e∈l,okE e)→inL ((l.zipIdx n).map fun p=>tmF d (qdu S p.1 p.2) p.1) l=true
 | [],_,_=>rfl
 | e::l,n,h=>by
  rw [List.zipIdx_cons,List.map_cons,inL,tmF_in d _ (h e (by simp)),qgo d S l (n+1) fun x hx=>h x (by simp [hx])]
  rfl
theorem q7j (d:Int) (S:Int→Option Int) {l:List E9} (h:∀ e∈l,okE e):inL (q0q d S l) l=true:=qgo d S l 0 h
def qgE (d:Int) (S:Int→Option Int) (p:E9×Nat):E9:=fixE (tmF d (qdu S p.1 p.2) p.1) p.1
theorem qdi (d:Int) (S:Int→Option Int):∀ (l:List E9) (n:Nat),q1L ((l.zipIdx n).map fun p=>tmF d (qdu S p.1 p.2) p.1) l=(l.zipIdx n).map (qgE d S)
 | [],_=>rfl
 | e::l,n=>by
  rw [List.zipIdx_cons,List.map_cons,q1L,qdi d S l (n+1),List.map_cons]
  rfl
theorem qh6 (d:Int) (S:Int→Option Int) (l:List E9):below (q1L (q0q d S l) l) (q1L (q0q d S l) l).length=(ixs l).map (qgE d S):=by
 rw [q6j,q0q,qdi,ixs,List.map_reverse]
theorem qgD {d:Int} {has:Bool} {e:E9} (h:okE e):q1J (tmF d has e).b (tmF d has e).e d=((has&&q1J e.f1 e.t2 d)||q1h e.f2 e.t1 d):=by
 unfold okE at h
 unfold tmF q1J q1h
 rw [Bool.eq_iff_iff]
 cases has with
 | true =>
  simp only [if_true,Bool.true_and,Bool.or_eq_true,decide_eq_true_eq]
  omega
 | false =>
  simp only [Bool.false_eq_true,if_false,Bool.false_and,Bool.false_or,decide_eq_true_eq]
  split<;>simp only<;>omega
theorem qii {d:Int} {e:E9} (h:okE e) (hs:q1h e.f2 e.t1 d=true):q1J e.f1 e.t2 d=true:=by
 unfold okE at h
 unfold q1h at hs
 unfold q1J
 simp only [decide_eq_true_eq] at hs ⊢
 omega
theorem q9v (d who:Int) (S:Int→Option Int) (e:E9) (i:Nat) (r:List (E9×Nat)) (h:okE e) :
  q0O d who (((e,i)::r).map (qgE d S))=if e.a=who∧((qdu S e i&&q1J e.f1 e.t2 d)||q1h e.f2 e.t1 d)=true then [some e.b] else q0O d who (r.map (qgE d S)):=by
 rw [List.map_cons,q0O]
 have h1:(qgE d S (e,i)).a=e.a:=rfl
 have h2:(qgE d S (e,i)).b=e.b:=rfl
 have h3:q1J (qgE d S (e,i)).f1 (qgE d S (e,i)).t2 d=((qdu S e i&&q1J e.f1 e.t2 d)||q1h e.f2 e.t1 d):=qgD h
 have h4:q1h (qgE d S (e,i)).f2 (qgE d S (e,i)).t1 d=((qdu S e i&&q1J e.f1 e.t2 d)||q1h e.f2 e.t1 d):=qgD h
 rw [h1,h2,h3,h4]
 by_cases hc:e.a=who∧((qdu S e i&&q1J e.f1 e.t2 d)||q1h e.f2 e.t1 d)=true
 ·rw [if_pos hc,if_pos hc,if_pos hc.2]
 ·rw [if_neg hc,if_neg hc]
def Down:List (E9×Nat)→Prop
 | []=>True
 | p::r=>(∀ q∈r,q.2 < p.2)∧Down r
theorem qdt:∀ {l m:List (E9×Nat)},Down l→Down m→(∀ p∈l,∀ q∈m,q.2 < p.2)→Down (l++m)
 | [],_,_,h,_=>h
 | p::l,m,hl,hm,h=>⟨fun q hq=>by
   rcases List.mem_append.1 hq with hq | hq
   ·exact hl.1 q hq
   ·exact h p (by simp) q hq,qdt hl.2 hm fun p hp q hq=>h p (by simp [hp]) q hq⟩
theorem qds:∀ (l:List E9) (n:Nat),Down ((l.zipIdx n).reverse)
 | [],_=>trivial
 | e::l,n=>by
  rw [List.zipIdx_cons,List.reverse_cons]
  refine qdt (qds l (n+1)) ⟨(fun q hq=>by cases hq),trivial⟩ fun p hp q hq=>?_
  rw [List.mem_reverse] at hp
  rw [List.mem_singleton] at hq
  have:=List.le_snd_of_mem_zipIdx hp
  subst hq
  simp only
  omega
theorem qkY {l:List E9} {p:E9×Nat} (h:p∈ixs l):p.1∈l:=by
 rw [ixs,List.mem_reverse] at h
 exact List.fst_mem_of_mem_zipIdx h
theorem q5y {d who:Int}:∀ {l:List (E9×Nat)} {j:Int} {x:Option Int},(j,x)∈q1c d who l→j=-1∨∃ p∈l,j=(p.2:Int)
 | [],j,x,h=>by
  simp only [q1c,List.mem_singleton,Prod.mk.injEq] at h
  exact .inl h.1
 | (e,i)::r,j,x,h=>by
  simp only [q1c] at h
  split at h
  ·rcases List.mem_cons.1 h with h | h
   ·cases h;exact .inr ⟨(e,i),by simp,rfl⟩
   ·split at h
    ·cases h
    ·rcases q5y h with h | ⟨p,hp,h⟩
     ·exact .inl h
     ·exact .inr ⟨p,by simp [hp],h⟩
  ·rcases q5y h with h | ⟨p,hp,h⟩
   ·exact .inl h
   ·exact .inr ⟨p,by simp [hp],h⟩
theorem q7E {d who:Int} {S:Int→Option Int}:∀ {l:List (E9×Nat)} {j:Int} {x:Option Int},Down l→(∀ p∈l,okE p.1)→S who=some j→(j,x)∈q1c d who l→q0O d who (l.map (qgE d S))=[x]
 | [],j,x,_,_,_,h=>by
  simp only [q1c,List.mem_singleton,Prod.mk.injEq] at h
  rw [h.2];rfl
 | (e,i)::r,j,x,hd,hok,hS,h=>by
  have he:=hok (e,i) (by simp)
  rw [q9v d who S e i r he]
  simp only [q1c] at h
  by_cases hc:e.a=who∧q1J e.f1 e.t2 d=true
  ·rw [if_pos hc] at h
   have hdec:qdu S e i=decide (j=(i:Int)):=by unfold qdu;rw [hc.1,hS]
   rcases List.mem_cons.1 h with h | h
   ·cases h
    rw [if_pos ⟨hc.1,by rw [hdec,hc.2];simp⟩]
   ·split at h
    ·cases h
    ·rename_i hs
     have hj:j≠(i:Int):=by
      rcases q5y h with h1 | ⟨p,hp,h1⟩
      ·omega
      ·have:=hd.1 p hp
       omega
     rw [if_neg (by rw [hdec];simp [hj,hs])]
     exact q7E hd.2 (fun p hp=>hok p (by simp [hp])) hS h
  ·rw [if_neg hc] at h
   have hm:¬(e.a=who∧((qdu S e i&&q1J e.f1 e.t2 d)||q1h e.f2 e.t1 d)=true):=fun ⟨h1,h2⟩=>hc ⟨h1,by
    rw [Bool.or_eq_true,Bool.and_eq_true] at h2
    rcases h2 with h2 | h2
    ·exact h2.2
    ·exact qii he h2⟩
   rw [if_neg hm]
   exact q7E hd.2 (fun p hp=>hok p (by simp [hp])) hS h
section
variable {d who:Int} {S:Int→Option Int} {l:List E9}
theorem qai {j:Int} {x:Option Int} (hok:∀ e∈l,okE e) (hS:S who=some j) (h:(j,x)∈q1c d who (ixs l)):q0O d who (below (q1L (q0q d S l) l) (q1L (q0q d S l) l).length)=[x]:=by
 rw [qh6]
 exact q7E (qds l 0) (fun p hp=>hok _ (qkY hp)) hS h
theorem qfR (h:∀ e∈l,e.a≠who):q0O d who (below l l.length)=[none]:=q7F d who fun e he=>h e (q3e he)
theorem qkS (S:Int→Option Int) (h:∀ e∈l,e.a≠who):q0O d who (below (q1L (q0q d S l) l) (q1L (q0q d S l) l).length)=[none]:=by
 refine q7F d who fun e he=>?_
 have hm:=q3e he
 have:e.a∈(q1L (q0q d S l) l).map (·.a):=List.mem_map.2 ⟨e,hm,rfl⟩
 rw [qkg (q61 d S l)] at this
 obtain ⟨e',h1,h2⟩:=List.mem_map.1 this
 rw [←h2]
 exact h e' h1
end
end
section
def q2a (d who:Int) (S:Int→Option Int) (l:List E9) (Q:Option Int→Prop):Prop :=
 ∃ x,q0O d who (below (q1L (q0q d S l) l) (q1L (q0q d S l) l).length)=[x]∧x∈q0O d who (below l l.length)∧Q x
theorem q92 {d who:Int} {S:Int→Option Int} {l:List E9} {Q:Option Int→Prop} (hok:∀ e∈l,okE e)
  (h:(∀ e∈l,e.a≠who)∨∃ j x,S who=some j∧(j,x)∈q1c d who (ixs l)∧Q x) (h0:Q none∨∃ e∈l,e.a=who):q2a d who S l Q:=by
 by_cases hn:∃ e∈l,e.a=who
 ·rcases h with h | ⟨j,x,h1,h2,h3⟩
  ·obtain ⟨e,he,hw⟩:=hn
   exact absurd hw (h e he)
  ·exact ⟨x,qai hok h1 h2,q3b h2,h3⟩
 ·have hno:∀ e∈l,e.a≠who:=fun e he hw=>hn ⟨e,he,hw⟩
  refine ⟨none,qkS S hno,by rw [qfR hno];simp,?_⟩
  rcases h0 with h0 | h0
  ·exact h0
  ·exact absurd h0 hn
structure OkK (a b c:List E9):Prop where
 a:∀ e∈a,okE e
 b:∀ e∈b,okE e
 c:∀ e∈c,okE e
theorem OkK.true {a b c:List E9} (k:OkK a b c) (d:Int) (S B W:Int→Option Int):TrueT a b c (q0q d S a) (q0q d B b) (q0q d W c):=⟨q7j d S k.a,q7j d B k.b,q7j d W k.c⟩
structure Most (a b c:List E9) (o:List E5) (d f:Int) (S B W:Int→Option Int):Prop where
 ha:∀ p,q2a d p S a fun x=>((∃ h∈q0W d p a,h≠0)→f0 x≠0)∧((∃ h∈q0W d p a,h≠0∧f∈q07 d b h)→f∈q07 d b (f0 x))
 hb:∀ g,1≤g→g≤99→q2a d g B b fun x=>f∈q07 d b g→(x=none∧g=f)∨∃ w,x=some w∧f∈q07 d b w
 hc:∀ p,q2a d p W c fun x=>(none∈q0O d p (below c c.length)→x=none)∧((∃ y∈q0O d p (below c c.length),(q0v (q0U a c o d) y).1=true)→(q0v (q0U a c o d) x).1=true)
structure Few (a b c:List E9) (o:List E5) (d f:Int) (S B W:Int→Option Int):Prop where
 ha:∀ p,q2a d p S a fun x=>(0∈q0W d p a→f0 x=0)∧((∃ h∈q0W d p a,h=0∨q07 d b h≠[f])→f0 x=0∨q07 d b (f0 x)≠[f])
 hb:∀ g,1≤g→g≤99→q2a d g B b fun x=>q07 d b g≠[f]→(x=none∧g≠f)∨∃ w,x=some w∧q07 d b w≠[f]
 hc:∀ p,q2a d p W c fun x=>((∃ w,some w∈q0O d p (below c c.length))→x≠none)∧((∃ y∈q0O d p (below c c.length),(q0v (q0U a c o d) y).2=true)→(q0v (q0U a c o d) x).2=true)
section
variable {a b c:List E9} {o:List E5} {d f:Int} {S B W:Int→Option Int}
theorem q9G {p:Int} {x:Option Int} (h:q0O d p (below (q1L (q0q d S a) a) (q1L (q0q d S a) a).length)=[x]) (z:Int):z∈q0W d p (q1L (q0q d S a) a)↔z=f0 x:=by
 rw [q0p,h];simp
theorem q7m (hl:q5a b) (hk:∀ e∈b,okE e) {g:Int} (hg:1≤g) {x:Option Int} (h:q0O d g (below (q1L (q0q d B b) b) (q1L (q0q d B b) b).length)=[x]) (z:Int) :
  z∈q07 d (q1L (q0q d B b) b) g↔(x=none∧z=g)∨∃ w,x=some w∧z∈q07 d (q1L (q0q d B b) b) w:=by
 rw [q1w (q9A (q3l (q7j d B hk)) hl) hg,h]
 simp only [List.mem_singleton]
 constructor
 ·rintro (⟨h1,h2⟩ | ⟨w,h1,h2⟩)
  ·exact .inl ⟨h1.symm,h2⟩
  ·exact .inr ⟨w,h1.symm,h2⟩
 ·rintro (⟨h1,h2⟩ | ⟨w,h1,h2⟩)
  ·exact .inl ⟨h1.symm,h2⟩
  ·exact .inr ⟨w,h1.symm,h2⟩
theorem qgd (hl:q5a b) (hk:∀ e∈b,okE e) (m:Most a b c o d f S B W):∀ (n:Nat) (g:Int),g.toNat≤n→1≤g→g≤99→f∈q07 d b g→f∈q07 d (q1L (q0q d B b) b) g:=by
 intro n
 induction n with
 | zero=>intro g h1 h2;omega
 | succ n ih =>
  intro g h1 h2 h3 h
  obtain ⟨x,hx,hx2,hq⟩:=m.hb g h2 h3
  rw [q7m hl hk h2 hx]
  rcases hq h with ⟨e1,e2⟩ | ⟨w,rfl,e2⟩
  ·exact .inl ⟨e1,e2.symm⟩
  ·have:=q1S hl hx2
   exact .inr ⟨w,rfl,ih w (by omega) (by omega) (by omega) e2⟩
theorem qiT (hl:q5a b) (hk:∀ e∈b,okE e) (m:Few a b c o d f S B W):∀ (n:Nat) (g:Int),g.toNat≤n→1≤g→g≤99→q07 d b g≠[f]→f∉q07 d (q1L (q0q d B b) b) g:=by
 intro n
 induction n with
 | zero=>intro g h1 h2;omega
 | succ n ih =>
  intro g h1 h2 h3 h
  obtain ⟨x,hx,hx2,hq⟩:=m.hb g h2 h3
  rw [q7m hl hk h2 hx]
  rcases hq h with ⟨e1,e2⟩ | ⟨w,rfl,e2⟩
  ·rintro (⟨_,h5⟩ | ⟨w,h4,_⟩)
   ·exact e2 h5.symm
   ·rw [e1] at h4;cases h4
  ·have:=q1S hl hx2
   rintro (⟨h4,_⟩ | ⟨w',h4,h5⟩)
   ·cases h4
   ·cases h4
    exact ih w (by omega) (by omega) (by omega) e2 h5
theorem qfb (m:Most a b c o d f S B W) {p:Int} (h:(q0U a c o d p).1=true):(q0U (q1L (q0q d S a) a) (q1L (q0q d W c) c) o d p).1=true:=by
 obtain ⟨x,hx,_,q1,_⟩:=m.ha p
 obtain ⟨y,hy,_,q2,_⟩:=m.hc p
 unfold q0U at h ⊢
 by_cases hb:q8E d p o=true
 ·rw [if_pos hb] at h;cases h
 ·rw [if_neg hb] at h ⊢
  simp only [Bool.and_eq_true,q1N,decide_eq_true_eq,q6D] at h ⊢
  obtain ⟨⟨z,hz,hz0⟩,hn⟩:=h
  obtain ⟨n,hn,hn2⟩:=hn
  have hn:none∈q0O d p (below c c.length):=by cases n with | none=>exact hn | some w=>cases hn2
  rw [hx,hy,q2 hn]
  exact ⟨⟨x,by simp,q1 ⟨f0 z,(q0p ..).2 ⟨z,hz,rfl⟩,hz0⟩⟩,by simp⟩
theorem qi7 (m:Few a b c o d f S B W) {p:Int} (h:(q0U a c o d p).2=true):(q0U (q1L (q0q d S a) a) (q1L (q0q d W c) c) o d p).2=true:=by
 obtain ⟨x,hx,_,q1,_⟩:=m.ha p
 obtain ⟨y,hy,_,q2,_⟩:=m.hc p
 unfold q0U at h ⊢
 by_cases hb:q8E d p o=true
 ·rw [if_pos hb]
 ·rw [if_neg hb] at h ⊢
  simp only [Bool.or_eq_true,q1N,decide_eq_true_eq,q6C] at h ⊢
  rw [hx,hy]
  rcases h with ⟨z,hz,hz0⟩ | h
  ·exact .inl ⟨x,by simp,q1 ((q0p ..).2 ⟨z,hz,hz0.symm⟩)⟩
  ·right
   cases hy2:y with
   | none =>
    obtain ⟨u,hu,hu2⟩:=h
    cases u with
    | none=>cases hu2
    | some w=>exact absurd hy2 (q2 ⟨w,hu⟩)
   | some w=>exact ⟨some w,by simp,rfl⟩
theorem qlk (m:Most a b c o d f S B W) {p:Int} (h:(goP a c o d p).1=true):(goP (q1L (q0q d S a) a) (q1L (q0q d W c) c) o d p).1=true:=by
 obtain ⟨y,hy,_,_,q2⟩:=m.hc p
 unfold goP at h ⊢
 by_cases hb:q8E d p o=true
 ·rw [if_pos hb] at h;cases h
 ·rw [if_neg hb] at h ⊢
  simp only [q1N] at h ⊢
  have hq:=q2 h
  rw [hy]
  refine ⟨y,by simp,?_⟩
  cases y with
  | none=>rfl
  | some z =>
   simp only [q0v] at hq ⊢
   by_cases hz:z=0
   ·rw [if_pos hz] at hq;cases hq
   ·rw [if_neg hz] at hq ⊢
    exact qfb m hq
theorem go_few (m:Few a b c o d f S B W) {p:Int} (h:(goP a c o d p).2=true):(goP (q1L (q0q d S a) a) (q1L (q0q d W c) c) o d p).2=true:=by
 obtain ⟨y,hy,_,_,q2⟩:=m.hc p
 unfold goP at h ⊢
 by_cases hb:q8E d p o=true
 ·rw [if_pos hb]
 ·rw [if_neg hb] at h ⊢
  simp only [q1N] at h ⊢
  have hq:=q2 h
  rw [hy]
  refine ⟨y,by simp,?_⟩
  cases y with
  | none=>cases hq
  | some z =>
   simp only [q0v] at hq ⊢
   by_cases hz:z=0
   ·rw [if_pos hz]
   ·rw [if_neg hz] at hq ⊢
    exact qi7 m hq
theorem qbj (g:GoodK a b c o) (k:OkK a b c) (d:Int) (S B W:Int→Option Int) (p:Int):q2n (q1L (q0q d S a) a) (q1L (q0q d B b) b) (q1L (q0q d W c) c) o d p=[qhJ a b c o (q0q d S a) (q0q d B b) (q0q d W c) d p]:=by
 have t:=k.true d S B W
 have g':=g.nar (q3l t.a) (q3l t.b) (q3l t.c)
 exact qjI (q6b _ a) (q6b _ b) (q6b _ c) g'.less g'.fam
theorem qig (g:GoodK a b c o) (k:OkK a b c) (m:Most a b c o d f S B W) (hf:f≠0) {p:Int} (h:f∈q2n a b c o d p):qhJ a b c o (q0q d S a) (q0q d B b) (q0q d W c) d p=f:=by
 have e:=qbj g k d S B W p
 rw [q1P] at h
 rcases h with ⟨h,_⟩ | ⟨h1,h',h2,h3,h4⟩
 ·exact absurd h hf
 ·obtain ⟨x,hx,hxo,q1,q2⟩:=m.ha p
  have hh:=q2 ⟨h',h2,h3,h4⟩
  have hx0:=q1 ⟨h',h2,h3⟩
  have hr:=q1T g.fam ((q0p ..).2 ⟨x,hxo,rfl⟩)
  have:f∈q2n (q1L (q0q d S a) a) (q1L (q0q d B b) b) (q1L (q0q d W c) c) o d p:=q1P.2 (.inr ⟨qlk m h1,f0 x,(q9G hx _).2 rfl,hx0,qgd g.less k.b m _ _ (Nat.le_refl _) (by omega) (by omega) hh⟩)
  rw [e,List.mem_singleton] at this
  exact this.symm
theorem qkF (g:GoodK a b c o) (k:OkK a b c) (m:Few a b c o d f S B W) (hf:f≠0) {p:Int} (h:qhJ a b c o (q0q d S a) (q0q d B b) (q0q d W c) d p=f):q2n a b c o d p=[f]:=by
 have e:=qbj g k d S B W p
 have hm:f∈q2n (q1L (q0q d S a) a) (q1L (q0q d B b) b) (q1L (q0q d W c) c) o d p:=by rw [e,h];simp
 rw [q1P] at hm
 rcases hm with ⟨hm,_⟩ | ⟨h1,h',h2,h3,h4⟩
 ·exact absurd hm hf
 ·obtain ⟨x,hx,hxo,q1,q2⟩:=m.ha p
  rw [q9G hx] at h2
  subst h2
  have hr:=q1T g.fam ((q0p ..).2 ⟨x,hxo,rfl⟩)
  have hall:∀ h∈q0W d p a,h≠0∧q07 d b h=[f]:=by
   intro h hh
   by_cases hn:h=0∨q07 d b h≠[f]
   ·exfalso
    rcases q2 ⟨h,hh,hn⟩ with e1 | e1
    ·exact h3 e1
    ·exact qiT g.less k.b m _ _ (Nat.le_refl _) (by omega) (by omega) e1 h4
   ·exact ⟨fun e1=>hn (.inl e1),Classical.not_not.1 fun e1=>hn (.inr e1)⟩
  have hgo:(goP a c o d p).2≠true:=fun h5=>by
   have h6:=go_few m h5
   have:=go_pt (o:=o) (d:=d) (p:=p) (q6b (q0q d S a) a) (q6b (q0q d W c) c)
   rw [h6,h1] at this
   cases this
  refine (qd2 (q4c ..) (q8Z g.fam g.less)).2 fun z hz=>?_
  rw [q1P] at hz
  rcases hz with ⟨_,h5 | h5⟩ | ⟨_,h,h5,_,h7⟩
  ·exact absurd rfl (hall 0 h5).1
  ·exact absurd h5 hgo
  ·rw [(hall h h5).2,List.mem_singleton] at h7
   exact h7
end
end
section
inductive Chain (d f:Int) (b:List E9) (B:Int→Option Int):Int→Prop where
 | stop {g:Int}:q2a d g B b (fun x=>x=none)→g=f→Chain d f b B g
 | step {g w:Int}:q2a d g B b (fun x=>x=some w)→Chain d f b B w→Chain d f b B g
structure ShowP (a b c:List E9) (o:List E5) (d f p:Int) (S B W:Int→Option Int):Prop where
 bar:q8E d p o=false
 ha:q2a d p S a fun x=>f0 x≠0∧Chain d f b B (f0 x)
 hc:q2a d p W c fun y=>y=none∨∃ z,y=some z∧z≠0∧q8E d z o=false∧q2a d z S a (fun x=>f0 x≠0)∧q2a d z W c (fun x=>x=none)
section
variable {a b c:List E9} {o:List E5} {d f p:Int} {S B W:Int→Option Int}
theorem qeK (hl:q5a b) (hk:∀ e∈b,okE e) {g:Int} (h:Chain d f b B g):1≤g→f∈q07 d (q1L (q0q d B b) b) g:=by
 induction h with
 | stop h e =>
  intro hg
  obtain ⟨x,hx,_,hq⟩:=h
  rw [q7m hl hk hg hx]
  exact .inl ⟨hq,e.symm⟩
 | step h _ ih =>
  intro hg
  obtain ⟨x,hx,hxo,hq⟩:=h
  subst hq
  rw [q7m hl hk hg hx]
  have:=q1S hl hxo
  exact .inr ⟨_,rfl,ih (by omega)⟩
theorem qif (g:GoodK a b c o) (k:OkK a b c) (m:ShowP a b c o d f p S B W):qhJ a b c o (q0q d S a) (q0q d B b) (q0q d W c) d p=f:=by
 have e:=qbj g k d S B W p
 obtain ⟨x,hx,hxo,q1,q2⟩:=m.ha
 obtain ⟨y,hy,_,hq⟩:=m.hc
 have hr:=q1T g.fam ((q0p ..).2 ⟨x,hxo,rfl⟩)
 have hgo:(goP (q1L (q0q d S a) a) (q1L (q0q d W c) c) o d p).1=true:=by
  unfold goP
  rw [if_neg (by rw [m.bar];simp),hy]
  simp only [List.any_cons,List.any_nil,Bool.or_false]
  rcases hq with rfl | ⟨z,rfl,hz,hb,⟨u,hu,_,hu2⟩,⟨v,hv,_,hv2⟩⟩
  ·rfl
  ·simp only [q0v,if_neg hz]
   unfold q0U
   rw [if_neg (by rw [hb];simp),hu,hv]
   subst hv2
   simp [hu2]
 have hm:f∈q2n (q1L (q0q d S a) a) (q1L (q0q d B b) b) (q1L (q0q d W c) c) o d p:=q1P.2 (.inr ⟨hgo,f0 x,(q9G hx _).2 rfl,q1,qeK g.less k.b q2 (by omega)⟩)
 rw [e,List.mem_singleton] at hm
 exact hm.symm
end
end
section
abbrev q3u:=List (Int×Int)
def mq (l:q3u):Mr:=(l.map fun p=>.int .i64 p.1,l.map fun p=>[il p.2])
def dM (l:q3u):D:=.mp false (mq l).1 (mq l).2
def q1K:q3u→Int→Option Int
 | [],_=>none
 | p::l,f=>if p.1=f then some p.2 else q1K l f
def q4q:q3u→Int→Int→q3u
 | [],f,z=>[(f,z)]
 | p::l,f,z=>if p.1=f then (f,z)::l else p::q4q l f z
theorem q1C (f z g:Int):∀ l:q3u,q1K (q4q l f z) g=if g=f then some z else q1K l g
 | []=>by
  simp only [q4q,q1K]
  by_cases h:g=f
  ·simp [h]
  ·rw [if_neg h,if_neg (Ne.symm h)]
 | p::l=>by
  simp only [q4q]
  by_cases hp:p.1=f
  ·rw [if_pos hp]
   simp only [q1K]
   by_cases h:g=f
   ·simp [h]
   ·rw [if_neg h,if_neg (Ne.symm h),if_neg (by rw [hp];exact Ne.symm h)]
  ·rw [if_neg hp]
   simp only [q1K,q1C f z g l]
   by_cases h:p.1=g
   ·rw [if_pos h,if_pos h,if_neg (fun e=>hp (h.trans e))]
   ·rw [if_neg h,if_neg h]
def qf3:q3u→Int→Option Nat
 | [],_=>none
 | p::l,f=>if p.1=f then some 0 else (qf3 l f).map (·+1)
theorem q9L (f:Int):∀ (l:q3u) (i:Nat),q3f 0 (.int .i64 f) (l.map fun p=>.int .i64 p.1) i=some ((qf3 l f).map (i+·))
 | [],i=>rfl
 | p::l,i=>by
  have e:q3f 0 (.int .i64 f) ((p::l).map fun p=>Value.int .i64 p.1) i=if f=p.1 then some (some i) else q3f 0 (.int .i64 f) (l.map fun p=>.int .i64 p.1) (i+1):=by
   simp only [List.map_cons,q3f,kEq,if_true]
   by_cases hfg:f=p.1
   ·rw [←hfg];simp
   ·have:(f==p.1)=false:=by simp [hfg]
    simp [this,hfg]
  rw [e,q9L f l (i+1)]
  simp only [qf3]
  by_cases h:f=p.1
  ·rw [if_pos h,if_pos h.symm];rfl
  ·rw [if_neg h,if_neg (Ne.symm h)]
   cases qf3 l f with
   | none=>rfl
   | some j=>simp only [Option.map_some];congr 2;omega
theorem qgr (f:Int):∀ l:q3u,match qf3 l f with
  | some j=>∃ z,(l.map fun p=>[il p.2])[j]?=some [il z]∧q1K l f=some z
  | none=>q1K l f=none
 | []=>rfl
 | p::l=>by
  have ih:=qgr f l
  simp only [qf3,q1K]
  by_cases h:p.1=f
  ·rw [if_pos h,if_pos h]
   exact ⟨p.2,by simp,rfl⟩
  ·rw [if_neg h,if_neg h]
   cases hi:qf3 l f with
   | none=>rw [hi] at ih;exact ih
   | some j =>
    rw [hi] at ih
    obtain ⟨z,h1,h2⟩:=ih
    exact ⟨z,by simpa using h1,h2⟩
theorem look_q (l:q3u) (f:Int):q79 0 [.int .i64 0] (mq l) (il f)=some (match q1K l f with | some z=>([il z],bl true) | none=>([il 0],bl false)):=by
 have h1:=q9L f l 0
 have h2:=qgr f l
 simp only [q79,qhO,il,q6E,if_true,mq,h1]
 cases hi:qf3 l f with
 | none =>
  rw [hi] at h2
  simp only [Option.map_none,h2];rfl
 | some j =>
  rw [hi] at h2
  obtain ⟨z,h3,h4⟩:=h2
  simp only [il] at h3
  simp only [Option.map_some,Nat.zero_add,h3,h4];rfl
theorem qgq (f z:Int):∀ l:q3u,match qf3 l f with
  | some j=>((mq l).1,(mq l).2.set j [il z])=mq (q4q l f z)
  | none=>((mq l).1++[.int .i64 f],(mq l).2++[[il z]])=mq (q4q l f z)
 | []=>rfl
 | p::l=>by
  have ih:=qgq f z l
  simp only [qf3,q4q]
  by_cases h:p.1=f
  ·rw [if_pos h,if_pos h]
   simp [mq,h]
  ·rw [if_neg h,if_neg h]
   cases hi:qf3 l f with
   | none =>
    rw [hi] at ih
    simp only [mq,Prod.mk.injEq] at ih
    simp only [Option.map_none,mq,List.map_cons,List.cons_append,ih.1,ih.2]
   | some j =>
    rw [hi] at ih
    simp only [mq,Prod.mk.injEq] at ih
    simp only [Option.map_some,mq,List.map_cons,List.set_cons_succ,ih.1,ih.2]
theorem upd_q (l:q3u) (f z:Int):qhI 0 (mq l) (il f) [il z]=some (mq (q4q l f z)):=by
 have h1:=q9L f l 0
 have h2:=qgq f z l
 simp only [qhI,qhO,il,q6E,if_true,mq,h1]
 cases hi:qf3 l f with
 | none =>
  rw [hi] at h2
  simp only [Option.map_none]
  exact congrArg some h2
 | some j =>
  rw [hi] at h2
  simp only [Option.map_some,Nat.zero_add]
  exact congrArg some h2
section
variable {Fn:Nat→List D→Out} {FnD:D→List Sh→List D→Out} {m:Nat}
theorem qfF (l:q3u) (f:Int) (k:List D→D→Out):(q05 Fn FnD m).look 0 [.int .i64 0] (mq l) (il f) k=match q1K l f with | some z=>k [il z] (bl true) | none=>k [il 0] (bl false):=by
 rw [r_look _ _ _ _ _ _ (look_q l f)]
 cases q1K l f<;>rfl
theorem q1D (l:q3u) (f z:Int) (k:Mr→Out):(q05 Fn FnD m).upd 0 (mq l) (il f) [il z] k=k (mq (q4q l f z)):=r_upd _ _ _ _ _ _ (upd_q l f z)
theorem qah (l:q3u) (k:Mr→Out):(q05 Fn FnD m).asM false (dM l) k=k (mq l):=rfl
theorem q8z (l:q3u):(q05 Fn FnD m).mpD false (mq l)=dM l:=rfl
end
theorem s198 (n:Nat) (l:q3u) (w:Int) (e:E9) (i:Nat) (h:e.a=w):FN (n+1) 198 [dM l,il w,il i]=some (0,[.d (bl (qdu (q1K l) e i))]):=by
 rw [FS,qmb]
 simp only [G198,qah,qfF,qdu,h]
 cases q1K l w<;>simp
theorem s197 (n:Nat) (e:E9) (d:Int) (has:Bool):FN (n+1) 197 [il e.f1,il e.f2,il e.t1,il e.t2,il d,bl has]=some (0,[.d (il (tmF d has e).b),.d (il (tmF d has e).e)]):=by
 rw [FS,qmc]
 simp only [G197,q00,q2r,q0c,tmF,decide_eq_true_eq]
 cases has with
 | true=>simp
 | false =>
  simp only [Bool.false_eq_true,if_false]
  split<;>rfl
end
section
theorem q52 {d:Int} {S:Int→Option Int} {l:List E9} {i:Nat} {t:T2} (h:(q0q d S l)[i]?=some t):∃ e,l[i]?=some e∧t=tmF d (qdu S e i) e:=by
 unfold q0q at h
 rw [List.getElem?_map,Option.map_eq_some_iff] at h
 obtain ⟨⟨e,j⟩,h1,rfl⟩:=h
 rw [List.getElem?_zipIdx,Option.map_eq_some_iff] at h1
 obtain ⟨e',h2,h3⟩:=h1
 rw [Nat.zero_add] at h3
 cases h3
 exact ⟨e,h2,rfl⟩
section
variable (n:Nat) (d:Int) (S:q3u) (o:Option (List E9)) (hl:(o.getD []).length≤60)
include hl
theorem l148_0 (x0 x1 x2 x3 B W:D) :
  q0o [qb5 (RP (n+1)),qb4 (RP (n+1))] M0 0 [.d x0,.d x1,.d x2,.d x3,.d (il d),.d (d9 o),.d (il (o.getD []).length),.d (il 0),.d (dM S),.d B,.d W] =
  q8d [.d x0,.d x1,.d x2,.d x3,.d (il d),.d (dM S),.d B,.d W] (fun rs=>[.d x0,.d x1,.d x2,.d x3,.d (il d),.r rs,.n rs.length,.n rs.length,.d (dM S),.d B,.d W]) ((q0q d (q1K S) (o.getD [])).map rT):=by
 have hlen:=q61 d (q1K S) (o.getD [])
 have:=q3m (q0q d (q1K S) (o.getD [])) (by omega) (fun t=>some (rT t)) (qb5 (RP (n+1))) (qb4 (RP (n+1))) (fun i=>[.d x0,.d x1,.d x2,.d x3,.d (il d),.d (d9 o),.d (il (o.getD []).length),.d (il (i:Nat)),.d (dM S),.d B,.d W]) (fun i rs=>[.d x0,.d x1,.d x2,.d x3,.d (il d),.d (d9 o),.d (il (o.getD []).length),.d (il (i:Nat)),.r rs,.n rs.length,.n rs.length,.d (dM S),.d B,.d W]) [.d x0,.d x1,.d x2,.d x3,.d (il d),.d (dM S),.d B,.d W] (fun rs=>[.d x0,.d x1,.d x2,.d x3,.d (il d),.r rs,.n rs.length,.n rs.length,.d (dM S),.d B,.d W]) ?_ ?_ ?_ ?_
 ·simpa using this
 ·intro q;simp [qb5,hlen]
 ·intro rs q;simp [qb4,hlen]
 ·intro i t q hi hlt hw
  obtain ⟨e,he,rfl⟩:=q52 hi
  rw [hlen] at hlt
  simp only [qb5,q02,q06,q0A,q00,hlt,decide_true,if_true,q5N he,r9,q0b,q0j,q08,s198 n S _ e i rfl,s197 n e,q01,q1o,q0B,q0C,q0K,q0J,List.length_cons,List.length_nil,List.take_succ_cons,List.take_zero,q28,q1j,q04,q0s,hw]
  rw [if_pos (by simp)]
  rfl
 ·intro i t rs q hi hlt hw hrs
  obtain ⟨e,he,rfl⟩:=q52 hi
  rw [hlen] at hlt
  simp only [qb4,q02,q06,q0Q,q0P,q0G,q0Z,q0A,q00,hlt,decide_true,if_true,q5N he,r9,q0b,q0j,q08,s198 n S _ e i rfl,s197 n e,q01,q1o,q0B,q0C,q0K,q0J,List.length_cons,List.length_nil,List.take_succ_cons,List.take_zero,q1j,q04,q0s,hw,q2c,q4f,List.length_append]
  rw [if_pos (by simp;omega)]
  rfl
theorem l148_1 (x0 x1 x2 x3 ta S0 W:D) :
  q0o [qb3 (RP (n+1)),qb2 (RP (n+1))] M0 0 [.d x0,.d x1,.d x2,.d x3,.d (il d),.d (d9 o),.d (il (o.getD []).length),.d (il 0),.d ta,.d S0,.d (dM S),.d W] =
  q8d [.d x0,.d x1,.d x2,.d x3,.d (il d),.d ta,.d S0,.d (dM S),.d W] (fun rs=>[.d x0,.d x1,.d x2,.d x3,.d (il d),.r rs,.d ta,.n rs.length,.n rs.length,.d S0,.d (dM S),.d W]) ((q0q d (q1K S) (o.getD [])).map rT):=by
 have hlen:=q61 d (q1K S) (o.getD [])
 have:=q3m (q0q d (q1K S) (o.getD [])) (by omega) (fun t=>some (rT t)) (qb3 (RP (n+1))) (qb2 (RP (n+1))) (fun i=>[.d x0,.d x1,.d x2,.d x3,.d (il d),.d (d9 o),.d (il (o.getD []).length),.d (il (i:Nat)),.d ta,.d S0,.d (dM S),.d W]) (fun i rs=>[.d x0,.d x1,.d x2,.d x3,.d (il d),.d (d9 o),.d (il (o.getD []).length),.d (il (i:Nat)),.r rs,.d ta,.n rs.length,.n rs.length,.d S0,.d (dM S),.d W]) [.d x0,.d x1,.d x2,.d x3,.d (il d),.d ta,.d S0,.d (dM S),.d W] (fun rs=>[.d x0,.d x1,.d x2,.d x3,.d (il d),.r rs,.d ta,.n rs.length,.n rs.length,.d S0,.d (dM S),.d W]) ?_ ?_ ?_ ?_
 ·simpa using this
 ·intro q;simp [qb3,hlen]
 ·intro rs q;simp [qb2,hlen]
 ·intro i t q hi hlt hw
  obtain ⟨e,he,rfl⟩:=q52 hi
  rw [hlen] at hlt
  simp only [qb3,q02,q06,q0A,q00,hlt,decide_true,if_true,q5N he,r9,q0b,q0j,q08,s198 n S _ e i rfl,s197 n e,q01,q1o,q0B,q0C,q0K,q0J,List.length_cons,List.length_nil,List.take_succ_cons,List.take_zero,q28,q1j,q04,q0s,hw]
  rw [if_pos (by simp)]
  rfl
 ·intro i t rs q hi hlt hw hrs
  obtain ⟨e,he,rfl⟩:=q52 hi
  rw [hlen] at hlt
  simp only [qb2,q02,q06,q0Q,q0P,q0G,q0Z,q0A,q00,hlt,decide_true,if_true,q5N he,r9,q0b,q0j,q08,s198 n S _ e i rfl,s197 n e,q01,q1o,q0B,q0C,q0K,q0J,List.length_cons,List.length_nil,List.take_succ_cons,List.take_zero,q1j,q04,q0s,hw,q2c,q4f,List.length_append]
  rw [if_pos (by simp;omega)]
  rfl
theorem l148_2 (ta tb S0 B:D) :
  q0o [qb1 (RP (n+1)),qb0 (RP (n+1))] M0 0 [.d (il d),.d (d9 o),.d (il (o.getD []).length),.d (il 0),.d ta,.d tb,.d S0,.d B,.d (dM S)] =
  q8d [.d ta,.d tb] (fun rs=>[.r rs,.d ta,.d tb,.n rs.length,.n rs.length]) ((q0q d (q1K S) (o.getD [])).map rT):=by
 have hlen:=q61 d (q1K S) (o.getD [])
 have:=q3m (q0q d (q1K S) (o.getD [])) (by omega) (fun t=>some (rT t)) (qb1 (RP (n+1))) (qb0 (RP (n+1))) (fun i=>[.d (il d),.d (d9 o),.d (il (o.getD []).length),.d (il (i:Nat)),.d ta,.d tb,.d S0,.d B,.d (dM S)]) (fun i rs=>[.d (il d),.d (d9 o),.d (il (o.getD []).length),.d (il (i:Nat)),.r rs,.d ta,.d tb,.n rs.length,.n rs.length,.d S0,.d B,.d (dM S)]) [.d ta,.d tb] (fun rs=>[.r rs,.d ta,.d tb,.n rs.length,.n rs.length]) ?_ ?_ ?_ ?_
 ·simpa using this
 ·intro q;simp [qb1,hlen]
 ·intro rs q;simp [qb0,hlen]
 ·intro i t q hi hlt hw
  obtain ⟨e,he,rfl⟩:=q52 hi
  rw [hlen] at hlt
  simp only [qb1,q02,q06,q0A,q00,hlt,decide_true,if_true,q5N he,r9,q0b,q0j,q08,s198 n S _ e i rfl,s197 n e,q01,q1o,q0B,q0C,q0K,q0J,List.length_cons,List.length_nil,List.take_succ_cons,List.take_zero,q28,q1j,q04,q0s,hw]
  rw [if_pos (by simp)]
  rfl
 ·intro i t rs q hi hlt hw hrs
  obtain ⟨e,he,rfl⟩:=q52 hi
  rw [hlen] at hlt
  simp only [qb0,q02,q06,q0Q,q0P,q0G,q0Z,q0A,q00,hlt,decide_true,if_true,q5N he,r9,q0b,q0j,q08,s198 n S _ e i rfl,s197 n e,q01,q1o,q0B,q0C,q0K,q0J,List.length_cons,List.length_nil,List.take_succ_cons,List.take_zero,q1j,q04,q0s,hw,q2c,q4f,List.length_append]
  rw [if_pos (by simp;omega)]
  rfl
end
theorem s148 (n:Nat) (d:Int) (S B W:q3u) (a b c:Option (List E9)) (o:Option (List E5)) (ha:(a.getD []).length≤60) (hb:(b.getD []).length≤60) (hc:(c.getD []).length≤60) :
  FN (n+2) 148 [d9 a,d9 b,d9 c,d5 o,dM S,dM B,dM W,il d]=some (0,[.d (dT (nzO (q0q d (q1K S) (a.getD [])))),.d (dT (nzO (q0q d (q1K B) (b.getD [])))),.d (dT (nzO (q0q d (q1K W) (c.getD []))))]):=by
 rw [FS,qmF]
 simp only [G148,q01,q02,q06,q5A,q04,q0r]
 rw [l148_0 n d S a ha,qlH (R:=fun t=>some (0,[.d (d9 a),.d (d9 b),.d (d9 c),.d (d5 o),.d (il d),.d t,.d (dM S),.d (dM B),.d (dM W)])) (by simp) (by intros;simp)]
 simp only [q01,q02,q06,q5A]
 rw [l148_1 n d B b hb,qlH (R:=fun t=>some (0,[.d (d9 a),.d (d9 b),.d (d9 c),.d (d5 o),.d (il d),.d (dT (nzO (q0q d (q1K S) (a.getD [])))),.d t,.d (dM S),.d (dM B),.d (dM W)])) (by simp) (by intros;simp)]
 simp only [q01,q02,q06,q5A]
 rw [l148_2 n d W c hc,qlH (R:=fun t=>some (0,[.d (dT (nzO (q0q d (q1K S) (a.getD [])))),.d (dT (nzO (q0q d (q1K B) (b.getD [])))),.d t])) (by simp) (by intros;simp)]
end
section
def rAw (W:Int→Bool×Bool) (most:Bool):Option Int→Int
 | none=>if most=true then 2 else 0
 | some z=>if most=true then (if (q0v W (some z)).1=true then 1 else 0) else (if (q0v W (some z)).2=true then 2 else 1)
theorem s147 (n:Nat) (a b c:Option (List E9)) (o:Option (List E5)) (j z d:Int) (most:Bool) (hd:0≤d∧d≤4166) (ha:(a.getD []).length≤1000000) (hc:(c.getD []).length≤1000000) (ho:(o.getD []).length≤1000000) :
  FN (n+7) 147 [d9 a,d9 b,d9 c,d5 o,il j,il z,il d,bl most]=some (0,[.d (il (rAw (q0U (a.getD []) (c.getD []) (o.getD []) d) most (if j < 0 then none else some z)))]):=by
 rw [FS,qmG]
 have h:=s196 n a b c o d z hd ha hc ho
 simp only [G147,q04,q0A,q00,q0c,decide_eq_true_eq]
 by_cases hj:j < 0
 ·rw [if_pos hj,if_pos hj]
  cases most<;>rfl
 ·rw [if_neg hj,if_neg hj]
  simp only [q0Y,q00,decide_eq_true_eq,q08,h,q01,q02,q06,q0c,q0D]
  by_cases hz:z=0
  ·subst hz
   cases most<;>simp [rAw,q0v]
  ·simp only [ne_eq,hz,not_false_eq_true,if_true,q01,q02,q06,rAw,q0v,if_neg hz,q00,q0z]
   rcases q0U (a.getD []) (c.getD []) (o.getD []) d z with ⟨y,w⟩
   cases most<;>cases y<;>cases w<;>rfl
def rHm (L:Int→List Int) (f:Int) (most:Bool) (z:Int):Int :=
 if z=0 then (if most=true then 0 else 2) else if most=true then (if f∈L z then 2 else 1) else (if L z=[f] then 0 else 1)
def rBd (L:Int→List Int) (f:Int) (most:Bool) (g:Int) (x:Option Int):Int :=
 if most=true then (if f∈(match x with | none=>[g] | some w=>L w) then 1 else 0) else (if (match x with | none=>[g] | some w=>L w)=[f] then 0 else 1)
theorem qkT {L:List Int} {f:Int} (hne:∃ z,z∈L):(f∈L∧¬ 1 < L.length)↔L=[f]:=by
 constructor
 ·rintro ⟨h1,h2⟩
  match L,h1,h2 with
  | [x],h1,_=>rw [List.mem_singleton] at h1;rw [h1]
  | _::_::_,_,h2=>simp at h2
 ·rintro rfl;simp
section
variable (n:Nat) (a b c:Option (List E9)) (o:Option (List E5)) (d f:Int) (most:Bool) (hb:q5a (b.getD [])) (hl:(b.getD []).length≤1000000)
include hb hl
theorem qcD (j z:Int) (hz:z=0∨(1≤z∧z≤99)) (q:Mr) (hq:q2H d (b.getD []) q) :
  ∃ q':Mr,q2H d (b.getD []) q'∧FN (n+106) 1000144 [q0e a b c o,il d,.mp false q.1 q.2,il j,il z,il f,q0e a b c o,il d,bl most]=some (0,[.d (il (rHm (q07 d (b.getD [])) f most z)),.d (q0e a b c o),.d (il d),.d (.mp false q'.1 q'.2)]):=by
 by_cases h0:z=0
 ·subst h0
  refine ⟨q,hq,?_⟩
  rw [FS,q8u]
  simp only [q9U,q1I,q04,q1a,decide_true,q00,if_true,q1H,q0c,rHm]
  cases most<;>rfl
 ·have hz:1≤z∧z≤99:=hz.resolve_left h0
  obtain ⟨q',hq',h161⟩:=s161 a b c o d hb hl 100 n z q hz.1 (by omega) hz.2 hq
  refine ⟨q',hq',?_⟩
  obtain ⟨y,hy⟩:=q3h hb (d:=d) _ z (Nat.le_refl _) hz.1
  have hlen:(q07 d (b.getD []) z).length≤1000000:=by
   have:=q5J (q3N d (b.getD []) z) fun x hx=>by
    have:=q1d hb _ z x (Nat.le_refl _) hz.1 hx
    omega
   omega
  have h149:=s149 (n+103) (some (q07 d (b.getD []) z)) f (by simp only [Option.getD_some];omega)
  simp only [Option.getD_some] at h149
  have h1:=qkT (f:=f) ⟨y,hy⟩
  rw [FS,q8u]
  have h161':FN (n+105) 1000161 [q0e a b c o,il d,.mp false q.1 q.2,il z,q0e a b c o,il d]=some (0,[.d (dI (some (q07 d (b.getD []) z))),.d (q0e a b c o),.d (il d),.d (.mp false q'.1 q'.2)]):=h161
  simp only [q9U,q1I,q04,q1a,h0,decide_false,q00,Bool.false_eq_true,if_false,q1H,q08,h161',q01,q02,q06,h149,q0c,q0D]
  simp only [rHm,if_neg h0]
  cases most with
  | true =>
   simp only [if_true,q01,q02,q06,q0S,q0R,q00,q0c,q1H,decide_eq_true_eq]
   split<;>rfl
  | false =>
   simp only [Bool.false_eq_true,if_false,q01,q02,q06,q0S,q0R,q00,q0z,q0c,q1H,q6o,Option.getD_some,q2r,Bool.not_eq_true',decide_eq_false_iff_not,decide_eq_true_eq]
   by_cases hf:f∈q07 d (b.getD []) z
   ·rw [if_neg (by simpa using hf)]
    by_cases h2:1 < (q07 d (b.getD []) z).length
    ·rw [if_pos (by omega),if_neg (fun e=>(h1.2 e).2 h2)]
    ·rw [if_neg (by omega),if_pos (h1.1 ⟨hf,h2⟩)]
   ·rw [if_pos (by simpa using hf),if_neg (fun e=>hf (h1.2 e).1)]
theorem q7g (j z g:Int) (hz:j < 0∨(1≤z∧z≤99)) (q:Mr) (hq:q2H d (b.getD []) q) (K:D) :
  ∃ q':Mr,q2H d (b.getD []) q'∧FN (n+106) 1000141 [q0e a b c o,il d,.mp false q.1 q.2,K,il j,il z,il g,il f,q0e a b c o,il d,bl most]=some (0,[.d (il (rBd (q07 d (b.getD [])) f most g (if j < 0 then none else some z))),.d (q0e a b c o),.d (il d),.d (.mp false q'.1 q'.2)]):=by
 rw [FS,qcf]
 by_cases hj:j < 0
 ·refine ⟨q,hq,?_⟩
  have h149:=s149 (n+103) (some [g]) f (by simp)
  simp only [Option.getD_some,List.mem_singleton] at h149
  have h149':FN (n+105) 149 [.sl 1 [[il g]],il f]=some (0,[.d (bl (decide (f=g)))]):=h149
  simp only [q9V,q1I,q04,q23,q00,decide_eq_true_eq]
  rw [if_neg (by omega),if_pos hj]
  simp only [q0c,q2N,q01,q0Q,q0P,q0G,q0Z,q02,q06,q0S,q0R,q1o,q0C,q0B,List.length_cons,List.length_nil,q0K,if_true,q0J,List.take_succ_cons,List.take_zero,q1n,q08,h149',q2D,List.all_cons,List.all_nil,yl_b,Bool.and_self,q0z,q00,q7C,q2r,q1H]
  cases most with
  | true =>
   simp only [Bool.not_true,Bool.false_eq_true,if_false,q0c,rBd,if_true,List.mem_singleton,decide_eq_true_eq]
   split<;>rfl
  | false =>
   have hi:∀ k:Nat→Out,(RP (n+105)).inx (il 0) 1 k=k 0:=fun k=>by rw [q7D _ _ _ (by simp)];rfl
   have hr:∀ k:List D→Out,(RP (n+105)).rowAt 1 [[il g]] 0 k=k [il g]:=fun k=>q3a _ _ _ _ _ rfl rfl
   simp only [Bool.not_false,if_true,decide_eq_true_eq]
   rw [if_neg (by simp)]
   simp only [hi,hr,q0b,q0Y,q00,decide_eq_true_eq,q0c,rBd,Bool.false_eq_true,if_false]
   by_cases hg:g=f
   ·subst hg;simp
   ·simp [hg]
 ·have hz:1≤z∧z≤99:=hz.resolve_left hj
  obtain ⟨q',hq',h161⟩:=s161 a b c o d hb hl 100 n z q hz.1 (by omega) hz.2 hq
  refine ⟨q',hq',?_⟩
  obtain ⟨y,hy⟩:=q3h hb (d:=d) _ z (Nat.le_refl _) hz.1
  have hlen:(q07 d (b.getD []) z).length≤1000000:=by
   have:=q5J (q3N d (b.getD []) z) fun x hx=>by
    have:=q1d hb _ z x (Nat.le_refl _) hz.1 hx
    omega
   omega
  have h149:=s149 (n+103) (some (q07 d (b.getD []) z)) f (by simp only [Option.getD_some];omega)
  simp only [Option.getD_some] at h149
  have h161':FN (n+105) 1000161 [q0e a b c o,il d,.mp false q.1 q.2,il z,q0e a b c o,il d]=some (0,[.d (dI (some (q07 d (b.getD []) z))),.d (q0e a b c o),.d (il d),.d (.mp false q'.1 q'.2)]):=h161
  simp only [q9V,q1I,q04,q23,q00,decide_eq_true_eq]
  rw [if_pos (by omega),if_neg hj]
  simp only [q1H,q08,h161',q01,q02,q06,q0S,q0R,q1I,q0c,h149,q0z,q00,q6o,Option.getD_some,q2r]
  cases most with
  | true =>
   simp only [Bool.not_true,Bool.false_eq_true,if_false,q0c,rBd,if_true,decide_eq_true_eq]
   split<;>rfl
  | false =>
   simp only [Bool.not_false,if_true,decide_eq_true_eq,rBd,Bool.false_eq_true,if_false]
   obtain ⟨x,r,hL⟩:∃ x r,q07 d (b.getD []) z=x::r:=by
    cases hL:q07 d (b.getD []) z with
    | nil=>rw [hL] at hy;cases hy
    | cons x r=>exact ⟨x,r,rfl⟩
   have hrow:∀ k:List D→Out,(RP (n+105)).rowD 1 (dI (some (x::r))) (il 0) k=k [il x]:=fun k=>q76 (o:=some (x::r)) (i:=0) rfl k
   simp only [hL]
   cases r with
   | nil =>
    rw [if_neg (by simp)]
    simp only [hrow,q0b,q0Y,q00,decide_eq_true_eq,q0c]
    by_cases hg:x=f
    ·subst hg;simp
    ·simp [hg]
   | cons y r =>
    rw [if_pos (by simp only [List.length_cons];omega),if_neg (by simp)]
end
end
section
def bX (l:List E9) (m:Nat):List (E9×Nat):=((l.take m).zipIdx).reverse
theorem bX_len (l:List E9):bX l l.length=ixs l:=by rw [bX,List.take_length,ixs]
theorem qlN {l:List E9} {m:Nat} {e:E9} (h:l[m]?=some e):bX l (m+1)=(e,m)::bX l m:=by
 have hm:m < l.length:=(List.getElem?_eq_some_iff.1 h).1
 unfold bX
 rw [List.take_add_one,h,Option.toList_some,List.zipIdx_append,List.reverse_append]
 simp [List.length_take,Nat.min_eq_left (Nat.le_of_lt hm)]
theorem q7J {σ:Type} (l:List E9) (hl:l.length≤1000000) (d who:Int) (bs:List ((Nat→List Yr→Out)→List Yr→Out)) (en:Nat→σ→Nat×List Yr) (I:Nat→σ→Prop) (Q:List (Int×Option Int)→σ→Out→Prop)
  (h0:∀ s k,I 0 s→∃ b,bs[(en 0 s).1]?=some b∧Q [(-1,none)] s (b k (en 0 s).2))
  (h1:∀ (m:Nat) e s (k:Nat→List Yr→Out),l[m]?=some e→m < l.length→IntKind.i64.wrap (((m:Nat):Int) - 1)=((m:Nat):Int) - 1→(((m+1:Nat):Int) - 1)=((m:Nat):Int)→I (m+1) s →
   ∃ b,bs[(en (m+1) s).1]?=some b ∧
   ((e.a=who∧q1J e.f1 e.t2 d=true)→(∀ os,Q ((((m:Nat):Int),some e.b)::os) s (b k (en (m+1) s).2))∨∃ s',I m s'∧(∀ os r,Q os s' r→Q ((((m:Nat):Int),some e.b)::os) s r)∧(q1h e.f2 e.t1 d=true→Q [] s' (b k (en (m+1) s).2))∧(¬ q1h e.f2 e.t1 d=true→b k (en (m+1) s).2=k (en m s').1 (en m s').2)) ∧
   (¬ (e.a=who∧q1J e.f1 e.t2 d=true)→I m s∧b k (en (m+1) s).2=k (en m s).1 (en m s).2))
  (s:σ) (hs:I l.length s):Q (q1c d who (ixs l)) s (q0o bs M0 (en l.length s).1 (en l.length s).2):=by
 refine q4K (σ:=Nat×σ) bs (fun s=>en s.1 s.2) (fun s=>s.1) (fun t=>t.1≤l.length∧I t.1 t.2∧∀ r,Q (q1c d who (bX l t.1)) t.2 r→Q (q1c d who (ixs l)) s r) (Q (q1c d who (ixs l)) s) ?_ M0 (l.length,s) ⟨Nat.le_refl _,hs,fun r h=>by rw [bX_len] at h;exact h⟩ (by unfold M0;simp only;omega)
 rintro ⟨m,t⟩ k ⟨g1,g2,g3⟩ ih
 simp only at g1 g2 g3 ih ⊢
 cases m with
 | zero =>
  obtain ⟨b,hb,hq⟩:=h0 t k g2
  exact ⟨b,hb,g3 _ hq⟩
 | succ m =>
  obtain ⟨e,he⟩:∃ e,l[m]?=some e:=⟨_,List.getElem?_eq_getElem (by omega)⟩
  obtain ⟨b,hb,ha,hn⟩:=h1 m e t k he (by omega) (q0m (by omega) (by omega)) (by omega) g2
  refine ⟨b,hb,?_⟩
  rw [qlN he] at g3
  simp only [q1c] at g3
  by_cases hc:e.a=who∧q1J e.f1 e.t2 d=true
  ·rw [if_pos hc] at g3
   rcases ha hc with hx | ⟨s',i1,i2,i3,i4⟩
   ·exact g3 _ (hx _)
   by_cases hsu:q1h e.f2 e.t1 d=true
   ·rw [if_pos hsu] at g3
    exact g3 _ (i2 _ _ (i3 hsu))
   ·rw [if_neg hsu] at g3
    rw [i4 hsu]
    exact ih (m,s') ⟨by simp only;omega,i1,fun r h=>g3 r (i2 _ _ h)⟩ (by simp only;omega)
  ·rw [if_neg hc] at g3
   obtain ⟨i1,i2⟩:=hn hc
   rw [i2]
   exact ih (m,t) ⟨by simp only;omega,i1,g3⟩ (by simp only;omega)
def bst (rate:Option Int→Int):Int×Int×Int→List (Int×Option Int)→Int×Int×Int
 | s,[]=>s
 | s,(j,x)::os=>bst rate (if s.2.2 < rate x then (j,f0 x,rate x) else s) os
theorem qkl (rate:Option Int→Int):∀ (os:List (Int×Option Int)) (s:Int×Int×Int),s.2.2≤(bst rate s os).2.2∧∀ p∈os,rate p.2≤(bst rate s os).2.2
 | [],s=>⟨Int.le_refl _,fun p hp=>by cases hp⟩
 | (j,x)::os,s=>by
  rw [bst]
  obtain ⟨h1,h2⟩:=qkl rate os (if s.2.2 < rate x then (j,f0 x,rate x) else s)
  have h3:s.2.2≤(if s.2.2 < rate x then (j,f0 x,rate x) else s).2.2∧rate x≤(if s.2.2 < rate x then (j,f0 x,rate x) else s).2.2:=by
   split
   ·rename_i h;exact ⟨Int.le_of_lt h,Int.le_refl _⟩
   ·rename_i h;exact ⟨Int.le_refl _,Int.not_lt.1 h⟩
  exact ⟨Int.le_trans h3.1 h1,fun p hp=>by
   rcases List.mem_cons.1 hp with rfl | hp
   ·exact Int.le_trans h3.2 h1
   ·exact h2 p hp⟩
theorem qh2 (rate:Option Int→Int):∀ (os:List (Int×Option Int)) (s:Int×Int×Int),bst rate s os=s∨∃ p∈os,bst rate s os=(p.1,f0 p.2,rate p.2)
 | [],s=>.inl rfl
 | (j,x)::os,s=>by
  rw [bst]
  rcases qh2 rate os (if s.2.2 < rate x then (j,f0 x,rate x) else s) with h | ⟨p,hp,h⟩
  ·by_cases hx:s.2.2 < rate x
   ·rw [if_pos hx] at h ⊢
    exact .inr ⟨(j,x),by simp,h⟩
   ·rw [if_neg hx] at h ⊢
    exact .inl h
  ·exact .inr ⟨p,by simp [hp],h⟩
def qeN (rate:Option Int→Int) (os:List (Int×Option Int)):Int:=(bst rate (0,0,-1) os).1
theorem qlM {rate:Option Int→Int} {os:List (Int×Option Int)} (h0:∀ x,0≤rate x) (hne:os≠[]):∃ x,(qeN rate os,x)∈os∧∀ p∈os,rate p.2≤rate x:=by
 have h1:=qkl rate os (0,0,-1)
 rcases qh2 rate os (0,0,-1) with h | ⟨p,hp,h⟩
 ·exfalso
  match os,hne with
  | p::r,_ =>
   have:=h1.2 p (by simp)
   have h2:=h0 p.2
   rw [h] at this
   simp only at this
   omega
 ·refine ⟨p.2,by unfold qeN;rw [h];exact hp,fun q hq=>?_⟩
  have:=h1.2 q hq
  rw [h] at this
  exact this
theorem qcZ (d who:Int):∀ l:List (E9×Nat),q1c d who l≠[]
 | []=>by simp [q1c]
 | (e,i)::r=>by
  simp only [q1c]
  split
  ·simp
  ·exact qcZ d who r
end
section
def qhL (rate:Option Int→Int) (s:Int×Int×Int) (p:Int×Option Int):Int×Int×Int:=if s.2.2 < rate p.2 then (p.1,f0 p.2,rate p.2) else s
def QB {τ:Type} (J:τ→Prop) (rate:Option Int→Int) (e0 e1:τ→Int×Int×Int→Out) (os:List (Int×Option Int)) (s:Int×Int×Int) (r:Out):Prop :=
 ∃ q,J q∧(r=e0 q (bst rate s os)∨∃ s',r=e1 q s'∧qhL rate s' (-1,none)=bst rate s os)
theorem q7s {τ:Type} (l:List E9) (hl:l.length≤1000000) (d who:Int) (bs:List ((Nat→List Yr→Out)→List Yr→Out)) (en:Nat→τ→Int×Int×Int→Nat×List Yr) (J:τ→Prop) (rate:Option Int→Int) (e0 e1:τ→Int×Int×Int→Out)
  (h0:∀ q s k,J q→∃ b,bs[(en 0 q s).1]?=some b∧b k (en 0 q s).2=e1 q s)
  (h1:∀ (m:Nat) e q s (k:Nat→List Yr→Out),l[m]?=some e→IntKind.i64.wrap (((m:Nat):Int) - 1)=((m:Nat):Int) - 1→(((m+1:Nat):Int) - 1)=((m:Nat):Int)→J q →
   ∃ b,bs[(en (m+1) q s).1]?=some b ∧
   ((e.a=who∧q1J e.f1 e.t2 d=true)→∃ q',J q'∧b k (en (m+1) q s).2=if q1h e.f2 e.t1 d=true then e0 q' (qhL rate s ((m:Nat),some e.b)) else k (en m q' (qhL rate s ((m:Nat),some e.b))).1 (en m q' (qhL rate s ((m:Nat),some e.b))).2) ∧
   (¬ (e.a=who∧q1J e.f1 e.t2 d=true)→b k (en (m+1) q s).2=k (en m q s).1 (en m q s).2))
  (q:τ) (hq:J q) (s:Int×Int×Int):QB J rate e0 e1 (q1c d who (ixs l)) s (q0o bs M0 (en l.length q s).1 (en l.length q s).2):=by
 refine q7J (σ:=τ×Int×Int×Int) l hl d who bs (fun m t=>en m t.1 t.2) (fun _ t=>J t.1) (fun os t r=>QB J rate e0 e1 os t.2 r) ?_ ?_ (q,s) hq
 ·rintro ⟨q,s⟩ k hJ
  obtain ⟨b,hb,hr⟩:=h0 q s k hJ
  exact ⟨b,hb,q,hJ,.inr ⟨s,hr,rfl⟩⟩
 ·rintro m e ⟨q,s⟩ k he _ hw hm hJ
  obtain ⟨b,hb,ha,hn⟩:=h1 m e q s k he hw hm hJ
  refine ⟨b,hb,fun hc=>?_,fun hc=>⟨hJ,hn hc⟩⟩
  obtain ⟨q',hJ',hr⟩:=ha hc
  refine .inr ⟨(q',qhL rate s ((m:Nat),some e.b)),hJ',fun os r h=>h,fun hs=>?_,fun hs=>?_⟩
  ·rw [if_pos hs] at hr
   exact ⟨q',hJ',.inl hr⟩
  ·rw [if_neg hs] at hr
   exact hr
def t3 (s:Int×Int×Int):List Yr:=[.d (il s.1),.d (il s.2.1),.d (il s.2.2)]
theorem qcz (rate:Option Int→Int) (s:Int×Int×Int) (p:Int×Option Int):t3 (qhL rate s p)=if s.2.2 < rate p.2 then [.d (il p.1),.d (il (f0 p.2)),.d (il (rate p.2))] else t3 s:=by
 unfold qhL t3;split<;>rfl
theorem l66_5 (n:Nat) (a b c:Option (List E9)) (o:Option (List E5)) (d who:Int) (most:Bool) (hd:0≤d∧d≤4166) (ha:(a.getD []).length≤1000000) (hc:(c.getD []).length≤1000000) (ho:(o.getD []).length≤1000000) (x7 x8:D) (s:Int×Int×Int) :
  QB (fun _:Unit=>True) (rAw (q0U (a.getD []) (c.getD []) (o.getD []) d) most)
   (fun _ s=>some (0,[.d (q0e a b c o),.d (il who),.d (q0e a b c o),.d (il d),.d (bl most),.d x7,.d x8]++t3 s))
   (fun _ s=>some (1,[.d (q0e a b c o),.d (il who),.d (q0e a b c o),.d (il d),.d (bl most),.d x7,.d x8]++t3 s)) (q1c d who (ixs (c.getD []))) s
   (q0o [qhe (RP (n+7))] M0 0 ([.d (il d),.d (il (((c.getD []).length:Int) - 1)),.d (q0e a b c o),.d (il who),.d (q0e a b c o),.d (il d),.d (bl most),.d x7,.d x8]++t3 s)):=by
 refine q7s (τ:=Unit) (c.getD []) hc d who [qhe (RP (n+7))] (fun m _ s=>(0,[.d (il d),.d (il ((m:Int) - 1)),.d (q0e a b c o),.d (il who),.d (q0e a b c o),.d (il d),.d (bl most),.d x7,.d x8]++t3 s)) (fun _=>True) _ _ _ ?_ ?_ () trivial s
 ·intro _ s k _
  exact ⟨_,rfl,by simp [qhe,t3]⟩
 ·intro m e _ s k he hw hm1 _
  refine ⟨_,rfl,?_⟩
  have h195:=s195 (n+6) a b c o m e who he
  have h147:=s147 n a b c o m e.b d most hd ha hc ho
  rw [if_neg (by omega)] at h147
  have hp:∀ k:List D→Out,(RP (n+7)).ptrW 4 (q0e a b c o) k=k [d9 a,d9 b,d9 c,d5 o]:=fun k=>q1e _ 4 k rfl
  simp only [qcz]
  simp only [hm1,qhe,t3,List.cons_append,List.nil_append,q02,q06,q04,q23,q00]
  rw [if_pos (by simp)]
  simp only [q08,h195,q01,q02,q06,q0z,q00,q1p,hw,q9X,q0D,q0c,hp,h147,q2r]
  refine ⟨fun hc=>⟨(),trivial,?_⟩,fun hc=>?_⟩
  ·obtain ⟨h1,h2⟩:=hc
   by_cases hx:s.2.2 < rAw (q0U (a.getD []) (c.getD []) (o.getD []) d) most (some e.b)
   ·cases hq:q1h e.f2 e.t1 d<;>simp [h1,h2,q4C,hq,hp,h147,hx,f0]
   ·cases hq:q1h e.f2 e.t1 d<;>simp [h1,h2,q4C,hq,hp,h147,hx]
  ·by_cases h1:e.a=who
   ·have h2:¬ q1J e.f1 e.t2 d=true:=fun h=>hc ⟨h1,h⟩
    simp [h1,h2]
   ·simp [h1]
end
section
abbrev rH (L:Int→List Int) (f:Int) (most:Bool) (x:Option Int):Int:=rHm L f most (f0 x)
section
variable (n:Nat) (a b c:Option (List E9)) (o:Option (List E5)) (d f:Int) (most:Bool) (hb:q5a (b.getD [])) (hl:(b.getD []).length≤1000000)
include hb hl
theorem l66_4 (hf:qcl (a.getD [])) (hx:(a.getD []).length≤1000000) (who:Int) (x y:D) (s:Int×Int×Int) (q:Mr) (hq:q2H d (b.getD []) q) :
  QB (q2H d (b.getD [])) (rH (q07 d (b.getD [])) f most)
   (fun q s=>some (1,[.d (q0e a b c o),.d (il who),.d (q0e a b c o),.d (il d),.d (q0e a b c o),.d (il d),.m q,.d (il f),.d (bl most),.d x,.d y]++t3 s))
   (fun q s=>some (0,[.d (q0e a b c o),.d (il who),.d (q0e a b c o),.d (il d),.d (q0e a b c o),.d (il d),.m q,.d (il f),.d (bl most),.d x,.d y]++t3 s)) (q1c d who (ixs (a.getD []))) s
   (q0o [qhf (RP (n+106))] M0 0 ([.d (il d),.d (il (((a.getD []).length:Int) - 1)),.d (q0e a b c o),.d (il who),.d (q0e a b c o),.d (il d),.d (q0e a b c o),.d (il d),.m q,.d (il f),.d (bl most),.d x,.d y]++t3 s)):=by
 refine q7s (τ:=Mr) (a.getD []) hx d who [qhf (RP (n+106))] (fun m q s=>(0,[.d (il d),.d (il ((m:Int) - 1)),.d (q0e a b c o),.d (il who),.d (q0e a b c o),.d (il d),.d (q0e a b c o),.d (il d),.m q,.d (il f),.d (bl most),.d x,.d y]++t3 s)) (q2H d (b.getD [])) _ _ _ ?_ ?_ q hq s
 ·intro q s k _
  exact ⟨_,rfl,by simp [qhf,t3]⟩
 ·intro m e q s k he hw hm1 hq
  refine ⟨_,rfl,?_⟩
  have ho:=qjP (n+105) a b c o m e who he
  have hf:=hf e (List.mem_of_getElem? he)
  obtain ⟨q',hq',h1⟩:=qcD n a b c o d f most hb hl m e.b (.inr hf) q hq
  simp only [qcz,rH,f0,Option.getD_some]
  simp only [hm1,qhf,t3,List.cons_append,List.nil_append,q02,q06,q0S,q0R,q04,q23,q00]
  rw [if_pos (by simp)]
  simp only [q08,ho,q01,q02,q06,q0z,q00,q1p,hw,q9X,q0D,q0c,h1,q2r,q1H,q1I]
  refine ⟨fun hc=>⟨q',hq',?_⟩,fun hc=>?_⟩
  ·obtain ⟨h2,h3⟩:=hc
   by_cases hx:s.2.2 < rHm (q07 d (b.getD [])) f most e.b
   ·cases hs:q1h e.f2 e.t1 d<;>simp [h2,h3,q4C,hs,h1,hx,q1H,q1I]
   ·cases hs:q1h e.f2 e.t1 d<;>simp [h2,h3,q4C,hs,h1,hx,q1H,q1I]
  ·by_cases h2:e.a=who
   ·have h3:¬ q1J e.f1 e.t2 d=true:=fun h=>hc ⟨h2,h⟩
    simp [h2,h3]
   ·simp [h2]
theorem l66_0  (g:Int) (hg:g≤100) (m5 m6 m7:Mr) (x y z:D) (s:Int×Int×Int) (q:Mr) (hq:q2H d (b.getD []) q) :
  QB (q2H d (b.getD [])) (rBd (q07 d (b.getD [])) f most g)
   (fun q s=>some (1,[.m q,.d (q0e a b c o),.d (il d),.m m5,.m m6,.m m7,.d (il g),.d (q0e a b c o),.d (il d),.d x,.d (q0e a b c o),.d (il g),.d (il f),.d (bl most),.d y,.d z]++t3 s))
   (fun q s=>some (0,[.m q,.d (q0e a b c o),.d (il d),.m m5,.m m6,.m m7,.d (il g),.d (q0e a b c o),.d (il d),.d x,.d (q0e a b c o),.d (il g),.d (il f),.d (bl most),.d y,.d z]++t3 s)) (q1c d g (ixs (b.getD []))) s
   (q0o [qhh (RP (n+106))] M0 0 ([.d (il d),.d (il (((b.getD []).length:Int) - 1)),.m q,.d (q0e a b c o),.d (il d),.m m5,.m m6,.m m7,.d (il g),.d (q0e a b c o),.d (il d),.d x,.d (q0e a b c o),.d (il g),.d (il f),.d (bl most),.d y,.d z]++t3 s)):=by
 refine q7s (τ:=Mr) (b.getD []) hl d g [qhh (RP (n+106))] (fun m q s=>(0,[.d (il d),.d (il ((m:Int) - 1)),.m q,.d (q0e a b c o),.d (il d),.m m5,.m m6,.m m7,.d (il g),.d (q0e a b c o),.d (il d),.d x,.d (q0e a b c o),.d (il g),.d (il f),.d (bl most),.d y,.d z]++t3 s)) (q2H d (b.getD [])) _ _ _ ?_ ?_ q hq s
 ·intro q s k _
  exact ⟨_,rfl,by simp [qhh,t3]⟩
 ·intro m e q s k he hw hm1 hq
  refine ⟨_,rfl,?_⟩
  have ho:=s194 (n+105) a b c o m e g he
  have hbe:=hb e (List.mem_of_getElem? he)
  obtain ⟨q',hq',h1⟩:=q7g n a b c o d f most hb hl m e.b g (.inr ⟨hbe.1,by omega⟩) q hq x
  rw [if_neg (by omega)] at h1
  simp only [qcz,rH,f0,Option.getD_some]
  simp only [hm1,qhh,t3,List.cons_append,List.nil_append,q02,q06,q0S,q0R,q04,q23,q00]
  rw [if_pos (by simp)]
  simp only [q08,ho,q01,q02,q06,q0z,q00,q1p,hw,q9X,q0D,q0c,h1,q2r,q1H,q1I]
  refine ⟨fun hc=>⟨q',hq',?_⟩,fun hc=>?_⟩
  ·obtain ⟨h2,h3⟩:=hc
   by_cases hx:s.2.2 < rBd (q07 d (b.getD [])) f most g (some e.b)
   ·cases hs:q1h e.f2 e.t1 d<;>simp [h2,h3,q4C,hs,h1,hx,q1H,q1I]
   ·cases hs:q1h e.f2 e.t1 d<;>simp [h2,h3,q4C,hs,h1,hx,q1H,q1I]
  ·by_cases h2:e.a=g
   ·have h3:¬ q1J e.f1 e.t2 d=true:=fun h=>hc ⟨h2,h⟩
    simp [h2,h3]
   ·simp [h2]
theorem l66_2  (g:Int) (hg:g≤100) (m5 m6 m7:Mr) (x y z:D) (s:Int×Int×Int) (q:Mr) (hq:q2H d (b.getD []) q) :
  QB (q2H d (b.getD [])) (rBd (q07 d (b.getD [])) f most g)
   (fun q s=>some (0,[.m q,.d (q0e a b c o),.d (il d),.m m5,.m m6,.m m7,.d (il g),.d (q0e a b c o),.d (il d),.d x,.d (q0e a b c o),.d (il g),.d (il f),.d (bl most),.d y,.d z]++t3 s))
   (fun q s=>some (1,[.m q,.d (q0e a b c o),.d (il d),.m m5,.m m6,.m m7,.d (il g),.d (q0e a b c o),.d (il d),.d x,.d (q0e a b c o),.d (il g),.d (il f),.d (bl most),.d y,.d z]++t3 s)) (q1c d g (ixs (b.getD []))) s
   (q0o [qhg (RP (n+106))] M0 0 ([.d (il d),.d (il (((b.getD []).length:Int) - 1)),.m q,.d (q0e a b c o),.d (il d),.m m5,.m m6,.m m7,.d (il g),.d (q0e a b c o),.d (il d),.d x,.d (q0e a b c o),.d (il g),.d (il f),.d (bl most),.d y,.d z]++t3 s)):=by
 refine q7s (τ:=Mr) (b.getD []) hl d g [qhg (RP (n+106))] (fun m q s=>(0,[.d (il d),.d (il ((m:Int) - 1)),.m q,.d (q0e a b c o),.d (il d),.m m5,.m m6,.m m7,.d (il g),.d (q0e a b c o),.d (il d),.d x,.d (q0e a b c o),.d (il g),.d (il f),.d (bl most),.d y,.d z]++t3 s)) (q2H d (b.getD [])) _ _ _ ?_ ?_ q hq s
 ·intro q s k _
  exact ⟨_,rfl,by simp [qhg,t3]⟩
 ·intro m e q s k he hw hm1 hq
  refine ⟨_,rfl,?_⟩
  have ho:=s194 (n+105) a b c o m e g he
  have hbe:=hb e (List.mem_of_getElem? he)
  obtain ⟨q',hq',h1⟩:=q7g n a b c o d f most hb hl m e.b g (.inr ⟨hbe.1,by omega⟩) q hq x
  rw [if_neg (by omega)] at h1
  simp only [qcz,rH,f0,Option.getD_some]
  simp only [hm1,qhg,t3,List.cons_append,List.nil_append,q02,q06,q0S,q0R,q04,q23,q00]
  rw [if_pos (by simp)]
  simp only [q08,ho,q01,q02,q06,q0z,q00,q1p,hw,q9X,q0D,q0c,h1,q2r,q1H,q1I]
  refine ⟨fun hc=>⟨q',hq',?_⟩,fun hc=>?_⟩
  ·obtain ⟨h2,h3⟩:=hc
   by_cases hx:s.2.2 < rBd (q07 d (b.getD [])) f most g (some e.b)
   ·cases hs:q1h e.f2 e.t1 d<;>simp [h2,h3,q4C,hs,h1,hx,q1H,q1I]
   ·cases hs:q1h e.f2 e.t1 d<;>simp [h2,h3,q4C,hs,h1,hx,q1H,q1I]
  ·by_cases h2:e.a=g
   ·have h3:¬ q1J e.f1 e.t2 d=true:=fun h=>hc ⟨h2,h⟩
    simp [h2,h3]
   ·simp [h2]
end
end
end Go.VE
