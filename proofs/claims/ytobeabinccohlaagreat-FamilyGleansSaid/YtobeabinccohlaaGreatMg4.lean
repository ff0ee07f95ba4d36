/- Family: Leads, Families, Gleans, For (program). -/
import Derived.Test.YtobeabinccohlaaGreatMg3
import Derived.Test.YtobeabinccohlaaGreatMi
import Derived.Test.YtobeabinccohlaaGreatMt
import Derived.KernelRfl
import Derived.Test.YtobeabinccohlaaGreatMh
import Derived.Test.YtobeabinccohlaaGreatRows
namespace Go.VE
open Go.RowKit Go.Proofs
attribute [local simp] q54 q5y
theorem qa2 {a b c:List E9} {o:List E5} (h:q0M a b c o=true):(∀ e∈a,q28 e)∧(∀ e∈b,q29 e)∧(∀ e∈c,q2a e)∧(∀ e∈o,q3Y e):=by
 unfold q0M at h
 simp only [Bool.and_eq_true] at h
 obtain ⟨⟨⟨⟨_,h1⟩,h2⟩,h3⟩,h4⟩:=h
 exact ⟨fun e he=>of_decide_eq_true (q6D h1 e he),fun e he=>of_decide_eq_true (q6D h2 e he),fun e he=>of_decide_eq_true (q6D h3 e he),fun e he=>of_decide_eq_true (q6D h4 e he)⟩
theorem q8m {k:Int} {l:List E9} {e:E9} (h:e∈q1y k l):e∈l:=(List.mem_filter.1 h).1
structure GoodK (a b c:List E9) (o:List E5):Prop where
 fam:qgI a
 less:q7i b
 by0:By0 c
 la:a.length≤60
 lb:b.length≤60
 lc:c.length≤60
 lo:o.length≤60
theorem q3N {a b c:List E9} {o:List E5} (h:q0M a b c o=true):GoodK a b c o:=by
 obtain ⟨p1,p2,p3,_⟩:=qa2 h
 obtain ⟨l1,l2,l3,l4⟩:=q3p h
 exact ⟨fun e he=>(p1 e he).2.2.1,fun e he=>⟨(p2 e he).2.2.1.1,by have:=(p2 e he).2.2.1.2;omega,(p2 e he).2.1.2⟩,fun e he=>(p3 e he).2.2.1.1,l1,l2,l3,l4⟩
theorem q8q (k:Int) (l:List E9):(q1y k l).length≤l.length:=List.length_filter_le _ _
theorem qfM (k:Int) (l:List E5):(q8B k l).length≤l.length:=List.length_filter_le _ _
theorem GoodK.cnt {a b c:List E9} {o:List E5} (h:GoodK a b c o) (k:Int):GoodK (q1y k a) (q1y k b) (q1y k c) (q8B k o) :=
 ⟨fun e he=>h.fam e (q8m he),fun e he=>h.less e (q8m he),fun e he=>h.by0 e (q8m he),Nat.le_trans (q8q ..) h.la,Nat.le_trans (q8q ..) h.lb,Nat.le_trans (q8q ..) h.lc,Nat.le_trans (qfM ..) h.lo⟩
theorem s199 (n:Nat) (o:Option (List Int)) (x:Int) (hl:(o.getD []).length≤4611686018427387904):FN (n+1) 199 [dI o,il x]=some (0,[.d (il (q65 (fun y=>decide (x=y)) (o.getD [])))]):=by
 rw [F199]
 simp only [G199,q3s,q04,q0k]
 have:=q0t (β:=Unit) (o.getD []) hl (qbH (RP n)) (fun i _=>[.d (dI o),.d (il x),.d (il (o.getD []).length),.d (il i)]) (fun _ _=>True)
  (fun i r _=>match fnd (fun y=>decide (x=y)) r with
   | some j=>some (0,[.d (il ((i+j:Nat):Int))])
   | none=>some (1,[]))
  (fun _ k _=>by simp [qbH,fnd]) ?_ M0 () trivial (q1A hl)
 ·simp only [Int.natCast_zero,Nat.zero_add] at this
  rw [this]
  unfold q65
  cases fnd (fun y=>decide (x=y)) (o.getD [])<;>simp
 ·intro i e r _ k hi hd hlt hw _ ih
  have ih':=ih () trivial
  have hlt':(i:Int) < ((o.getD []).length:Int):=by omega
  simp only [qbH,q02,q07,q0B,q00,hlt',decide_true,if_true,q3X hi,rI,q0a,q0F,q04,q0u,hw,q0b,decide_eq_true_eq]
  by_cases h:x=e
  ·subst h;simp [fnd]
  ·rw [if_neg h]
   have h':fnd (fun y=>decide (x=y)) (e::r)=(fnd (fun y=>decide (x=y)) r).map (·+1):=by simp [fnd,h]
   rw [h']
   refine Eq.trans ih' ?_
   cases fnd (fun y=>decide (x=y)) r with
   | none=>rfl
   | some j=>simp [Nat.add_assoc,Nat.add_comm 1 j]
theorem s149 (n:Nat) (o:Option (List Int)) (x:Int) (hl:(o.getD []).length≤4611686018427387904):FN (n+2) 149 [dI o,il x]=some (0,[.d (bl (decide (x∈o.getD [])))]):=by
 rw [F149]
 simp only [G149,q06,s199 n o x hl,q01,q02,q04,q1q,q0b,q5K]
 have:((o.getD []).any fun y=>decide (x=y))=decide (x∈o.getD []):=by
  rw [Bool.eq_iff_iff,q3g,decide_eq_true_iff]
  constructor
  ·rintro ⟨y,hy,h⟩;have:=of_decide_eq_true h;subst this;exact hy
  ·intro h;exact ⟨x,h,by simp⟩
 rw [this]
def q66 (k:Int) (a b c:Option (List E9)) (o:Option (List E5)) (d p:Int):List Int:=q38 (q1y k (a.getD [])) (q1y k (b.getD [])) (q1y k (c.getD [])) (q8B k (o.getD [])) d p
section
variable {a b c:Option (List E9)} {o:Option (List E5)}
theorem k82 (n:Nat) (d who:Int) (hd:0≤d∧d≤4166) (g:GoodK (a.getD []) (b.getD []) (c.getD []) (o.getD [])) :
  FN (n+105) 82 [d9 a,d9 b,d9 c,d5 o,il who,il d]=some (0,[.d (dI (some (q38 (a.getD []) (b.getD []) (c.getD []) (o.getD []) d who)))]) :=
 s82 n a b c o d who hd g.fam g.less (by have:=g.la;omega) (by have:=g.lb;omega) (by have:=g.lc;omega) (by have:=g.lo;omega)
theorem qdI (d p:Int) (g:GoodK (a.getD []) (b.getD []) (c.getD []) (o.getD [])):(q38 (a.getD []) (b.getD []) (c.getD []) (o.getD []) d p).length≤100 :=
 q3R (q3E ..) fun z hz=>q2Q g.fam g.less hz
theorem k86 (n:Nat) (d who f:Int) (hd:0≤d∧d≤4166) (g:GoodK (a.getD []) (b.getD []) (c.getD []) (o.getD [])) :
  FN (n+106) 86 [d9 a,d9 b,d9 c,d5 o,il who,il f,il d]=some (0,[.d (il (q7q (q38 (a.getD []) (b.getD []) (c.getD []) (o.getD []) d who) f))]):=by
 rw [F86]
 have hlen:=qdI d who g
 obtain ⟨x,r,hx,_⟩:=q9U (q3E (a.getD []) (b.getD []) (c.getD []) (o.getD []) d who) (fun z hz=>(q2Q g.fam g.less hz).1) (qbt g.fam g.less)
 simp only [G86,q06,k82 n d who hd g,q01,q02]
 rw [←forP _ f x r hx]
 have h149:=s149 (n+103) (some (q38 (a.getD []) (b.getD []) (c.getD []) (o.getD []) d who)) f (by simp only [Option.getD_some];omega)
 have hrow:∀ q:List D→Out,(RP (n+105)).rowD 1 (dI (some (q38 (a.getD []) (b.getD []) (c.getD []) (o.getD []) d who))) (il 0) q=q (rI x):=fun q=>q3X (i:=0) (by rw [hx];rfl) q
 simp only [Option.getD_some] at h149
 simp only [h149,q01,q02,q3s,Option.getD_some,q04,q2V,q00,q0P,s84,q0b,decide_eq_true_eq,hrow,rI,q0a,q0L]
 generalize q38 (a.getD []) (b.getD []) (c.getD []) (o.getD []) d who=l at hx ⊢
 by_cases h:1 < l.length
 ·rw [if_pos (by omega)];simp [h]
 ·rw [if_neg (by omega)];simp [h]
end
theorem q4c {a b c:Option (List E9)} {o:Option (List E5)} {ps fs:Bool} {p f:Int} {ds:List Int} (k:Int) (h:q1m (q0M (a.getD []) (b.getD []) (c.getD []) (o.getD [])) ps fs p f ds=0):GoodK ((kn9 k a).getD []) ((kn9 k b).getD []) ((kn9 k c).getD []) ((kn5 k o).getD []):=by
 rw [q0w,q0w,q0w,q33]
 exact (q3N (q23 h)).cnt k
section
variable (n:Nat) (p f d k:Int) (a b c:Option (List E9)) (o:Option (List E5)) (ha:(a.getD []).length*72≤140737488351232) (hb:(b.getD []).length*72≤140737488351232) (hc:(c.getD []).length*72≤140737488351232) (ho:(o.getD []).length*40≤140737488351232)
include ha hb hc ho
theorem qcB (ps fs:Bool):FN (n+10) 73 [il p,il f,bl ps,bl fs,d9 a,d9 b,d9 c,d5 o,.sl 1 [[il d],[il k]]]=q4V (q1m (q0M (a.getD []) (b.getD []) (c.getD []) (o.getD [])) ps fs p f [d,k]) (q0T (kn9 k a) (kn9 k b) (kn9 k c) (kn5 k o)):=by
 have h73:=s73 n p f ps fs a b c o [d] k (by simp) ha hb hc ho
 rw [show dI (some ([d]++[k]))=.sl 1 [[il d],[il k]] from rfl] at h73
 exact h73
set_option maxRecDepth 20000 in
theorem s14:FN (n+105) 14 [d9 a,d9 b,d9 c,d5 o,il f,il d,il k]=if q1m (q0M (a.getD []) (b.getD []) (c.getD []) (o.getD [])) false true 0 f [d,k]=0 then some (0,[.d (dI (some (q0c d (q1y k (b.getD [])) f))),.d (il 0)]) else some (0,[.d (dI none),.d (il (q1m (q0M (a.getD []) (b.getD []) (c.getD []) (o.getD [])) false true 0 f [d,k]))]):=by
 rw [F14]
 simp only [G14,q06,s79,q01,q02,q07,q0H,q1D,qcB (n+94) 0 f d k a b c o ha hb hc ho false true]
 by_cases he:q1m (q0M (a.getD []) (b.getD []) (c.getD []) (o.getD [])) false true 0 f [d,k]=0
 ·have g:=q4c k he
  have hf:1≤f∧f≤99:=by
   unfold q1m at he
   split at he
   ·simp at he
   ·split at he
    ·simp at he
    ·split at he
     ·simp at he
     ·rename_i h2;simpa using h2
  have hlb:=g.lb
  obtain ⟨q',_,h161⟩:=s161 (kn9 k a) (kn9 k b) (kn9 k c) (kn5 k o) d g.less (by omega) 99 n f ([],[]) hf.1 (by omega) hf.2 (qbe _ _)
  rw [if_pos he]
  simp only [q4V,he,if_true,q01,q02,q07,q04,q0L,ne_eq,not_true_eq_false,decide_false,q00,Bool.false_eq_true,if_false,qhY,q5y,h161,q54,q0b]
  rw [q0w]
 ·rw [if_neg he]
  simp only [q4V,if_neg he,q01,q02,q07,q04,q0L,q00]
  rw [if_pos (by simpa using he)]
  simp [dI,dSl]
set_option maxRecDepth 20000 in
theorem s16:FN (n+106) 16 [d9 a,d9 b,d9 c,d5 o,il p,il d,il k]=if q1m (q0M (a.getD []) (b.getD []) (c.getD []) (o.getD [])) true false p 0 [d,k]=0 then some (0,[.d (dI (some (q66 k a b c o d p))),.d (il 0)]) else some (0,[.d (dI none),.d (il (q1m (q0M (a.getD []) (b.getD []) (c.getD []) (o.getD [])) true false p 0 [d,k]))]):=by
 rw [F16]
 simp only [G16,q06,s72,q01,q02,q07,q0H,q1D,qcB (n+95) p 0 d k a b c o ha hb hc ho true false]
 by_cases he:q1m (q0M (a.getD []) (b.getD []) (c.getD []) (o.getD [])) true false p 0 [d,k]=0
 ·have g:=q4c k he
  rw [if_pos he]
  have hp:∀ q:List D→Out,(RP (n+105)).ptrW 4 (q0T (kn9 k a) (kn9 k b) (kn9 k c) (kn5 k o)) q=q [d9 (kn9 k a),d9 (kn9 k b),d9 (kn9 k c),d5 (kn5 k o)]:=fun q=>q26 _ 4 q rfl
  simp only [q4V,he,if_true,q01,q02,q07,q04,q0L,ne_eq,not_true_eq_false,decide_false,q00,Bool.false_eq_true,if_false,hp,q0a,q0C,k82 n d p (q2u he).1 g,q0b]
  rw [q0w,q0w,q0w,q33];rfl
 ·rw [if_neg he]
  simp only [q4V,if_neg he,q01,q02,q07,q04,q0L,q00]
  rw [if_pos (by simpa using he)]
  simp [dI,dSl]
set_option maxRecDepth 20000 in
theorem s18:FN (n+107) 18 [d9 a,d9 b,d9 c,d5 o,il p,il d,il k]=if q1m (q0M (a.getD []) (b.getD []) (c.getD []) (o.getD [])) true false p 0 [d,k]=0 then some (0,[.d (il (q1L (q1y k (a.getD [])) (q1y k (c.getD [])) (q8B k (o.getD [])) d p)),.d (il 0)]) else some (0,[.d (il 0),.d (il (q1m (q0M (a.getD []) (b.getD []) (c.getD []) (o.getD [])) true false p 0 [d,k]))]):=by
 rw [F18]
 simp only [G18,q06,s16 n p d k a b c o ha hb hc ho]
 by_cases he:q1m (q0M (a.getD []) (b.getD []) (c.getD []) (o.getD [])) true false p 0 [d,k]=0
 ·have g:=(q3N (q23 he)).cnt k
  rw [if_pos he,if_pos he]
  have hr:∀ z∈q66 k a b c o d p,0≤z:=fun z hz=>(q2Q g.fam g.less hz).1
  obtain ⟨x,r,hx,_⟩:=q9U (q3E _ _ _ _ d p) hr (qbt g.fam g.less)
  have hlen:(q66 k a b c o d p).length≤100:=q3R (q3E ..) fun z hz=>q2Q g.fam g.less hz
  have hpos:0 < (q66 k a b c o d p).length:=by rw [show q66 k a b c o d p=x::r from hx];simp
  obtain ⟨y,hy⟩:∃ y,(q66 k a b c o d p)[(q66 k a b c o d p).length - 1]?=some y:=⟨_,List.getElem?_eq_getElem (by omega)⟩
  have hgl:=qik g.fam g.less g.by0 hx hy
  have hw:IntKind.i64.wrap (((q66 k a b c o d p).length:Int) - 1)=(((q66 k a b c o d p).length - 1:Nat):Int):=by rw [q0l (by omega) (by omega)];omega
  have h0:∀ q:List D→Out,(RP (n+106)).rowD 1 (dI (some (q66 k a b c o d p))) (il 0) q=q (rI x):=fun q=>q3X (i:=0) (by rw [show q66 k a b c o d p=x::r from hx];rfl) q
  have h1:∀ q:List D→Out,(RP (n+106)).rowD 1 (dI (some (q66 k a b c o d p))) (il (((q66 k a b c o d p).length - 1:Nat):Int)) q=q (rI y):=fun q=>q3X (o:=some (q66 k a b c o d p)) hy q
  simp only [q01,q02,q07,q04,q0L,ne_eq,not_true_eq_false,decide_false,q00,Bool.false_eq_true,if_false,q3s,Option.getD_some,q0U,hw,h0,h1,rI,q0a,q0F,s84,q0b]
  rw [←hgl]
 ·rw [if_neg he,if_neg he]
  simp only [q01,q02,q07,q04,q0L,q00]
  rw [if_pos (by simpa using he)]
  simp
set_option maxRecDepth 20000 in
theorem s20:FN (n+107) 20 [d9 a,d9 b,d9 c,d5 o,il p,il f,il d,il k]=if q1m (q0M (a.getD []) (b.getD []) (c.getD []) (o.getD [])) true true p f [d,k]=0 then some (0,[.d (il (q7q (q66 k a b c o d p) f)),.d (il 0)]) else some (0,[.d (il 0),.d (il (q1m (q0M (a.getD []) (b.getD []) (c.getD []) (o.getD [])) true true p f [d,k]))]):=by
 rw [F20]
 simp only [G20,q06,q0P,q01,q02,q07,q0H,q1D,qcB (n+96) p f d k a b c o ha hb hc ho true true]
 by_cases he:q1m (q0M (a.getD []) (b.getD []) (c.getD []) (o.getD [])) true true p f [d,k]=0
 ·have g:=q4c k he
  rw [if_pos he]
  have hp:∀ q:List D→Out,(RP (n+106)).ptrW 4 (q0T (kn9 k a) (kn9 k b) (kn9 k c) (kn5 k o)) q=q [d9 (kn9 k a),d9 (kn9 k b),d9 (kn9 k c),d5 (kn5 k o)]:=fun q=>q26 _ 4 q rfl
  simp only [q4V,he,if_true,q01,q02,q07,q04,q0L,ne_eq,not_true_eq_false,decide_false,q00,Bool.false_eq_true,if_false,hp,q0a,q0C,k86 n d p f (q2u he).1 g,q0b]
  rw [q0w,q0w,q0w,q33];rfl
 ·rw [if_neg he]
  simp only [q4V,if_neg he,q01,q02,q07,q04,q0L,q00]
  rw [if_pos (by simpa using he)]
  simp
end
end Go.VE
namespace Go.VE
open Go.RowKit Go.Proofs
theorem qhc {l:List Int} (h:l≠[]):nzO l=some l:=by
 cases l with
 | nil=>exact absurd rfl h
 | cons _ _=>rfl
theorem qi2 (x:Int) (l:List Int):nzO (ins x l)=some (ins x l):=qhc (q6V x l)
set_option maxRecDepth 20000 in
theorem l83_0 (n:Nat) (L:List Int) (hL:L.length≤1000000) (x0 x1 x2 x3 x4 x6 x7 x8:D) (acc:List Int) (hu:Up acc) (ha:acc.length≤1000) :
  q0I [qgp (RP (n+1))] M0 0 [.d x0,.d x1,.d x2,.d x3,.d x4,.d (dI (nzO acc)),.d x6,.d x7,.d x8,.d (dI (some L)),.d (il L.length),.d (il 0)]=some (0,[.d x0,.d x1,.d x2,.d x3,.d x4,.d (dI (nzO (q0n acc L))),.d x6,.d x7,.d x8]):=by
 refine q5J L hL _ (fun i acc=>[.d x0,.d x1,.d x2,.d x3,.d x4,.d (dI (nzO acc)),.d x6,.d x7,.d x8,.d (dI (some L)),.d (il L.length),.d (il (i:Nat))])
  (fun acc=>some (0,[.d x0,.d x1,.d x2,.d x3,.d x4,.d (dI (nzO acc)),.d x6,.d x7,.d x8])) 1000 ?_ ?_ acc hu ha
 ·intro acc k;simp [qgp]
 ·intro i c acc k hi hlt hw hu hl
  have hi':((some L).getD [])[i]?=some c:=hi
  have hput:=s92 n (nzO acc) c (by rw [q0R];omega) (by rw [q0R];exact hu)
  rw [q0R] at hput
  simp only [qgp,q02,q07,q0B,q00,hlt,decide_true,if_true,q3X hi',rI,q0a,q06,hput,q01,q04,q0u,hw,qi2]
set_option maxRecDepth 20000 in
theorem l83_1 (n:Nat) (a c:D) (b:Option (List E9)) (o:D) (d:Int) (hb:q7i (b.getD [])) (hl:(b.getD []).length≤1000000) (H:List Int) (hH:H.length≤1000) (hr:∀ h∈H,0≤h∧h≤99) (acc:List Int) (hu:Up acc) (ha:∀ z∈acc,0≤z∧z≤99) :
  q0I [qeK (RP (n+2))] M0 0 [.d (il d),.d a,.d (d9 b),.d c,.d o,.d (dI (nzO acc)),.d (dI (some H)),.d (il H.length),.d (il 0)]=some (0,[.d (dI (nzO (q7x (q0c d (b.getD [])) H acc)))]):=by
 refine q0t (β:=List Int) H (by omega) (qeK (RP (n+2))) (fun i acc=>[.d (il d),.d a,.d (d9 b),.d c,.d o,.d (dI (nzO acc)),.d (dI (some H)),.d (il H.length),.d (il i)]) (fun _ acc=>Up acc∧∀ z∈acc,0≤z∧z≤99)
  (fun _ r acc=>some (0,[.d (dI (nzO (q7x (q0c d (b.getD [])) r acc)))])) (fun acc k _=>by simp [qeK,q7x]) ?_ M0 acc ⟨hu,ha⟩ (q1A (by omega))
 intro i h r acc k hi hd hlt hw hI ih
 obtain ⟨g1,g2⟩:=hI
 have gl:=q3R g1 g2
 have hlt':(i:Int) < (H.length:Int):=by omega
 have hi':((some H).getD [])[i]?=some h:=hi
 have hh:=hr h (List.mem_of_getElem? hi)
 simp only [qeK,q02,q07,q0B,q00,hlt',decide_true,if_true,q3X hi',rI,q0a,q0F,q04,q0u,hw,decide_eq_true_eq,q7x]
 by_cases h0:h=0
 ·rw [if_pos h0,if_pos h0]
  exact ih acc ⟨g1,g2⟩
 ·rw [if_neg h0,if_neg h0]
  have hlen:=q3r (d:=d) hb (f:=h) (by omega)
  simp only [q06,s81 n b a c o h d (by omega) hh.2 hb hl,q01,q02,q3s,Option.getD_some,q0k]
  rw [l83_0 (n+1) _ (by omega) _ _ _ _ _ _ _ _ acc g1 (by omega)]
  simp only [q01,q02,q07,q0u,hw]
  exact ih _ ⟨q1P _ g1,fun z hz=>by
   rcases (q1j z _ _).1 hz with hz | hz
   ·exact g2 z hz
   ·have:=q0Z hb _ h z (Nat.le_refl _) (by omega) hz;omega⟩
set_option maxRecDepth 20000 in
theorem s83 (n:Nat) (a b c:Option (List E9)) (o:Option (List E5)) (d who:Int) (hd:0≤d∧d≤4166) (g:GoodK (a.getD []) (b.getD []) (c.getD []) (o.getD [])) :
  FN (n+8) 83 [d9 a,d9 b,d9 c,d5 o,il who,il d]=some (0,[.d (dI (nzO (qit (a.getD []) (b.getD []) (c.getD []) (o.getD []) d who)))]):=by
 rw [F83]
 have hla:=g.la;have hlb:=g.lb;have hlc:=g.lc;have hlo:=g.lo
 have hh:=q5d d who (a.getD [])
 have hloop:=fun acc hu ha=>l83_1 (n+5) (d9 a) (d9 c) b (d5 o) d g.less (by omega) (q0y d who (a.getD [])) (by omega) (fun h hh=>q3M g.fam hh) acc hu ha
 simp only [G83,q06,s85 n a c o (d9 b) d who hd (by omega) (by omega) (by omega),q01,q02,q04,q0L,q00,q1p,q9f,q0b]
 unfold qit
 have h78:=s78 (n+2) a (d9 b) (d9 c) (d5 o) d who (by omega)
 by_cases h1:q1L (a.getD []) (c.getD []) (o.getD []) d who=1
 ·rw [if_neg (by simp [h1])]
  simp only [q01,q02,q07,q0F,q00,h1]
  rw [if_neg (by simp),if_neg (by simp)]
  simp only [h78,q01,q02,q3s,Option.getD_some,q0k]
  have:=hloop [] (by simp) (by simp)
  rw [show dI (nzO ([]:List Int))=.lit (.slice none 0 0) from rfl] at this
  rw [this]
  simp
 ·rw [if_pos (by simp [h1])]
  simp only [q01,q02,q07,q0F,q00,decide_eq_true_eq]
  by_cases h0:q1L (a.getD []) (c.getD []) (o.getD []) d who=0
  ·rw [if_pos h0,if_pos h0];rfl
  ·rw [if_neg h0,if_neg h0,if_neg h1]
   simp only [h78,q01,q02,q3s,Option.getD_some,q0k]
   have:=hloop (ins 0 []) (by simp [ins]) (by simp [ins])
   rw [show dI (nzO (ins 0 []))=dI (some [0]) from rfl] at this
   rw [this]
   simp
theorem s87 (n:Nat) (l:Option (List Int)) (f:Int) (hl:(l.getD []).length≤4611686018427387904):FN (n+2) 87 [dI l,il f]=some (0,[.d (il (q7q (l.getD []) f))]):=by
 rw [F87]
 simp only [G87,q06,s41 n l f hl,q01,q02,q0V,q00,q04,q0b,q3s,q2V,q7q,decide_eq_true_eq]
 by_cases h:f∈l.getD []
 ·rw [if_neg (by simp [h]),if_pos h]
  by_cases h2:1 < (l.getD []).length
  ·rw [if_pos (by omega),if_pos h2]
  ·rw [if_neg (by omega),if_neg h2]
 ·rw [if_pos (by simp [h]),if_neg h]
section
variable (n:Nat) (p f d k:Int) (a b c:Option (List E9)) (o:Option (List E5)) (ha:(a.getD []).length*72≤140737488351232) (hb:(b.getD []).length*72≤140737488351232) (hc:(c.getD []).length*72≤140737488351232) (ho:(o.getD []).length*40≤140737488351232)
theorem qih {a b c:Option (List E9)} {o:Option (List E5)} {ps fs:Bool} {p f:Int} {ds:List Int} (k:Int) (h:q1m (q0M (a.getD []) (b.getD []) (c.getD []) (o.getD [])) ps fs p f ds=0):GoodK ((nzO (q1y k (a.getD []))).getD []) ((nzO (q1y k (b.getD []))).getD []) ((nzO (q1y k (c.getD []))).getD []) ((nzO (q8B k (o.getD []))).getD []):=by
 rw [q0R,q0R,q0R,q0R]
 exact (q3N (q23 h)).cnt k
theorem qis {a b c:List E9} {o:List E5} (d p:Int) (g:GoodK a b c o):nzO (qit a b c o d p)=some (q38 a b c o d p):=by
 rw [←fam_eq a b c o d p g.by0]
 obtain ⟨z,hz⟩:=qbt (c:=c) (o:=o) (d:=d) (p:=p) g.fam g.less
 exact qhc fun h=>by rw [h] at hz;simp at hz
theorem k83 (n:Nat) {a b c:Option (List E9)} {o:Option (List E5)} (d who:Int) (hd:0≤d∧d≤4166) (g:GoodK (a.getD []) (b.getD []) (c.getD []) (o.getD [])) :
  FN (n+8) 83 [d9 a,d9 b,d9 c,d5 o,il who,il d]=some (0,[.d (dI (some (q38 (a.getD []) (b.getD []) (c.getD []) (o.getD []) d who)))]):=by
 rw [s83 n a b c o d who hd g,qis d who g]
theorem k83z (n:Nat) {a b c:List E9} {o:List E5} (d who:Int) (hd:0≤d∧d≤4166) (g:GoodK a b c o) :
  FN (n+8) 83 [d9 (nzO a),d9 (nzO b),d9 (nzO c),d5 (nzO o),il who,il d]=some (0,[.d (dI (some (q38 a b c o d who)))]):=by
 have:=k83 n (a:=nzO a) (b:=nzO b) (c:=nzO c) (o:=nzO o) d who hd (by rw [q0R,q0R,q0R,q0R];exact g)
 rwa [q0R,q0R,q0R,q0R] at this
include ha hb hc ho
set_option maxRecDepth 20000 in
theorem s15:FN (n+7) 15 [d9 a,d9 b,d9 c,d5 o,il p,il f,il d,il k]=if q1m (q0M (a.getD []) (b.getD []) (c.getD []) (o.getD [])) true true 1 f [d,k]=0 then some (0,[.d (dI (some (q0c d (q1y k (b.getD [])) f))),.d (il 0)]) else some (0,[.d (dI none),.d (il (q1m (q0M (a.getD []) (b.getD []) (c.getD []) (o.getD [])) true true 1 f [d,k]))]):=by
 rw [F15]
 have h76:=s76 n 1 f d k a b c o ha hb hc ho
 simp only [G15,q06,q0P,s77,q01,q02,q07,if_true,Bool.false_eq_true,if_false,h76,q04]
 by_cases he:q1m (q0M (a.getD []) (b.getD []) (c.getD []) (o.getD [])) true true 1 f [d,k]=0
 ·rw [if_pos he,if_pos he]
  have g:=qih k he
  have hlb:=g.lb
  have hf:1≤f∧f≤99:=by
   unfold q1m at he
   split at he
   ·simp at he
   ·split at he
    ·simp at he
    ·split at he
     ·simp at he
     ·rename_i h2;simpa using h2
  simp only [q01,q02,q07,q0L,ne_eq,not_true_eq_false,decide_false,q00,Bool.false_eq_true,if_false,s81 (n+4) _ _ _ _ f d hf.1 hf.2 g.less (by omega),q0R,q0b]
 ·rw [if_neg he,if_neg he]
  simp only [qdy,q01,q02,q07,q0L,q00]
  rw [if_pos (by simpa using he)]
  simp [dI,dSl]
set_option maxRecDepth 20000 in
theorem s17:FN (n+9) 17 [d9 a,d9 b,d9 c,d5 o,il p,il f,il d,il k]=if q1m (q0M (a.getD []) (b.getD []) (c.getD []) (o.getD [])) true true p 1 [d,k]=0 then some (0,[.d (dI (some (q66 k a b c o d p))),.d (il 0)]) else some (0,[.d (dI none),.d (il (q1m (q0M (a.getD []) (b.getD []) (c.getD []) (o.getD [])) true true p 1 [d,k]))]):=by
 rw [F17]
 have h76:=s76 (n+2) p 1 d k a b c o ha hb hc ho
 simp only [G17,q06,q0P,s77,q01,q02,q07,if_true,Bool.false_eq_true,if_false,h76,q04]
 by_cases he:q1m (q0M (a.getD []) (b.getD []) (c.getD []) (o.getD [])) true true p 1 [d,k]=0
 ·rw [if_pos he,if_pos he]
  have g:=(q3N (q23 he)).cnt k
  simp only [q01,q02,q07,q0L,ne_eq,not_true_eq_false,decide_false,q00,Bool.false_eq_true,if_false,k83z n d p (q2u he).1 g,q0b]
  rfl
 ·rw [if_neg he,if_neg he]
  simp only [qdy,q01,q02,q07,q0L,q00]
  rw [if_pos (by simpa using he)]
  simp [dI,dSl]
set_option maxRecDepth 20000 in
theorem s21:FN (n+9) 21 [d9 a,d9 b,d9 c,d5 o,il p,il f,il d,il k]=if q1m (q0M (a.getD []) (b.getD []) (c.getD []) (o.getD [])) true true p f [d,k]=0 then some (0,[.d (il (q7q (q66 k a b c o d p) f)),.d (il 0)]) else some (0,[.d (il 0),.d (il (q1m (q0M (a.getD []) (b.getD []) (c.getD []) (o.getD [])) true true p f [d,k]))]):=by
 rw [F21]
 have h76:=s76 (n+2) p f d k a b c o ha hb hc ho
 simp only [G21,q06,h76,q04]
 by_cases he:q1m (q0M (a.getD []) (b.getD []) (c.getD []) (o.getD [])) true true p f [d,k]=0
 ·rw [if_pos he,if_pos he]
  have g:=(q3N (q23 he)).cnt k
  have hlen:(q38 (q1y k (a.getD [])) (q1y k (b.getD [])) (q1y k (c.getD [])) (q8B k (o.getD [])) d p).length≤100:=q3R (q3E ..) fun z hz=>q2Q g.fam g.less hz
  have h87:=s87 (n+6) (some (q38 (q1y k (a.getD [])) (q1y k (b.getD [])) (q1y k (c.getD [])) (q8B k (o.getD [])) d p)) f (by simp only [Option.getD_some];omega)
  simp only [q01,q02,q07,q0L,ne_eq,not_true_eq_false,decide_false,q00,Bool.false_eq_true,if_false,k83z n d p (q2u he).1 g,h87,q0b]
  rfl
 ·rw [if_neg he,if_neg he]
  simp only [qdy,q01,q02,q07,q0L,q00]
  rw [if_pos (by simpa using he)]
  simp
end
end Go.VE
namespace Go.VE
open Go.RowKit Go.Proofs
def q4v (l:List E9):List Int:=q0n [] (l.map (·.a))
theorem q9n (l:List E9):(q4v l).length≤l.length:=by
 have:=q7Q (l.map (·.a)) []
 simpa [q4v] using this
theorem qfB {l:List E9} (h:l≠[]):q4v l≠[]:=q3t [] (by simpa using h)
set_option maxRecDepth 20000 in
theorem s111 (n:Nat) (a:Option (List E9)) (b c o:D) (hl:(a.getD []).length≤1000000):FN (n+5) 111 [d9 a,b,c,o]=match q4v (a.getD []) with
  | []=>some (1,[.d (dI none)])
  | y::r=>some (0,[.r ((y::r).map rI)]):=by
 rw [F111]
 simp only [G111,q6O,q04,q0k]
 by_cases hne:a.getD []=[]
 ·rw [hne]
  have h0:q0I [q88 (RP (n+4)),q87 (RP (n+4))] M0 0 [.d (d9 a),.d (il (([]:List E9).length:Int)),.d (il 0)]=some (0,[]) :=
   q48 (σ:=Unit) [q88 (RP (n+4)),q87 (RP (n+4))] (fun _=>(0,[.d (d9 a),.d (il (([]:List E9).length:Int)),.d (il 0)])) (fun _=>0) (fun _=>True) (fun _=>some (0,[])) (fun s k _ _=>⟨_,rfl,by simp [q88]⟩) M0 () trivial (by unfold M0;omega)
  rw [h0]
  rfl
 ·have hL:((a.getD []).map (·.a)).length=(a.getD []).length:=by simp
  have:=q8v ((a.getD []).map (·.a)) (by simpa using hl) (by simpa using hne) (q88 (RP (n+4))) (q87 (RP (n+4))) (fun i=>[.d (d9 a),.d (il (a.getD []).length),.d (il (i:Nat))])
   (fun i acc=>[.n acc.length,.n acc.length,.d (d9 a),.d (il (a.getD []).length),.d (il (i:Nat)),.r (acc.map rI)]) (fun acc=>some (1,[.n acc.length,.n acc.length,.r (acc.map rI)])) ?_ ?_ ?_
  ·rw [show il 0=il ((0:Nat):Int) from rfl,this]
   rw [show q0n [] ((a.getD []).map (·.a))=q4v (a.getD []) from rfl]
   have hp:=qfB hne
   cases hq:q4v (a.getD []) with
   | nil=>exact absurd hq hp
   | cons y r=>simp;exact qgX r
  ·intro acc k
   rw [hL]
   simp [q87]
  ·intro x k hi hlt
   rw [hL] at hlt
   obtain ⟨e,he,rfl⟩:∃ e,(a.getD [])[0]?=some e∧e.a=x:=by
    rw [List.getElem?_map] at hi
    cases h0:(a.getD [])[0]? with
    | none=>rw [h0] at hi;simp at hi
    | some e=>rw [h0] at hi;exact ⟨e,rfl,by simpa using hi⟩
   have h9:=q4u (Fn:=FN (n+4)) (FnD:=q1e Tryz.prog (cf3 tb Tryz.prog) (FN (n+4))) (m:=M0) he
   simp only [q88,q02,q07,q0B,q00,Int.natCast_zero,hlt,decide_true,if_true]
   rw [show ((il 0):D)=il ((0:Nat):Int) from rfl,h9]
   simp only [r9,q0a,q0C,q06,q1p,qhd,q01,q02,q07,q00,Bool.false_eq_true,if_false]
   rw [put0]
   simp only [q04,q0u,q10,q0H,q0x,q0A,List.length_cons,List.length_nil,List.take_succ_cons,List.take_zero,Int.natCast_zero]
   rw [show IntKind.i64.wrap (0+1)=((1:Nat):Int) from rfl]
  ·intro i x acc k hi hlt hw hu hal
   rw [hL] at hlt
   obtain ⟨e,he,rfl⟩:∃ e,(a.getD [])[i]?=some e∧e.a=x:=by
    rw [List.getElem?_map] at hi
    cases h0:(a.getD [])[i]? with
    | none=>rw [h0] at hi;simp at hi
    | some e=>rw [h0] at hi;exact ⟨e,rfl,by simpa using hi⟩
   have hput:=q1C n acc e.a (by omega) hu
   simp only [q87,q02,q07,q0r,q0q,q0o,q0p,q0B,q00,hlt,decide_true,if_true,q4u he,r9,q0a,q0C,q0x,q0O,List.length_map,q1D,q06]
   simp only [hput,q01,q02,q17,q04,q0u,hw,q0x,List.length_map]
theorem s90 (n:Nat) (z:Int):FN (n+1) 90 [il z]=some (0,[.d (bl (decide (z=1)))]):=by rw [F90];simp [G90]
theorem s91 (n:Nat) (z:Int):FN (n+1) 91 [il z]=some (0,[.d (bl (decide (z≠0)))]):=by rw [F91];simp only [G91,q04,q0L,q0b]
theorem d90 (n:Nat) (z:Int):FD (n+1) (.fn 90 []) [.one] (rI z)=some (0,[.d (bl (decide (z=1)))]) :=
 q3Z [.one] [.one (il z)] (by decide) rfl (by kernel_rfl) rfl (by kernel_rfl) (s90 n z)
theorem d91 (n:Nat) (z:Int):FD (n+1) (.fn 91 []) [.one] (rI z)=some (0,[.d (bl (decide (z≠0)))]) :=
 q3Z [.one] [.one (il z)] (by decide) rfl (by kernel_rfl) rfl (by kernel_rfl) (s91 n z)
section
variable {a b c:Option (List E9)} {o:Option (List E5)}
theorem s169 (n:Nat) (d f p:Int) (is:D) (q:Int→Bool) (hq:∀ z,FD (n+106) is [.one] (rI z)=some (0,[.d (bl (q z))])) (hd:0≤d∧d≤4166) (g:GoodK (a.getD []) (b.getD []) (c.getD []) (o.getD [])) :
  FN (n+107) 169 [il p,is,q0T a b c o,il f,il d]=some (0,[.d (bl (!q (q7q (q38 (a.getD []) (b.getD []) (c.getD []) (o.getD []) d p) f)))]):=by
 rw [F169]
 have hp:∀ k:List D→Out,(RP (n+106)).ptrW 4 (q0T a b c o) k=k [d9 a,d9 b,d9 c,d5 o]:=fun k=>q26 _ 4 k rfl
 have hz:∀ z,q1e Tryz.prog (cf3 tb Tryz.prog) (FN (n+106)) is [.one] [il z]=some (0,[.d (bl (q z))]):=hq
 simp only [G169,hp,q0a,q0C,q06,k86 n d p f hd g,q01,q02,q1T,hz,q0V,q0b]
theorem d169 (n:Nat) (d f p:Int) (is:D) (q:Int→Bool) (hq:∀ z,FD (n+106) is [.one] (rI z)=some (0,[.d (bl (q z))])) (hd:0≤d∧d≤4166) (g:GoodK (a.getD []) (b.getD []) (c.getD []) (o.getD [])) :
  FD (n+107) (.fn 169 [.dp [is] 0,.dp [q0T a b c o] 0,.dp [il f] 0,.dp [il d] 0]) [.one] (rI p)=some (0,[.d (bl (!q (q7q (q38 (a.getD []) (b.getD []) (c.getD []) (o.getD []) d p) f)))]) :=
 q3Z [.one,.ptr 1,.ptr 1,.ptr 1,.ptr 1] [.one (il p)] (by decide) rfl (by kernel_rfl) rfl (by kernel_rfl) (s169 n d f p is q hq hd g)
end
end Go.VE
namespace Go.VE
open Go.RowKit Go.Proofs
theorem qk1 {Fn:Nat→List D→Out} {f:Nat} (sh':List Sh) {vs:List VD} {xs:List D} {z:D} (hlt:f < 1000000) (hash:tb.ash f=some sh') (hx:q1M sh' vs=some xs)
  (hr:tb.rsk f=[[(false,[.d])]]) (hf:Fn f xs=some (0,[.d z])):FnV (cf3 tb Tryz.prog) Fn f vs=some (0,[.d z]):=by
 have h1:(cf3 tb Tryz.prog).ash f=some sh':=by simp only [cf3,if_pos hlt,hash]
 have h2:qbl ((cf3 tb Tryz.prog).rsk f)=true:=by simp only [cf3,hr];rfl
 simp only [FnV,h1,hx,h2,if_true,hf]
theorem qha (y:Int) (r:List Int):(.sl 1 (((y::r).map rI).take ((y::r).map rI).length):D)=dI (some (y::r)):=by rw [List.take_length];rfl
section
variable {a b c:Option (List E9)} {o:Option (List E5)}
set_option maxRecDepth 20000 in
theorem l89 (n:Nat) (d f:Int) (is:D) (q:Int→Bool) (hq:∀ z,FD (n+107) is [.one] (rI z)=some (0,[.d (bl (q z))])) (hd:0≤d∧d≤4166) (g:GoodK (a.getD []) (b.getD []) (c.getD []) (o.getD []))
  (l:List Int) (hl:l.length≤4611686018427387904) (i0:Nat) (h0:i0 < l.length) (h1:(l.take (i0+1)).filter (fun p=>!(!q (q7q (q38 (a.getD []) (b.getD []) (c.getD []) (o.getD []) d p) f)))=l.take i0) :
  ∃ (i:Nat) (ks:List Int),q0I [qeI (RP (n+108))] M0 0 [.n l.length,.n l.length,.d is,.d (q0T a b c o),.d (il f),.d (il d),.d (il i0),.d (il ((i0+1:Nat):Int)),.r (l.map rI)]=some (0,[.n l.length,.n l.length,.d (il (i:Int)),.r (ks.map rI)])∧i < l.length∧ks.length=l.length∧ks.take i=l.filter (fun p=>!(!q (q7q (q38 (a.getD []) (b.getD []) (c.getD []) (o.getD []) d p) f))):=by
 refine q6n l hl (fun p=>!q (q7q (q38 (a.getD []) (b.getD []) (c.getD []) (o.getD []) d p) f)) (qeI (RP (n+108))) (fun i j ks=>[.n l.length,.n l.length,.d is,.d (q0T a b c o),.d (il f),.d (il d),.d (il (i:Nat)),.d (il (j:Nat)),.r (ks.map rI)])
  (fun i ks=>some (0,[.n l.length,.n l.length,.d (il ((i:Nat):Int)),.r (ks.map rI)])) ?_ ?_ i0 h0 h1
 ·intro i ks k hk
  simp [qeI]
 ·intro i j ks e e2 k _ hj hi hij hjl hil hks hwj hwi
  have hkr:(ks.map rI)[j]?=some (rI e):=by rw [List.getElem?_map,hj];rfl
  have hkr2:(ks.map rI)[i]?=some (rI e2):=by rw [List.getElem?_map,hi];rfl
  have h169:=s169 (n+1) d f e is q hq hd g
  simp only [qeI,q02,q07,q0r,q0q,q0o,q0p,q97,q0B,q00,hjl,decide_true,if_true,q0x,List.length_map,q0O,hks]
  rw [q98 _ _ _ ⟨by omega,hjl⟩,Int.toNat_natCast,q43 1 _ _ _ _ hkr rfl]
  simp only [rI,q0a,q06,h169,q01,q02,q0V,q00,q04,q0u,hwj,hwi]
  cases hqv:q (q7q (q38 (a.getD []) (b.getD []) (c.getD []) (o.getD []) d e) f) with
  | true =>
   simp only [Bool.not_true,Bool.not_false,if_true,Bool.false_eq_true,if_false]
   rw [q98 _ _ _ ⟨by omega,hil⟩,Int.toNat_natCast,q43 1 _ _ _ _ hkr2 rfl]
   simp only [q96,List.map_set,rI]
  | false =>
   simp only [Bool.not_true,Bool.not_false,if_true,Bool.false_eq_true,if_false,rI]
set_option maxRecDepth 20000 in
theorem k89 (n:Nat) (d f:Int) (is:D) (q:Int→Bool) (hq0:∀ z,FD (n+106) is [.one] (rI z)=some (0,[.d (bl (q z))])) (hq:∀ z,FD (n+107) is [.one] (rI z)=some (0,[.d (bl (q z))])) (hd:0≤d∧d≤4166) (g:GoodK (a.getD []) (b.getD []) (c.getD []) (o.getD [])) :
  FN (n+109) 89 [d9 a,d9 b,d9 c,d5 o,il f,il d,is]=some (0,[.d (dI ((nzO (q4v (a.getD []))).map (List.filter fun p=>q (q7q (q38 (a.getD []) (b.getD []) (c.getD []) (o.getD []) d p) f))))]):=by
 rw [F89]
 have hla:=g.la
 have hlp:=q9n (a.getD [])
 have hp:∀ k:List D→Out,(RP (n+108)).ptrW 4 (.dp [d9 a,d9 b,d9 c,d5 o] 0) k=k [d9 a,d9 b,d9 c,d5 o]:=fun k=>q26 _ 4 k rfl
 have h111:=s111 (n+103) a (d9 b) (d9 c) (d5 o) (by omega)
 have hdk:(.dp [d9 a,d9 b,d9 c,d5 o] 0:D)=q0T a b c o:=rfl
 simp only [G89,q6a,q3H,hp,q0a,q0C,q06,h111]
 have hi:=fun l hl=>s186 (n+107) l hl (.fn 169 [.dp [is] 0,.dp [q0T a b c o] 0,.dp [il f] 0,.dp [il d] 0]) (fun p=>!q (q7q (q38 (a.getD []) (b.getD []) (c.getD []) (o.getD []) d p) f)) (fun e _=>d169 n d f e is q hq0 hd g)
 generalize hl:q4v (a.getD [])=l at hlp ⊢
 cases l with
 | nil =>
  have:=hi none (by simp)
  simp only [q0X,q01,q02,q52,hdk,this,q65,fnd,q04,q0F,q00,Option.getD_none]
  simp [nzO,dI,dSl]
 | cons y r =>
  have h2:=hi (some (y::r)) (by simp only [Option.getD_some];omega)
  simp only [Option.getD_some] at h2
  have el:((y::r).map rI).take ((y::r).map rI).length=(y::r).map rI:=List.take_length
  simp only [q01,q0o,q0x,q0O,if_true,q0A,q1D,q52,hdk,qha,h2,q02,q3b,List.all_cons,List.all_nil,qfb,Bool.and_true,q04,q0F,q00,decide_eq_true_eq,q0b]
  have hres:dI ((nzO (y::r)).map (List.filter fun p=>q (q7q (q38 (a.getD []) (b.getD []) (c.getD []) (o.getD []) d p) f)))=dI (some ((y::r).filter fun p=>q (q7q (q38 (a.getD []) (b.getD []) (c.getD []) (o.getD []) d p) f))):=rfl
  rw [hres]
  generalize hy:(y::r)=l at *
  unfold q65
  cases hf:fnd (fun p=>!q (q7q (q38 (a.getD []) (b.getD []) (c.getD []) (o.getD []) d p) f)) l with
  | none =>
   simp only [if_true]
   have:=q3P hf
   simp only [Bool.not_not] at this
   rw [this]
  | some i0 =>
   obtain ⟨h0,h1⟩:=q3O hf
   simp only
   rw [if_neg (by omega),q0u,q0l (by omega) (by omega),q0k,List.length_map]
   obtain ⟨i,ks,e1,e2,e3,e4⟩:=l89 n d f is q hq hd g l (by omega) i0 h0 h1
   rw [show ((i0:Nat):Int)+1=((i0+1:Nat):Int) by simp,e1]
   have ek:(ks.map rI).length=l.length:=by simp [e3]
   simp only [q01,q02,q07,q0r,q0q,q0o,q0p,ek,if_true,q0x,q0O]
   rw [q5z _ _ _ _ e2]
   have ea:i+(l.length - i)=l.length:=by omega
   have et:((ks.map rI).take i++List.replicate (l.length - i) [il 0]).length=l.length:=by
    simp [e3];omega
   simp only [q1x,ea,q2W,q6x,q0A,et,if_true]
   rw [q5A _ _ _ _ (by omega)]
   simp only [Bool.not_not] at e4
   have er:((ks.map rI).take i++List.replicate (l.length - i) [il 0]).take i=(l.filter fun p=>q (q7q (q38 (a.getD []) (b.getD []) (c.getD []) (o.getD []) d p) f)).map rI:=by
    rw [List.take_append_of_le_length (by simp [e3];omega),List.take_take,Nat.min_self,← List.map_take,e4]
   rw [er]
   rfl
theorem d82 (n:Nat) (d p:Int) (hd:0≤d∧d≤4166) (g:GoodK (a.getD []) (b.getD []) (c.getD []) (o.getD [])) :
  FD (n+105) (.fn 2000082 [q0T a b c o]) [.one,.one] [il p,il d]=some (0,[.d (dI (some (q38 (a.getD []) (b.getD []) (c.getD []) (o.getD []) d p)))]):=by
 have h:FnV (cf3 tb Tryz.prog) (FN (n+105)) 82 [.one (q0T a b c o),.one (il p),.one (il d)]=some (0,[.d (dI (some (q38 (a.getD []) (b.getD []) (c.getD []) (o.getD []) d p)))]) :=
  qk1 [.ptr 4,.one,.one] (by decide) rfl (by kernel_rfl) (by kernel_rfl) (k82 n d p hd g)
 have h2:q1e Tryz.prog (cf3 tb Tryz.prog) (FN (n+105)) (.fn 2000082 [q0T a b c o]) [.one,.one] [il p,il d]=if 2000082 < 2000000 then FnV (cf3 tb Tryz.prog) (FN (n+105)) 2000082 ([.one (il p),.one (il d)]++[.one (q0T a b c o)]) else FnV (cf3 tb Tryz.prog) (FN (n+105)) 82 [.one (q0T a b c o),.one (il p),.one (il d)]:=by kernel_rfl
 show q1e Tryz.prog (cf3 tb Tryz.prog) (FN (n+105)) (.fn 2000082 [q0T a b c o]) [.one,.one] [il p,il d]=_
 rw [h2,if_neg (by decide),h]
end
set_option maxRecDepth 20000 in
theorem s171 (n:Nat) (a b:List Int) (ha:a.length≤4611686018427387904):FN (n+1) 171 [dI (some a),dI (some b)]=some (0,[.d (bl (decide (a=b)))]):=by
 rw [F171]
 simp only [G171,q3s,Option.getD_some,q0L,q00,decide_eq_true_eq,q0P,q0b,q04,q0k]
 by_cases hlen:a.length=b.length
 ·rw [if_neg (by simp [hlen])]
  have:=q0t (β:=Unit) a ha (qbN (RP n)) (fun i _=>[.d (dI (some a)),.d (dI (some b)),.d (il a.length),.d (il i)]) (fun _ _=>True)
   (fun i r _=>if r=b.drop i then some (1,[]) else some (0,[.d (bl false)]))
   (fun _ k _=>by rw [hlen,List.drop_length];simp [qbN]) ?_ M0 () trivial (q1A ha)
  ·simp only [Int.natCast_zero,List.drop_zero] at this
   rw [this]
   by_cases h:a=b<;>simp [h]
  ·intro i e r _ k hi hd hlt hw _ ih
   have ih':=ih () trivial
   have hlt':(i:Int) < (a.length:Int):=by omega
   have hlb:i < b.length:=by omega
   have hb:b[i]?=some (b[i]'hlb):=List.getElem?_eq_getElem hlb
   have hdb:b.drop i=b[i]'hlb::b.drop (i+1):=List.drop_eq_getElem_cons hlb
   have hi1:((some a).getD [])[i]?=some e:=hi
   have hi2:((some b).getD [])[i]?=some (b[i]'hlb):=hb
   simp only [qbN,q02,q07,q0B,q00,hlt',decide_true,if_true,q3X hi1,q3X hi2,rI,q0a,q0L,q04,q0u,hw,q0P,q0b,decide_eq_true_eq]
   rw [hdb]
   generalize b[i]'hlb=f
   generalize b.drop (i+1)=t at ih' ⊢
   by_cases h:e=f
   ·subst h
    rw [if_neg (by simp)]
    refine Eq.trans ih' ?_
    simp
   ·rw [if_pos h,if_neg (by simp [h])]
 ·rw [if_pos (by omega)]
  have:¬ a=b:=fun e=>hlen (by rw [e])
  simp [this]
end Go.VE
namespace Go.VE
open Go.RowKit Go.Proofs
def q8A (x y:Int→List Int) (p:Int):Bool:=!decide (x p=y p)
section
variable {a b c:Option (List E9)} {o:Option (List E5)} {a' b' c':Option (List E9)} {o':Option (List E5)}
abbrev fo (a b c:Option (List E9)) (o:Option (List E5)) (d:Int):Int→List Int:=q38 (a.getD []) (b.getD []) (c.getD []) (o.getD []) d
theorem s170 (n:Nat) (d p:Int) (hd:0≤d∧d≤4166) (g:GoodK (a.getD []) (b.getD []) (c.getD []) (o.getD [])) (g':GoodK (a'.getD []) (b'.getD []) (c'.getD []) (o'.getD [])) :
  FN (n+106) 170 [il p,.fn 2000082 [q0T a b c o],il d,q0T a' b' c' o']=some (0,[.d (bl (!q8A (fo a b c o d) (fo a' b' c' o' d) p))]):=by
 rw [F170]
 have hp:∀ k:List D→Out,(RP (n+105)).ptrW 4 (q0T a' b' c' o') k=k [d9 a',d9 b',d9 c',d5 o']:=fun k=>q26 _ 4 k rfl
 have hz:q1e Tryz.prog (cf3 tb Tryz.prog) (FN (n+105)) (.fn 2000082 [q0T a b c o]) [.one,.one] [il p,il d]=_:=d82 n d p hd g
 have hlen:=qdI d p g
 simp only [G170,q1T,hz,q01,hp,q0a,q0C,q06,k82 n d p hd g',q02,s171 (n+104) _ _ (by omega:(q38 (a.getD []) (b.getD []) (c.getD []) (o.getD []) d p).length≤4611686018427387904),q0b]
 simp [q8A]
theorem d170 (n:Nat) (d p:Int) (hd:0≤d∧d≤4166) (g:GoodK (a.getD []) (b.getD []) (c.getD []) (o.getD [])) (g':GoodK (a'.getD []) (b'.getD []) (c'.getD []) (o'.getD [])) :
  FD (n+106) (.fn 170 [.dp [.fn 2000082 [q0T a b c o]] 0,.dp [il d] 0,.dp [q0T a' b' c' o'] 0]) [.one] (rI p)=some (0,[.d (bl (!q8A (fo a b c o d) (fo a' b' c' o' d) p))]) :=
 q3Z [.one,.ptr 1,.ptr 1,.ptr 1] [.one (il p)] (by decide) rfl (by kernel_rfl) rfl (by kernel_rfl) (s170 n d p hd g g')
set_option maxRecDepth 20000 in
theorem l93 (n:Nat) (d:Int) (hd:0≤d∧d≤4166) (g:GoodK (a.getD []) (b.getD []) (c.getD []) (o.getD [])) (g':GoodK (a'.getD []) (b'.getD []) (c'.getD []) (o'.getD []))
  (l:List Int) (hl:l.length≤4611686018427387904) (i0:Nat) (h0:i0 < l.length) (h1:(l.take (i0+1)).filter (fun p=>!(!q8A (fo a b c o d) (fo a' b' c' o' d) p))=l.take i0) :
  ∃ (i:Nat) (ks:List Int),q0I [qeH (RP (n+107))] M0 0 [.n l.length,.n l.length,.d (il d),.d (q0T a' b' c' o'),.d (il i0),.d (il ((i0+1:Nat):Int)),.d (d9 a),.d (d9 b),.d (d9 c),.d (d5 o),.r (l.map rI)]=some (0,[.n l.length,.n l.length,.d (il (i:Int)),.d (d9 a),.d (d9 b),.d (d9 c),.d (d5 o),.r (ks.map rI)])∧i < l.length∧ks.length=l.length∧ks.take i=l.filter (fun p=>!(!q8A (fo a b c o d) (fo a' b' c' o' d) p)):=by
 refine q6n l hl (fun p=>!q8A (fo a b c o d) (fo a' b' c' o' d) p) (qeH (RP (n+107))) (fun i j ks=>[.n l.length,.n l.length,.d (il d),.d (q0T a' b' c' o'),.d (il (i:Nat)),.d (il (j:Nat)),.d (d9 a),.d (d9 b),.d (d9 c),.d (d5 o),.r (ks.map rI)])
  (fun i ks=>some (0,[.n l.length,.n l.length,.d (il ((i:Nat):Int)),.d (d9 a),.d (d9 b),.d (d9 c),.d (d5 o),.r (ks.map rI)])) ?_ ?_ i0 h0 h1
 ·intro i ks k hk
  simp [qeH]
 ·intro i j ks e e2 k _ hj hi hij hjl hil hks hwj hwi
  have hkr:(ks.map rI)[j]?=some (rI e):=by rw [List.getElem?_map,hj];rfl
  have hkr2:(ks.map rI)[i]?=some (rI e2):=by rw [List.getElem?_map,hi];rfl
  have h170:=s170 (n+1) d e hd g g'
  simp only [q0T] at h170
  simp only [qeH,q02,q07,q0r,q0q,q0o,q0p,q97,q0B,q00,hjl,decide_true,if_true,q0x,List.length_map,q0O,hks,q52,q6a,q0T]
  rw [q98 _ _ _ ⟨by omega,hjl⟩,Int.toNat_natCast,q43 1 _ _ _ _ hkr rfl]
  simp only [rI,q0a,q06,h170,q01,q02,q3b,List.all_cons,List.all_nil,yl_b,Bool.and_true,if_true,q0V,q00,q04,q0u,hwj,hwi]
  cases hqv:q8A (fo a b c o d) (fo a' b' c' o' d) e with
  | true =>
   simp only [Bool.not_true,Bool.not_false,if_true,Bool.false_eq_true,if_false]
   rw [q98 _ _ _ ⟨by omega,hil⟩,Int.toNat_natCast,q43 1 _ _ _ _ hkr2 rfl]
   simp only [q96,List.map_set,rI]
  | false =>
   simp only [Bool.not_true,Bool.not_false,if_true,Bool.false_eq_true,if_false,rI]
set_option maxRecDepth 20000 in
theorem k93 (n:Nat) (z:Option (List E9)) (x1 x2 x3:D) (d:Int) (hz:(z.getD []).length≤1000000) (hd:0≤d∧d≤4166) (g:GoodK (a.getD []) (b.getD []) (c.getD []) (o.getD [])) (g':GoodK (a'.getD []) (b'.getD []) (c'.getD []) (o'.getD [])) :
  FN (n+108) 93 [d9 z,x1,x2,x3,d9 a,d9 b,d9 c,d5 o,d9 a',d9 b',d9 c',d5 o',il d]=some (0,[.d (dI ((nzO (q4v (z.getD []))).map (List.filter (q8A (fo a b c o d) (fo a' b' c' o' d)))))]):=by
 rw [F93]
 have hlp:=q9n (z.getD [])
 have h111:=s111 (n+102) z x1 x2 x3 hz
 simp only [G93,q06,h111]
 have hi:=fun l hl=>s186 (n+106) l hl (.fn 170 [.dp [.fn 2000082 [q0T a b c o]] 0,.dp [il d] 0,.dp [q0T a' b' c' o'] 0]) (fun p=>!q8A (fo a b c o d) (fo a' b' c' o' d) p) (fun e _=>d170 n d e hd g g')
 have hdk:(.dp [d9 a,d9 b,d9 c,d5 o] 0:D)=q0T a b c o:=rfl
 have hdk':(.dp [d9 a',d9 b',d9 c',d5 o'] 0:D)=q0T a' b' c' o':=rfl
 generalize hl:q4v (z.getD [])=l at hlp ⊢
 cases l with
 | nil =>
  have:=hi none (by simp)
  simp only [q0X,q01,q02,q52,q6a,hdk,hdk',this,q65,fnd,q3b,List.all_cons,List.all_nil,qfb,Bool.and_true,if_true,q04,q0F,q00,Option.getD_none]
  simp [nzO,dI,dSl]
 | cons y r =>
  have h2:=hi (some (y::r)) (by simp only [Option.getD_some];omega)
  simp only [Option.getD_some] at h2
  simp only [q01,q0o,q0x,q0O,if_true,q0A,q1D,q52,q6a,hdk,hdk',qha,h2,q02,q3b,List.all_cons,List.all_nil,qfb,Bool.and_true,q04,q0F,q00,decide_eq_true_eq,q0b]
  have hres:dI ((nzO (y::r)).map (List.filter (q8A (fo a b c o d) (fo a' b' c' o' d))))=dI (some ((y::r).filter (q8A (fo a b c o d) (fo a' b' c' o' d)))):=rfl
  rw [hres]
  generalize hy:(y::r)=l at *
  unfold q65
  cases hf:fnd (fun p=>!q8A (fo a b c o d) (fo a' b' c' o' d) p) l with
  | none =>
   simp only [if_true]
   have:=q3P hf
   simp only [Bool.not_not] at this
   rw [show (l.filter (q8A (fo a b c o d) (fo a' b' c' o' d)))=l.filter (fun p=>q8A (fo a b c o d) (fo a' b' c' o' d) p) from rfl,this]
  | some i0 =>
   obtain ⟨h0,h1⟩:=q3O hf
   simp only
   rw [if_neg (by omega),q0u,q0l (by omega) (by omega),q0k,List.length_map]
   obtain ⟨i,ks,e1,e2,e3,e4⟩:=l93 n d hd g g' l (by omega) i0 h0 h1
   rw [show ((i0:Nat):Int)+1=((i0+1:Nat):Int) by simp,e1]
   have ek:(ks.map rI).length=l.length:=by simp [e3]
   simp only [q01,q02,q07,q0r,q0q,q0o,q0p,ek,if_true,q0x,q0O]
   rw [q5z _ _ _ _ e2]
   have ea:i+(l.length - i)=l.length:=by omega
   have et:((ks.map rI).take i++List.replicate (l.length - i) [il 0]).length=l.length:=by
    simp [e3];omega
   simp only [q1x,ea,q2W,q6x,q0A,et,if_true]
   rw [q5A _ _ _ _ (by omega)]
   simp only [Bool.not_not] at e4
   have er:((ks.map rI).take i++List.replicate (l.length - i) [il 0]).take i=(l.filter (q8A (fo a b c o d) (fo a' b' c' o' d))).map rI:=by
    rw [List.take_append_of_le_length (by simp [e3];omega),List.take_take,Nat.min_self,← List.map_take,e4]
   rw [er]
   rfl
end
theorem askE_3 {ok ps fs:Bool} {p f d k l:Int} (h:q1m ok ps fs p f [d,k,l]=0):(0≤d∧d≤4166)∧(0≤k∧k≤4166)∧0≤l∧l≤4166:=by
 unfold q1m at h
 split at h
 ·simp at h
 ·split at h
  ·simp at h
  ·split at h
   ·simp at h
   ·split at h
    ·simp at h
    ·rename_i hh
     simp only [List.any_cons,List.any_nil,Bool.or_false,Bool.or_eq_true,Bool.not_eq_true',decide_eq_false_iff_not,not_or,Decidable.not_not] at hh
     exact hh
def fk (k:Int) (a b c:Option (List E9)) (o:Option (List E5)) (d:Int):Int→List Int:=q66 k a b c o d
theorem fo_kn (k:Int) (a b c:Option (List E9)) (o:Option (List E5)) (d:Int):fo (kn9 k a) (kn9 k b) (kn9 k c) (kn5 k o) d=fk k a b c o d:=by
 funext p;unfold fo fk q66;rw [q0w,q0w,q0w,q33]
section
variable (n:Nat) (p f d k l:Int) (a b c:Option (List E9)) (o:Option (List E5)) (ha:(a.getD []).length*72≤140737488351232) (hb:(b.getD []).length*72≤140737488351232) (hc:(c.getD []).length*72≤140737488351232) (ho:(o.getD []).length*40≤140737488351232)
include ha hb hc ho
set_option maxRecDepth 20000 in
theorem s37:FN (n+109) 37 [d9 a,d9 b,d9 c,d5 o,il d,il k,il l]=if q1m (q0M (a.getD []) (b.getD []) (c.getD []) (o.getD [])) false false 0 0 [d,k,l]=0 then some (0,[.d (dI ((nzO (q4v (a.getD []))).map (List.filter (q8A (fk k a b c o d) (fk l a b c o d))))),.d (il 0)]) else some (0,[.d (dI none),.d (il (q1m (q0M (a.getD []) (b.getD []) (c.getD []) (o.getD [])) false false 0 0 [d,k,l]))]):=by
 rw [F37]
 have h73:=s73 (n+98) 0 0 false false a b c o [d,k] l (by simp) ha hb hc ho
 rw [show dI (some ([d,k]++[l]))=.sl 1 [[il d],[il k],[il l]] from rfl,show [d,k]++[l]=[d,k,l] from rfl] at h73
 have h94:=s94 (n+103) k a b c o ha hb hc ho
 simp only [G37,q06,q04,q0P,q0H,q1D,h73]
 by_cases he:q1m (q0M (a.getD []) (b.getD []) (c.getD []) (o.getD [])) false false 0 0 [d,k,l]=0
 ·have g:=q4c k he
  have g':=q4c l he
  have hl:=(q3p (q23 he)).1
  rw [if_pos he]
  have hp:∀ (k:Int) (q:List D→Out),(RP (n+108)).ptrW 4 (q0T (kn9 k a) (kn9 k b) (kn9 k c) (kn5 k o)) q=q [d9 (kn9 k a),d9 (kn9 k b),d9 (kn9 k c),d5 (kn5 k o)]:=fun k q=>q26 _ 4 q rfl
  simp only [q4V,he,if_true,q01,q02,q07,q04,q0L,ne_eq,not_true_eq_false,decide_false,q00,Bool.false_eq_true,if_false,h94,hp,q0a,q0C,k93 n a (d9 b) (d9 c) (d5 o) d (by omega) (askE_3 he).1 g g',q0b,fo_kn]
 ·rw [if_neg he]
  simp only [q4V,if_neg he,q01,q02,q07,q04,q0L,q00]
  rw [if_pos (by simpa using he)]
  simp [dI,dSl]
def qbZ (k:Int) (a b c:Option (List E9)) (o:Option (List E5)) (d f:Int):Option (List Int):=(nzO (q4v (q1y k (a.getD [])))).map (List.filter fun p=>decide (q7q (q66 k a b c o d p) f=1))
def mayL (k:Int) (a b c:Option (List E9)) (o:Option (List E5)) (d f:Int):Option (List Int):=(nzO (q4v (q1y k (a.getD [])))).map (List.filter fun p=>decide (q7q (q66 k a b c o d p) f≠0))
omit ha hb hc ho in
theorem k89s (he:q1m (q0M (a.getD []) (b.getD []) (c.getD []) (o.getD [])) false true 0 f [d,k]=0):FN (n+109) 89 [d9 (kn9 k a),d9 (kn9 k b),d9 (kn9 k c),d5 (kn5 k o),il f,il d,.fn 90 []]=some (0,[.d (dI (qbZ k a b c o d f))]):=by
 rw [k89 n d f (.fn 90 []) (fun z=>decide (z=1)) (fun z=>d90 (n+105) z) (fun z=>d90 (n+106) z) (q2u he).1 (q4c k he)]
 unfold qbZ q66
 rw [q0w,q0w,q0w,q33]
omit ha hb hc ho in
theorem k89m (he:q1m (q0M (a.getD []) (b.getD []) (c.getD []) (o.getD [])) false true 0 f [d,k]=0):FN (n+109) 89 [d9 (kn9 k a),d9 (kn9 k b),d9 (kn9 k c),d5 (kn5 k o),il f,il d,.fn 91 []]=some (0,[.d (dI (mayL k a b c o d f))]):=by
 rw [k89 n d f (.fn 91 []) (fun z=>decide (z≠0)) (fun z=>d91 (n+105) z) (fun z=>d91 (n+106) z) (q2u he).1 (q4c k he)]
 unfold mayL q66
 rw [q0w,q0w,q0w,q33]
set_option maxRecDepth 20000 in
theorem s32:FN (n+110) 32 [d9 a,d9 b,d9 c,d5 o,il f,il d,il k]=if q1m (q0M (a.getD []) (b.getD []) (c.getD []) (o.getD [])) false true 0 f [d,k]=0 then some (0,[.d (dI (qbZ k a b c o d f)),.d (il 0)]) else some (0,[.d (dI none),.d (il (q1m (q0M (a.getD []) (b.getD []) (c.getD []) (o.getD [])) false true 0 f [d,k]))]):=by
 rw [F32]
 simp only [G32,q06,s79,q01,q02,q07,q0H,q1D,qcB (n+99) 0 f d k a b c o ha hb hc ho false true]
 by_cases he:q1m (q0M (a.getD []) (b.getD []) (c.getD []) (o.getD [])) false true 0 f [d,k]=0
 ·rw [if_pos he]
  have hp:∀ q:List D→Out,(RP (n+109)).ptrW 4 (q0T (kn9 k a) (kn9 k b) (kn9 k c) (kn5 k o)) q=q [d9 (kn9 k a),d9 (kn9 k b),d9 (kn9 k c),d5 (kn5 k o)]:=fun q=>q26 _ 4 q rfl
  simp only [q4V,he,if_true,q01,q02,q07,q04,q0L,ne_eq,not_true_eq_false,decide_false,q00,Bool.false_eq_true,if_false,hp,q0a,q0C,q52,k89s n f d k a b c o he,q0b]
 ·rw [if_neg he]
  simp only [q4V,if_neg he,q01,q02,q07,q04,q0L,q00]
  rw [if_pos (by simpa using he)]
  simp [dI,dSl]
set_option maxRecDepth 20000 in
theorem s29:FN (n+110) 29 [d9 a,d9 b,d9 c,d5 o,il f,il d,il k]=if q1m (q0M (a.getD []) (b.getD []) (c.getD []) (o.getD [])) false true 0 f [d,k]=0 then some (0,[.d (il (((qbZ k a b c o d f).getD []).length:Int)),.d (il (((mayL k a b c o d f).getD []).length:Int)),.d (il 0)]) else some (0,[.d (il 0),.d (il 0),.d (il (q1m (q0M (a.getD []) (b.getD []) (c.getD []) (o.getD [])) false true 0 f [d,k]))]):=by
 rw [F29]
 simp only [G29,q06,s79,q01,q02,q07,q0H,q1D,qcB (n+99) 0 f d k a b c o ha hb hc ho false true]
 by_cases he:q1m (q0M (a.getD []) (b.getD []) (c.getD []) (o.getD [])) false true 0 f [d,k]=0
 ·rw [if_pos he]
  have hp:∀ q:List D→Out,(RP (n+109)).ptrW 4 (q0T (kn9 k a) (kn9 k b) (kn9 k c) (kn5 k o)) q=q [d9 (kn9 k a),d9 (kn9 k b),d9 (kn9 k c),d5 (kn5 k o)]:=fun q=>q26 _ 4 q rfl
  simp only [q4V,he,if_true,q01,q02,q07,q04,q0L,ne_eq,not_true_eq_false,decide_false,q00,Bool.false_eq_true,if_false,hp,q0a,q0C,q52,k89s n f d k a b c o he,k89m n f d k a b c o he,q3s,q0b]
 ·rw [if_neg he]
  simp only [q4V,if_neg he,q01,q02,q07,q04,q0L,q00]
  rw [if_pos (by simpa using he)]
  simp
end
end Go.VE
namespace Go.VE
open Go.RowKit Go.Proofs
def wo9 (s:Int) (l:List E9):List E9:=l.filter fun e=>!decide (e.src=s)
def wo5 (s:Int) (l:List E5):List E5:=l.filter fun e=>!decide (e.src=s)
def wk9 (s:Int) (o:Option (List E9)):Option (List E9):=o.map (wo9 s)
def wk5 (s:Int) (o:Option (List E5)):Option (List E5):=o.map (wo5 s)
theorem qaH (s:Int):wk9 s none=none:=rfl
theorem qaI (s:Int):wk5 s none=none:=rfl
theorem q1I (s:Int) (o:Option (List E9)):(wk9 s o).getD []=wo9 s (o.getD []):=by cases o<;>rfl
theorem q6e (s:Int) (o:Option (List E5)):(wk5 s o).getD []=wo5 s (o.getD []):=by cases o<;>rfl
theorem q5H (s:Int) (l:List E9):(wo9 s l).length≤l.length:=List.length_filter_le _ _
theorem qdH (s:Int) (l:List E5):(wo5 s l).length≤l.length:=List.length_filter_le _ _
theorem qa3 {s:Int} {l:List E9} {e:E9} (h:e∈wo9 s l):e∈l:=(List.mem_filter.1 h).1
theorem GoodK.wo {a b c:List E9} {o:List E5} (h:GoodK a b c o) (s:Int):GoodK (wo9 s a) (wo9 s b) (wo9 s c) (wo5 s o) :=
 ⟨fun e he=>h.fam e (qa3 he),fun e he=>h.less e (qa3 he),fun e he=>h.by0 e (qa3 he),Nat.le_trans (q5H ..) h.la,Nat.le_trans (q5H ..) h.lb,Nat.le_trans (q5H ..) h.lc,Nat.le_trans (qdH ..) h.lo⟩
theorem s98 (n:Nat) (e:E9) (s:Int):FN (n+1) 98 (r9 e++[il s])=some (0,[.d (bl (decide (e.src=s)))]):=by
 rw [r9]
 simp only [List.cons_append,List.nil_append]
 rw [F98]
 simp only [G98,q0F,q0b]
theorem d98 (n:Nat) (e:E9) (s:Int):FD (n+1) (.fn 98 [.dp [il s] 0]) [.agg 9] (r9 e)=some (0,[.d (bl (decide (e.src=s)))]) :=
 q3Z [.agg 9,.ptr 1] [.agg (r9 e)] (by decide) rfl (by kernel_rfl) rfl (by kernel_rfl) (s98 n e s)
theorem s100 (n:Nat) (e:E9) (s:Int):FN (n+1) 100 (r9 e++[il s])=some (0,[.d (bl (decide (e.src=s)))]):=by
 rw [r9]
 simp only [List.cons_append,List.nil_append]
 rw [F100]
 simp only [G100,q0F,q0b]
theorem d100 (n:Nat) (e:E9) (s:Int):FD (n+1) (.fn 100 [.dp [il s] 0]) [.agg 9] (r9 e)=some (0,[.d (bl (decide (e.src=s)))]) :=
 q3Z [.agg 9,.ptr 1] [.agg (r9 e)] (by decide) rfl (by kernel_rfl) rfl (by kernel_rfl) (s100 n e s)
theorem s102 (n:Nat) (e:E9) (s:Int):FN (n+1) 102 (r9 e++[il s])=some (0,[.d (bl (decide (e.src=s)))]):=by
 rw [r9]
 simp only [List.cons_append,List.nil_append]
 rw [F102]
 simp only [G102,q0F,q0b]
theorem d102 (n:Nat) (e:E9) (s:Int):FD (n+1) (.fn 102 [.dp [il s] 0]) [.agg 9] (r9 e)=some (0,[.d (bl (decide (e.src=s)))]) :=
 q3Z [.agg 9,.ptr 1] [.agg (r9 e)] (by decide) rfl (by kernel_rfl) rfl (by kernel_rfl) (s102 n e s)
theorem s104 (n:Nat) (e:E5) (s:Int):FN (n+1) 104 (r5 e++[il s])=some (0,[.d (bl (decide (e.src=s)))]):=by
 rw [r5]
 simp only [List.cons_append,List.nil_append]
 rw [F104]
 simp only [G104,q0F,q0b]
theorem d104 (n:Nat) (e:E5) (s:Int):FD (n+1) (.fn 104 [.dp [il s] 0]) [.agg 5] (r5 e)=some (0,[.d (bl (decide (e.src=s)))]) :=
 q3Z [.agg 5,.ptr 1] [.agg (r5 e)] (by decide) rfl (by kernel_rfl) rfl (by kernel_rfl) (s104 n e s)
theorem qff (n:Nat) (s:Int) (l:List E9) (hl:l.length*72≤140737488351232):∃ rest:Rr,FN (n+3) 1000097 [.sl 9 (l.map r9),.fn 98 [.dp [il s] 0]]=some (0,[.d (d9 (wk9 s (some l))),.d (.sl 9 rest)]):=by
 obtain ⟨rest,h⟩:=qaS (n+1) (.fn 98 [.dp [il s] 0]) (fun e=>decide (e.src=s)) l (by omega) (fun e _=>d98 n e s) (fun e _=>d98 (n+1) e s)
 refine ⟨rest,h.trans ?_⟩
 simp only [d9,wk9,wo9,Option.map_some,dSl]
theorem qfe (n:Nat) (s:Int) (l:List E9) (hl:l.length*72≤140737488351232):∃ rest:Rr,FN (n+3) 1000099 [.sl 9 (l.map r9),.fn 100 [.dp [il s] 0]]=some (0,[.d (d9 (wk9 s (some l))),.d (.sl 9 rest)]):=by
 obtain ⟨rest,h⟩:=qaR (n+1) (.fn 100 [.dp [il s] 0]) (fun e=>decide (e.src=s)) l (by omega) (fun e _=>d100 n e s) (fun e _=>d100 (n+1) e s)
 refine ⟨rest,h.trans ?_⟩
 simp only [d9,wk9,wo9,Option.map_some,dSl]
theorem qfd (n:Nat) (s:Int) (l:List E9) (hl:l.length*72≤140737488351232):∃ rest:Rr,FN (n+3) 1000101 [.sl 9 (l.map r9),.fn 102 [.dp [il s] 0]]=some (0,[.d (d9 (wk9 s (some l))),.d (.sl 9 rest)]):=by
 obtain ⟨rest,h⟩:=qaQ (n+1) (.fn 102 [.dp [il s] 0]) (fun e=>decide (e.src=s)) l (by omega) (fun e _=>d102 n e s) (fun e _=>d102 (n+1) e s)
 refine ⟨rest,h.trans ?_⟩
 simp only [d9,wk9,wo9,Option.map_some,dSl]
theorem qfc (n:Nat) (s:Int) (l:List E5) (hl:l.length*40≤140737488351232):∃ rest:Rr,FN (n+3) 1000103 [.sl 5 (l.map r5),.fn 104 [.dp [il s] 0]]=some (0,[.d (d5 (wk5 s (some l))),.d (.sl 5 rest)]):=by
 obtain ⟨rest,h⟩:=qaP (n+1) (.fn 104 [.dp [il s] 0]) (fun e=>decide (e.src=s)) l (by omega) (fun e _=>d104 n e s) (fun e _=>d104 (n+1) e s)
 refine ⟨rest,h.trans ?_⟩
 simp only [d5,wk5,wo5,Option.map_some,dSl]
theorem if2 {α:Type} (p q:Prop) [Decidable p] [Decidable q] (x y:α):(if p then (if q then x else y) else y)=if p∧q then x else y:=by
 by_cases h1:p<;>by_cases h2:q<;>simp [h1,h2]
theorem if3 {α:Type} (p q r:Prop) [Decidable p] [Decidable q] [Decidable r] (x y:α):(if p then (if q then (if r then x else y) else y) else y)=if p∧q∧r then x else y:=by
 by_cases h1:p<;>by_cases h2:q<;>by_cases h3:r<;>simp [h1,h2,h3]
theorem if4 {α:Type} (p q r s:Prop) [Decidable p] [Decidable q] [Decidable r] [Decidable s] (x y:α):(if p then (if q then (if r then (if s then x else y) else y) else y) else y)=if p∧q∧r∧s then x else y:=by
 by_cases h1:p<;>by_cases h2:q<;>by_cases h3:r<;>by_cases h4:s<;>simp [h1,h2,h3,h4]
def q8l (s:Int) (a b c:List E9) (o:List E5):Prop:=((wo9 s a).length:Int)=a.length∧((wo9 s b).length:Int)=b.length∧((wo9 s c).length:Int)=c.length∧((wo5 s o).length:Int)=o.length
instance (s:Int) (a b c:List E9) (o:List E5):Decidable (q8l s a b c o):=by unfold q8l;infer_instance
def qfL (s k:Int) (a b c:Option (List E9)) (o:Option (List E5)) (d:Int):Int→List Int:=q38 (q1y k (wo9 s (a.getD []))) (q1y k (wo9 s (b.getD []))) (q1y k (wo9 s (c.getD []))) (q8B k (wo5 s (o.getD []))) d
def movL (s k:Int) (a b c:Option (List E9)) (o:Option (List E5)) (d:Int):Option (List Int):=(nzO (q4v (a.getD []))).map (List.filter (q8A (fk k a b c o d) (qfL s k a b c o d)))
theorem qin (s k:Int) (a b c:Option (List E9)) (o:Option (List E5)) (d:Int):fo (kn9 k (wk9 s a)) (kn9 k (wk9 s b)) (kn9 k (wk9 s c)) (kn5 k (wk5 s o)) d=qfL s k a b c o d:=by
 funext p;unfold fo qfL;rw [q0w,q0w,q0w,q33,q1I,q1I,q1I,q6e]
set_option maxRecDepth 20000 in
set_option maxHeartbeats 4000000 in
theorem s39 (n:Nat) (s d k:Int) (a b c:Option (List E9)) (o:Option (List E5)) (ha:(a.getD []).length*72≤140737488351232) (hb:(b.getD []).length*72≤140737488351232) (hc:(c.getD []).length*72≤140737488351232) (ho:(o.getD []).length*40≤140737488351232) :
  FN (n+109) 39 [d9 a,d9 b,d9 c,d5 o,il s,il d,il k]=if q1m (q0M (a.getD []) (b.getD []) (c.getD []) (o.getD [])) false false 0 0 [d,k]=0 then (if q8l s (a.getD []) (b.getD []) (c.getD []) (o.getD []) then some (0,[.d (dI none),.d (il 3)]) else some (0,[.d (dI (movL s k a b c o d)),.d (il 0)])) else some (0,[.d (dI none),.d (il (q1m (q0M (a.getD []) (b.getD []) (c.getD []) (o.getD [])) false false 0 0 [d,k]))]):=by
 rw [F39]
 have h73:=qcB (n+98) 0 0 d k a b c o ha hb hc ho false false
 by_cases he:q1m (q0M (a.getD []) (b.getD []) (c.getD []) (o.getD [])) false false 0 0 [d,k]=0
 ·rw [if_pos he]
  have g:=q4c k he
  have gw:GoodK ((kn9 k (wk9 s a)).getD []) ((kn9 k (wk9 s b)).getD []) ((kn9 k (wk9 s c)).getD []) ((kn5 k (wk5 s o)).getD []):=by
   rw [q0w,q0w,q0w,q33,q1I,q1I,q1I,q6e]
   exact ((q3N (q23 he)).wo s).cnt k
  have hla:=(q3p (q23 he)).1
  have h93:=k93 n a (d9 b) (d9 c) (d5 o) d (by omega) (q2u he).1 g gw
  rw [fo_kn,qin] at h93
  have h94:=s94 (n+103) k (wk9 s a) (wk9 s b) (wk9 s c) (wk5 s o) (by rw [q1I];have:=q5H s (a.getD []);omega) (by rw [q1I];have:=q5H s (b.getD []);omega) (by rw [q1I];have:=q5H s (c.getD []);omega) (by rw [q6e];have:=qdH s (o.getD []);omega)
  have hp:∀ (a b c:Option (List E9)) (o:Option (List E5)) (q:List D→Out),(RP (n+108)).ptrW 4 (q0T a b c o) q=q [d9 a,d9 b,d9 c,d5 o]:=fun a b c o q=>q26 _ 4 q rfl
  have hx:(nzO (q4v (a.getD []))).map (List.filter (q8A (fk k a b c o d) (qfL s k a b c o d)))=movL s k a b c o d:=rfl
  rw [hx] at h93
  generalize movL s k a b c o d=M at h93 ⊢
  have h96:=s96 (n+106) a b c o ha hb hc ho
  have hN:q8l s (a.getD []) (b.getD []) (c.getD []) (o.getD [])=((((wk9 s a).getD []).length:Int)=(a.getD []).length∧(((wk9 s b).getD []).length:Int)=(b.getD []).length∧(((wk9 s c).getD []).length:Int)=(c.getD []).length∧(((wk5 s o).getD []).length:Int)=(o.getD []).length):=by
   rw [q1I,q1I,q1I,q6e];rfl
  simp only [hN]
  clear hN hx
  simp only [q04,q0P,G39,q06,q0H,q1D,h73,q4V,he,if_true,q01,q02,q07,q0L,ne_eq,not_true_eq_false,decide_false,q00,Bool.false_eq_true,if_false,h96]
  clear h73 he g gw hla
  obtain ⟨_,ka⟩:=sk (qff (n+105) s)
  obtain ⟨_,kb⟩:=sk (qfe (n+105) s)
  obtain ⟨_,kc⟩:=sk (qfd (n+105) s)
  obtain ⟨_,ko⟩:=sk (qfc (n+105) s)
  cases a<;>cases b<;>cases c<;>cases o<;>try simp only [qaH,qaI] at h94 h93
  all_goals
   try simp only [Option.getD_some] at ha hb hc ho
   simp only [Option.isSome_none,Option.isSome_some,ix96,↓q01,↓q0X,lv9,lv5]
   simp (disch:=first | exact ha | exact hb | exact hc | exact ho) only [q06,s97n,s99n,s101n,s103n,ka,kb,kc,ko,qaH,qaI,q01,q02,q07,q0o,q0p,q0x,q0O,if_true,q0b,q1D,q52,q6a,q17,q4j,q6O,qib,q0F,q00,decide_eq_true_eq,h94,hp,q0a,q0C,h93,q04,q1p,true_and,and_true]
   first | rfl | exact if2 _ _ _ _ | exact if3 _ _ _ _ _ | exact if4 _ _ _ _ _ _
 ·rw [if_neg he]
  simp only [G39,q06,q04,q0P,q0H,q1D,h73,q4V,if_neg he,q01,q02,q07,q0L,q00]
  rw [if_pos (by simpa using he)]
  simp [dI,dSl]
end Go.VE
namespace Go.VE
open Go.RowKit Go.Proofs
def kinA:Option (List E9):=some [⟨1,10,3,0,0,100,100,0,0⟩,⟨2,11,3,0,0,100,100,0,0⟩,⟨3,12,5,0,10,90,100,0,0⟩,⟨4,11,7,40,50,60,60,0,0⟩]
def kinB:Option (List E9):=some [⟨20,5,3,20,30,70,70,8,0⟩]
def kinC:Option (List E9):=some [⟨30,10,0,50,50,52,55,0,0⟩,⟨31,12,10,0,0,100,100,0,0⟩]
def kinO:Option (List E5):=some [⟨40,11,9,5,0⟩]
theorem s168 (n:Nat) (x:Int):FN (n+1) 168 [il x]=some (0,[.d (il x),.d (il x)]):=by rw [F168];simp [G168]
theorem s88 (n:Nat):FN (n+2) 88 []=some (0,[.d (d9 kinA),.d (d9 kinB),.d (d9 kinC),.d (d5 kinO)]):=by
 rw [F88]
 simp only [G88,q06,q04,s168,q01,q02,q07,q10,q0H,q0x,List.length_cons,List.length_nil,q0O,if_true,q0A,q1D,q0b,List.take_succ_cons,List.take_zero]
 simp [kinA,kinB,kinC,kinO,d9,d5,r9,r5,dSl]
theorem kA:(kinA.getD []).length*72≤140737488351232:=by decide
theorem kB:(kinB.getD []).length*72≤140737488351232:=by decide
theorem kC:(kinC.getD []).length*72≤140737488351232:=by decide
theorem kO:(kinO.getD []).length*40≤140737488351232:=by decide
theorem x1 (n:Nat):FN (n+110) 12 [d9 kinA,d9 kinB,d9 kinC,d5 kinO,il 11,il 45,il 9]=some (0,[.d (dI (some [3,7])),.d (il 0)]):=by
 rw [s12 (n+99) 11 45 9 kinA kinB kinC kinO kA kB kC kO,if_pos (by decide +kernel),show q0y 45 11 (q1y 9 (kinA.getD []))=[3,7] by decide +kernel]
theorem x2 (n:Nat):FN (n+110) 14 [d9 kinA,d9 kinB,d9 kinC,d5 kinO,il 5,il 25,il 9]=some (0,[.d (dI (some [3,5])),.d (il 0)]):=by
 rw [s14 (n+5) 5 25 9 kinA kinB kinC kinO kA kB kC kO,if_pos (by decide +kernel),show q0c 25 (q1y 9 (kinB.getD [])) 5=[3,5] by decide +kernel]
theorem x3 (n:Nat):FN (n+110) 16 [d9 kinA,d9 kinB,d9 kinC,d5 kinO,il 12,il 51,il 9]=some (0,[.d (dI (some [0])),.d (il 0)]):=by
 rw [s16 (n+4) 12 51 9 kinA kinB kinC kinO kA kB kC kO,if_pos (by decide +kernel),show q66 9 kinA kinB kinC kinO 51 12=[0] by decide +kernel]
theorem x4 (n:Nat):FN (n+110) 18 [d9 kinA,d9 kinB,d9 kinC,d5 kinO,il 12,il 53,il 9]=some (0,[.d (il 2),.d (il 0)]):=by
 rw [s18 (n+3) 12 53 9 kinA kinB kinC kinO kA kB kC kO,if_pos (by decide +kernel),show q1L (q1y 9 (kinA.getD [])) (q1y 9 (kinC.getD [])) (q8B 9 (kinO.getD [])) 53 12=2 by decide +kernel]
theorem x5 (n:Nat):FN (n+110) 20 [d9 kinA,d9 kinB,d9 kinC,d5 kinO,il 11,il 7,il 55,il 9]=some (0,[.d (il 1),.d (il 0)]):=by
 rw [s20 (n+3) 11 7 55 9 kinA kinB kinC kinO kA kB kC kO,if_pos (by decide +kernel),show q7q (q66 9 kinA kinB kinC kinO 55 11) 7=1 by decide +kernel]
theorem x6 (n:Nat):FN (n+110) 32 [d9 kinA,d9 kinB,d9 kinC,d5 kinO,il 3,il 35,il 9]=some (0,[.d (dI (some [10,11,12])),.d (il 0)]):=by
 rw [s32 n 3 35 9 kinA kinB kinC kinO kA kB kC kO,if_pos (by decide +kernel),show qbZ 9 kinA kinB kinC kinO 35 3=some [10,11,12] by decide +kernel]
theorem x7 (n:Nat):FN (n+110) 29 [d9 kinA,d9 kinB,d9 kinC,d5 kinO,il 3,il 53,il 9]=some (0,[.d (il 0),.d (il 2),.d (il 0)]):=by
 rw [s29 n 3 53 9 kinA kinB kinC kinO kA kB kC kO,if_pos (by decide +kernel),show (((qbZ 9 kinA kinB kinC kinO 53 3).getD []).length:Int)=0 by decide +kernel,show (((mayL 9 kinA kinB kinC kinO 53 3).getD []).length:Int)=2 by decide +kernel]
theorem x8 (n:Nat):FN (n+110) 39 [d9 kinA,d9 kinB,d9 kinC,d5 kinO,il 30,il 53,il 9]=some (0,[.d (dI (some [10,12])),.d (il 0)]):=by
 rw [s39 (n+1) 30 53 9 kinA kinB kinC kinO kA kB kC kO,if_pos (by decide +kernel),if_neg (by decide +kernel),show movL 30 9 kinA kinB kinC kinO 53=some [10,12] by decide +kernel]
theorem x9 (n:Nat):FN (n+110) 37 [d9 kinA,d9 kinB,d9 kinC,d5 kinO,il 10,il 4,il 9]=some (0,[.d (dI (some [11])),.d (il 0)]):=by
 rw [s37 (n+1) 10 4 9 kinA kinB kinC kinO kA kB kC kO,if_pos (by decide +kernel),show (nzO (q4v (kinA.getD []))).map (List.filter (q8A (fk 4 kinA kinB kinC kinO 10) (fk 9 kinA kinB kinC kinO 10)))=some [11] by decide +kernel]
theorem x10 (n:Nat):FN (n+110) 18 [d9 kinA,d9 kinB,d9 kinC,d5 kinO,il 11,il 10,il 9]=some (0,[.d (il 0),.d (il 0)]):=by
 rw [s18 (n+3) 11 10 9 kinA kinB kinC kinO kA kB kC kO,if_pos (by decide +kernel),show q1L (q1y 9 (kinA.getD [])) (q1y 9 (kinC.getD [])) (q8B 9 (kinO.getD [])) 10 11=0 by decide +kernel]
theorem q7F (n:Nat) (l:List Int) (hl:l.length≤100):FN (n+1) 22 [dI (some l),dI (some l)]=some (0,[.d (bl true)]):=by
 rw [s22 n (some l) (some l) (by simp only [Option.getD_some];omega)];simp
theorem a23 {Fn:Nat→List D→Out} {FnD:D→List Sh→List D→Out} {m:Nat} (A B C O L1 L2 L3 L6 L8 L9:D) (h88:Fn 88 []=some (0,[.d A,.d B,.d C,.d O]))
  (h1:Fn 12 [A,B,C,O,il 11,il 45,il 9]=some (0,[.d L1,.d (il 0)])) (h2:Fn 14 [A,B,C,O,il 5,il 25,il 9]=some (0,[.d L2,.d (il 0)])) (h3:Fn 16 [A,B,C,O,il 12,il 51,il 9]=some (0,[.d L3,.d (il 0)]))
  (h4:Fn 18 [A,B,C,O,il 12,il 53,il 9]=some (0,[.d (il 2),.d (il 0)])) (h5:Fn 20 [A,B,C,O,il 11,il 7,il 55,il 9]=some (0,[.d (il 1),.d (il 0)])) (h6:Fn 32 [A,B,C,O,il 3,il 35,il 9]=some (0,[.d L6,.d (il 0)]))
  (h7:Fn 29 [A,B,C,O,il 3,il 53,il 9]=some (0,[.d (il 0),.d (il 2),.d (il 0)])) (h8:Fn 39 [A,B,C,O,il 30,il 53,il 9]=some (0,[.d L8,.d (il 0)])) (h9:Fn 37 [A,B,C,O,il 10,il 4,il 9]=some (0,[.d L9,.d (il 0)]))
  (h10:Fn 18 [A,B,C,O,il 11,il 10,il 9]=some (0,[.d (il 0),.d (il 0)]))
  (q1:Fn 22 [L1,.sl 1 [[il 3],[il 7]]]=some (0,[.d (bl true)])) (q2:Fn 22 [L2,.sl 1 [[il 3],[il 5]]]=some (0,[.d (bl true)])) (q3:Fn 22 [L3,.sl 1 [[il 0]]]=some (0,[.d (bl true)])) (q6:Fn 22 [L6,.sl 1 [[il 10],[il 11],[il 12]]]=some (0,[.d (bl true)]))
  (q8:Fn 22 [L8,.sl 1 [[il 10],[il 12]]]=some (0,[.d (bl true)])) (q9:Fn 22 [L9,.sl 1 [[il 11]]]=some (0,[.d (bl true)])):G23 (q05 Fn FnD m)=some (0,[.d (bl true)]):=by
 simp only [G23,q06,q04,h88,q01,q02,q07,h1,h2,h3,h4,h5,h6,h7,h8,h9,h10,q0F,decide_true,q00,if_true,q0H,q1D,qh5,q0b,q1,q2,q3,q6,q8,q9,Bool.false_eq_true,if_false,and_self]
theorem s23 (n:Nat):FN (n+111) 23 []=some (0,[.d (bl true)]):=by
 rw [F23]
 exact a23 (d9 kinA) (d9 kinB) (d9 kinC) (d5 kinO) (dI (some [3,7])) (dI (some [3,5])) (dI (some [0])) (dI (some [10,11,12])) (dI (some [10,12])) (dI (some [11])) (s88 (n+108)) (x1 n) (x2 n) (x3 n) (x4 n) (x5 n) (x6 n) (x7 n) (x8 n) (x9 n) (x10 n)
  (q7F (n+109) [3,7] (by decide)) (q7F (n+109) [3,5] (by decide)) (q7F (n+109) [0] (by decide)) (q7F (n+109) [10,11,12] (by decide)) (q7F (n+109) [10,12] (by decide)) (q7F (n+109) [11] (by decide))
end Go.VE
namespace Go.VE
open Go.RowKit Go.Shelf Go.Proofs
set_option maxRecDepth 100000
def rho:Ren:=⟨fun x=>if x=21 then 159 else if x=27 then 212 else if x=28 then 213 else if x=35 then 217 else if x=39 then 220 else 0,fun x=>if x=22 then 30 else x,fun x=>x⟩
theorem lays21:Lays2.n21 Tryz.prog rho where
 mixed:=by kernel_rfl
 f21:=by kernel_rfl
 f27:=by kernel_rfl
 f28:=by kernel_rfl
 f35:=by kernel_rfl
 f39:=by kernel_rfl
 t0:=by kernel_rfl
 a0:=fun w=>by kernel_rfl
 z0:=fun w=>by kernel_rfl
 v0:=fun w=>by kernel_rfl
 t3:=by kernel_rfl
 a3:=fun w=>by kernel_rfl
 z3:=fun w=>by kernel_rfl
 v3:=fun w=>by kernel_rfl
 t4:=by kernel_rfl
 a4:=fun w=>by kernel_rfl
 z4:=fun w=>by kernel_rfl
 v4:=fun w=>by kernel_rfl
 t22:=by kernel_rfl
 a22:=fun w=>by kernel_rfl
 z22:=fun w=>by kernel_rfl
 v22:=fun w=>by kernel_rfl
 i3:=by kernel_rfl
theorem spOK:qf9 Tryz.prog (cf3 tb Tryz.prog):=by
 intro f p h
 by_cases hf:f=159
 ·subst hf
  have e:(cf3 tb Tryz.prog).sp 159=some (1,3,8):=by kernel_rfl
  rw [e] at h
  cases h
  exact qfY lays21
 ·exfalso
  have e:(cf3 tb Tryz.prog).sp f=none:=by
   show spT f=none
   unfold spT
   split
   ·exact absurd rfl hf
   ·rfl
  rw [e] at h
  cases h
end Go.VE
namespace Go.VE
open Go.RowKit Go.Proofs Go.Proofs.YtobeabinccohlaaGreat
set_option maxRecDepth 100000
theorem mixP:Tryz.prog.follows .mixedOrders=true:=lays21.mixed
theorem FN_ok (n:Nat):qcN Tryz.prog (cf3 tb Tryz.prog) (FN n):=FnT_ok mixP spOK n
theorem FN_okM (n:Nat):qgH Tryz.prog (cf3 tb Tryz.prog) (FN n):=qk2 mixP spOK n
theorem own:ownKnob Tryz.prog.godebug=none:=by kernel_rfl
theorem qic:laidOutB Tryz.prog=true:=by kernel_rfl
theorem o3 {n:Nat} {ds:List D} (h:HasT Tryz.prog (n+1) 3 ds):∃ z,ds=[il z]∧-9223372036854775808≤z∧z≤9223372036854775807:=h.int Tryz.underlying3
theorem o47 {n:Nat} {ds:List D} (h:HasT Tryz.prog (n+2) 47 ds):∃ a b,ds=[il a,il b]:=by
 obtain ⟨a,b,rfl,h1,c,d,rfl,h2,rfl⟩:=h.struct Tryz.underlying47 rfl
 obtain ⟨x,rfl,_⟩:=o3 h1
 obtain ⟨y,rfl,_⟩:=o3 h2
 exact ⟨x,y,rfl⟩
theorem oE9 {n:Nat} {ds:List D} (h:q3W (HasT Tryz.prog (n+2)) [3,3,3,47,47,3,3] ds):∃ e:E9,ds=r9 e:=by
 obtain ⟨a1,b1,rfl,h1,a2,b2,rfl,h2,a3,b3,rfl,h3,a4,b4,rfl,h4,a5,b5,rfl,h5,a6,b6,rfl,h6,a7,b7,rfl,h7,rfl⟩:=h
 obtain ⟨x1,rfl,_⟩:=o3 h1
 obtain ⟨x2,rfl,_⟩:=o3 h2
 obtain ⟨x3,rfl,_⟩:=o3 h3
 obtain ⟨y1,y2,rfl⟩:=o47 h4
 obtain ⟨z1,z2,rfl⟩:=o47 h5
 obtain ⟨x6,rfl,_⟩:=o3 h6
 obtain ⟨x7,rfl,_⟩:=o3 h7
 exact ⟨⟨x1,x2,x3,y1,y2,z1,z2,x6,x7⟩,rfl⟩
theorem o82 {n:Nat} {ds:List D} (h:HasT Tryz.prog (n+3) 82 ds):∃ e:E5,ds=r5 e:=by
 obtain ⟨a1,b1,rfl,h1,a2,b2,rfl,h2,a3,b3,rfl,h3,a4,b4,rfl,h4,a5,b5,rfl,h5,rfl⟩:=h.struct Tryz.underlying82 rfl
 obtain ⟨x1,rfl,_⟩:=o3 h1
 obtain ⟨x2,rfl,_⟩:=o3 h2
 obtain ⟨x3,rfl,_⟩:=o3 h3
 obtain ⟨x4,rfl,_⟩:=o3 h4
 obtain ⟨x5,rfl,_⟩:=o3 h5
 exact ⟨⟨x1,x2,x3,x4,x5⟩,rfl⟩
theorem qbc {α:Type} {f:α→List D}:∀ {o:Option Rr},(∀ r∈o.getD [],∃ c,r=f c)→∃ q:Option (List α),o=q.map (·.map f)
 | none,_=>⟨none,rfl⟩
 | some rows,h=>by
  obtain ⟨l,hl⟩:=qaT (f:=f) (rows:=rows) h
  exact ⟨some l,by rw [hl];rfl⟩
theorem qdu {n t e:Nat} {ds:List D} (hu:Tryz.prog.underlying t=some (.slice e)) (hc:Tryz.prog.cellsOf e=9) (hb:Tryz.prog.bytesOf e=72) (he:∀ r,HasT Tryz.prog (n+3) e r→∃ x:E9,r=r9 x) (h:HasT Tryz.prog (n+4) t ds):∃ o:Option (List E9),ds=[d9 o]∧(o.getD []).length*72≤140737488351232:=by
 obtain ⟨o,rfl,h1,h2⟩:=h.sl hu hc hb
 obtain ⟨q,rfl⟩:=qbc (f:=r9) fun r hr=>he r (h2 r hr)
 refine ⟨q,rfl,?_⟩
 cases q<;>simpa using h1
theorem o50 {n:Nat} {r:List D} (h:HasT Tryz.prog (n+3) 50 r):∃ x:E9,r=r9 x:=oE9 (h.struct Tryz.underlying50 rfl)
theorem o52 {n:Nat} {r:List D} (h:HasT Tryz.prog (n+3) 52 r):∃ x:E9,r=r9 x:=oE9 (h.struct Tryz.underlying52 rfl)
theorem o54 {n:Nat} {r:List D} (h:HasT Tryz.prog (n+3) 54 r):∃ x:E9,r=r9 x:=oE9 (h.struct Tryz.underlying54 rfl)
theorem o25 {n:Nat} {ds:List D} (h:HasT Tryz.prog (n+4) 25 ds):∃ o:Option (List E5),ds=[d5 o]∧(o.getD []).length*40≤140737488351232:=by
 obtain ⟨o,rfl,h1,h2⟩:=h.sl (c:=5) (b:=40) Tryz.underlying25 (by kernel_rfl) (by kernel_rfl)
 obtain ⟨q,rfl⟩:=qbc (f:=r5) fun r hr=>o82 (h2 r hr)
 refine ⟨q,rfl,?_⟩
 cases q<;>simpa using h1
theorem o27 {n:Nat} {ds:List D} (h:HasT Tryz.prog (n+5) 27 ds):∃ (a b c:Option (List E9)) (o:Option (List E5)),ds=[d9 a,d9 b,d9 c,d5 o]∧(a.getD []).length*72≤140737488351232∧(b.getD []).length*72≤140737488351232∧(c.getD []).length*72≤140737488351232∧(o.getD []).length*40≤140737488351232:=by
 obtain ⟨a1,b1,rfl,h1,a2,b2,rfl,h2,a3,b3,rfl,h3,a4,b4,rfl,h4,rfl⟩:=h.struct Tryz.underlying27 rfl
 obtain ⟨a,rfl,ha⟩:=qdu Tryz.underlying22 (by kernel_rfl) (by kernel_rfl) (fun r hr=>o50 hr) h1
 obtain ⟨b,rfl,hb⟩:=qdu Tryz.underlying23 (by kernel_rfl) (by kernel_rfl) (fun r hr=>o52 hr) h2
 obtain ⟨c,rfl,hc⟩:=qdu Tryz.underlying24 (by kernel_rfl) (by kernel_rfl) (fun r hr=>o54 hr) h3
 obtain ⟨o,rfl,ho⟩:=o25 h4
 exact ⟨a,b,c,o,rfl,ha,hb,hc,ho⟩
theorem o29 {n:Nat} {ds:List D} (h:HasT Tryz.prog (n+2) 29 ds):∃ p f d k,ds=[il p,il f,il d,il k]:=by
 obtain ⟨a1,b1,rfl,h1,a2,b2,rfl,h2,a3,b3,rfl,h3,a4,b4,rfl,h4,rfl⟩:=h.struct Tryz.underlying29 rfl
 obtain ⟨x1,rfl,_⟩:=o3 h1
 obtain ⟨x2,rfl,_⟩:=o3 h2
 obtain ⟨x3,rfl,_⟩:=o3 h3
 obtain ⟨x4,rfl,_⟩:=o3 h4
 exact ⟨x1,x2,x3,x4,rfl⟩
theorem qgi (ok:Bool) (f:Int) (ds:List Int):q1m ok true true 1 f ds=q1m ok false true 0 f ds:=by
 unfold q1m;simp
end Go.VE
