/- Family: Leads, Families, Gleans, For (program). -/
import Derived.Test.YtobeabinccohlaaGreatMg3
namespace Go.VE
open Go.RowKit Go.Proofs
attribute [local simp] q5z q67
theorem q22 {a b c:List E9} {o:List E5} (h:q0m a b c o=true):(∀ e∈a,q2e e)∧(∀ e∈b,q2f e)∧(∀ e∈c,q2g e)∧(∀ e∈o,q4k e):=by
 unfold q0m at h
 simp only [Bool.and_eq_true] at h
 obtain ⟨⟨⟨⟨_,h1⟩,h2⟩,h3⟩,h4⟩:=h
 exact ⟨fun e he=>of_decide_eq_true (q7j h1 e he),fun e he=>of_decide_eq_true (q7j h2 e he),fun e he=>of_decide_eq_true (q7j h3 e he),fun e he=>of_decide_eq_true (q7j h4 e he)⟩
theorem q6U {k:Int} {l:List E9} {e:E9} (h:e∈q0T k l):e∈l:=(List.mem_filter.1 h).1
structure GoodK (a b c:List E9) (o:List E5):Prop where
 fam:qfL a
 less:q62 b
 by0:By0 c
 la:a.length≤60
 lb:b.length≤60
 lc:c.length≤60
 lo:o.length≤60
theorem q1o {a b c:List E9} {o:List E5} (h:q0m a b c o=true):GoodK a b c o:=by
 obtain ⟨p1,p2,p3,_⟩:=q22 h
 obtain ⟨l1,l2,l3,l4⟩:=q16 h
 exact ⟨fun e he=>(p1 e he).2.2.1,fun e he=>⟨(p2 e he).2.2.1.1,by have:=(p2 e he).2.2.1.2;omega,(p2 e he).2.1.2⟩,fun e he=>(p3 e he).2.2.1.1,l1,l2,l3,l4⟩
theorem q5I (k:Int) (l:List E9):(q0T k l).length≤l.length:=List.length_filter_le _ _
theorem qgq (k:Int) (l:List E5):(q4J k l).length≤l.length:=List.length_filter_le _ _
theorem GoodK.cnt {a b c:List E9} {o:List E5} (h:GoodK a b c o) (k:Int):GoodK (q0T k a) (q0T k b) (q0T k c) (q4J k o) :=
 ⟨fun e he=>h.fam e (q6U he),fun e he=>h.less e (q6U he),fun e he=>h.by0 e (q6U he),Nat.le_trans (q5I ..) h.la,Nat.le_trans (q5I ..) h.lb,Nat.le_trans (q5I ..) h.lc,Nat.le_trans (qgq ..) h.lo⟩
theorem s199 (n:Nat) (o:Option (List Int)) (x:Int) (hl:(o.getD []).length≤4611686018427387904):FN (n+1) 199 [dI o,il x]=some (0,[.d (il (q6X (fun y=>decide (x=y)) (o.getD [])))]):=by
 rw [F199]
 simp only [G199,q2I,q03,q0n]
 have:=q0z (β:=Unit) (o.getD []) hl (L199_0 (RP n)) (fun i _=>[.d (dI o),.d (il x),.d (il (o.getD []).length),.d (il i)]) (fun _ _=>True)
  (fun i r _=>match fnd (fun y=>decide (x=y)) r with
   | some j=>some (0,[.d (il ((i+j:Nat):Int))])
   | none=>some (1,[]))
  (fun _ k _=>by simp [L199_0,fnd]) ?_ M0 () trivial (q2u hl)
 ·simp only [Int.natCast_zero,Nat.zero_add] at this
  rw [this]
  unfold q6X
  cases fnd (fun y=>decide (x=y)) (o.getD [])<;>simp
 ·intro i e r _ k hi hd hlt hw _ ih
  have ih':=ih () trivial
  have hlt':(i:Int) < ((o.getD []).length:Int):=by omega
  simp only [L199_0,q02,q05,q0p,q01,hlt',decide_true,if_true,q2S hi,rI,q08,q0K,q03,q0k,hw,q0e,decide_eq_true_eq]
  by_cases h:x=e
  ·subst h;simp [fnd]
  ·rw [if_neg h]
   have h':fnd (fun y=>decide (x=y)) (e::r)=(fnd (fun y=>decide (x=y)) r).map (·+1):=by simp [fnd,h]
   rw [h']
   refine Eq.trans ih' ?_
   cases fnd (fun y=>decide (x=y)) r with
   | none=>rfl
   | some j=>simp [Nat.add_assoc,Nat.add_comm 1 j]
theorem s149 (n:Nat) (o:Option (List Int)) (x:Int) (hl:(o.getD []).length≤4611686018427387904):FN (n+2) 149 [dI o,il x]=some (0,[.d (bl (decide (x∈o.getD [])))]):=by
 rw [F149]
 simp only [G149,q07,s199 n o x hl,q00,q02,q03,q1L,q0e,q6j]
 have:((o.getD []).any fun y=>decide (x=y))=decide (x∈o.getD []):=by
  rw [Bool.eq_iff_iff,q2R,decide_eq_true_iff]
  constructor
  ·rintro ⟨y,hy,h⟩;have:=of_decide_eq_true h;subst this;exact hy
  ·intro h;exact ⟨x,h,by simp⟩
 rw [this]
def q24 (k:Int) (a b c:Option (List E9)) (o:Option (List E5)) (d p:Int):List Int:=q1s (q0T k (a.getD [])) (q0T k (b.getD [])) (q0T k (c.getD [])) (q4J k (o.getD [])) d p
section
variable {a b c:Option (List E9)} {o:Option (List E5)}
theorem k82 (n:Nat) (d who:Int) (hd:0≤d∧d≤4166) (g:GoodK (a.getD []) (b.getD []) (c.getD []) (o.getD [])) :
  FN (n+105) 82 [d9 a,d9 b,d9 c,d5 o,il who,il d]=some (0,[.d (dI (some (q1s (a.getD []) (b.getD []) (c.getD []) (o.getD []) d who)))]) :=
 s82 n a b c o d who hd g.fam g.less (by have:=g.la;omega) (by have:=g.lb;omega) (by have:=g.lc;omega) (by have:=g.lo;omega)
theorem qer (d p:Int) (g:GoodK (a.getD []) (b.getD []) (c.getD []) (o.getD [])):(q1s (a.getD []) (b.getD []) (c.getD []) (o.getD []) d p).length≤100 :=
 q1t (q1y ..) fun _ hz=>q19 g.fam g.less hz
theorem k86 (n:Nat) (d who f:Int) (hd:0≤d∧d≤4166) (g:GoodK (a.getD []) (b.getD []) (c.getD []) (o.getD [])) :
  FN (n+106) 86 [d9 a,d9 b,d9 c,d5 o,il who,il f,il d]=some (0,[.d (il (q4l (q1s (a.getD []) (b.getD []) (c.getD []) (o.getD []) d who) f))]):=by
 rw [F86]
 have hlen:=qer d who g
 obtain ⟨x,r,hx,_⟩:=qaK (q1y (a.getD []) (b.getD []) (c.getD []) (o.getD []) d who) (fun z hz=>(q19 g.fam g.less hz).1) (q8N g.fam g.less)
 simp only [G86,q07,k82 n d who hd g,q00,q02]
 rw [←forP _ f x r hx]
 have h149:=s149 (n+103) (some (q1s (a.getD []) (b.getD []) (c.getD []) (o.getD []) d who)) f (by simp only [Option.getD_some];omega)
 have hrow:∀ q:List D→Out,(RP (n+105)).rowD 1 (dI (some (q1s (a.getD []) (b.getD []) (c.getD []) (o.getD []) d who))) (il 0) q=q (rI x):=fun q=>q2S (i:=0) (by rw [hx];rfl) q
 simp only [Option.getD_some] at h149
 simp only [h149,q00,q02,q2I,Option.getD_some,q03,q2X,q01,q0R,s84,q0e,decide_eq_true_eq,hrow,rI,q08,q0w]
 generalize q1s (a.getD []) (b.getD []) (c.getD []) (o.getD []) d who=l at hx ⊢
 by_cases h:1 < l.length
 ·rw [if_pos (by omega)];simp [h]
 ·rw [if_neg (by omega)];simp [h]
end
theorem q4C {a b c:Option (List E9)} {o:Option (List E5)} {ps fs:Bool} {p f:Int} {ds:List Int} (k:Int) (h:q0U (q0m (a.getD []) (b.getD []) (c.getD []) (o.getD [])) ps fs p f ds=0):GoodK ((kn9 k a).getD []) ((kn9 k b).getD []) ((kn9 k c).getD []) ((kn5 k o).getD []):=by
 rw [q0H,q0H,q0H,q3w]
 exact (q1o (q1i h)).cnt k
section
variable (n:Nat) (p f d k:Int) (a b c:Option (List E9)) (o:Option (List E5)) (ha:(a.getD []).length*72≤140737488351232) (hb:(b.getD []).length*72≤140737488351232) (hc:(c.getD []).length*72≤140737488351232) (ho:(o.getD []).length*40≤140737488351232)
include ha hb hc ho
theorem qbj (ps fs:Bool):FN (n+10) 73 [il p,il f,bl ps,bl fs,d9 a,d9 b,d9 c,d5 o,.sl 1 [[il d],[il k]]]=q56 (q0U (q0m (a.getD []) (b.getD []) (c.getD []) (o.getD [])) ps fs p f [d,k]) (q0Y (kn9 k a) (kn9 k b) (kn9 k c) (kn5 k o)):=by
 have h73:=s73 n p f ps fs a b c o [d] k (by simp) ha hb hc ho
 rw [show dI (some ([d]++[k]))=.sl 1 [[il d],[il k]] from rfl] at h73
 exact h73
set_option maxRecDepth 20000 in
theorem s14:FN (n+105) 14 [d9 a,d9 b,d9 c,d5 o,il f,il d,il k]=if q0U (q0m (a.getD []) (b.getD []) (c.getD []) (o.getD [])) false true 0 f [d,k]=0 then some (0,[.d (dI (some (q0d d (q0T k (b.getD [])) f))),.d (il 0)]) else some (0,[.d (dI none),.d (il (q0U (q0m (a.getD []) (b.getD []) (c.getD []) (o.getD [])) false true 0 f [d,k]))]):=by
 rw [F14]
 simp only [G14,q07,s79,q00,q02,q05,q0v,q1f,qbj (n+94) 0 f d k a b c o ha hb hc ho false true]
 by_cases he:q0U (q0m (a.getD []) (b.getD []) (c.getD []) (o.getD [])) false true 0 f [d,k]=0
 ·have g:=q4C k he
  have hf:1≤f∧f≤99:=by
   unfold q0U at he
   split at he
   ·simp at he
   ·split at he
    ·simp at he
    ·split at he
     ·simp at he
     ·rename_i h2;simpa using h2
  have hlb:=g.lb
  obtain ⟨q',_,h161⟩:=s161 (kn9 k a) (kn9 k b) (kn9 k c) (kn5 k o) d g.less (by omega) 99 n f ([],[]) hf.1 (by omega) hf.2 (qc3 _ _)
  rw [if_pos he]
  simp only [q56,he,if_true,q00,q02,q05,q03,q0w,ne_eq,not_true_eq_false,decide_false,q01,Bool.false_eq_true,if_false,qim,q67,h161,q5z,q0e]
  rw [q0H]
 ·rw [if_neg he]
  simp only [q56,if_neg he,q00,q02,q05,q03,q0w,q01]
  rw [if_pos (by simpa using he)]
  simp [dI,dSl]
set_option maxRecDepth 20000 in
theorem s16:FN (n+106) 16 [d9 a,d9 b,d9 c,d5 o,il p,il d,il k]=if q0U (q0m (a.getD []) (b.getD []) (c.getD []) (o.getD [])) true false p 0 [d,k]=0 then some (0,[.d (dI (some (q24 k a b c o d p))),.d (il 0)]) else some (0,[.d (dI none),.d (il (q0U (q0m (a.getD []) (b.getD []) (c.getD []) (o.getD [])) true false p 0 [d,k]))]):=by
 rw [F16]
 simp only [G16,q07,s72,q00,q02,q05,q0v,q1f,qbj (n+95) p 0 d k a b c o ha hb hc ho true false]
 by_cases he:q0U (q0m (a.getD []) (b.getD []) (c.getD []) (o.getD [])) true false p 0 [d,k]=0
 ·have g:=q4C k he
  rw [if_pos he]
  have hp:∀ q:List D→Out,(RP (n+105)).ptrW 4 (q0Y (kn9 k a) (kn9 k b) (kn9 k c) (kn5 k o)) q=q [d9 (kn9 k a),d9 (kn9 k b),d9 (kn9 k c),d5 (kn5 k o)]:=fun q=>q2d _ 4 q rfl
  simp only [q56,he,if_true,q00,q02,q05,q03,q0w,ne_eq,not_true_eq_false,decide_false,q01,Bool.false_eq_true,if_false,hp,q08,q0r,k82 n d p (q1F he).1 g,q0e]
  rw [q0H,q0H,q0H,q3w];rfl
 ·rw [if_neg he]
  simp only [q56,if_neg he,q00,q02,q05,q03,q0w,q01]
  rw [if_pos (by simpa using he)]
  simp [dI,dSl]
set_option maxRecDepth 20000 in
theorem s18:FN (n+107) 18 [d9 a,d9 b,d9 c,d5 o,il p,il d,il k]=if q0U (q0m (a.getD []) (b.getD []) (c.getD []) (o.getD [])) true false p 0 [d,k]=0 then some (0,[.d (il (q1B (q0T k (a.getD [])) (q0T k (c.getD [])) (q4J k (o.getD [])) d p)),.d (il 0)]) else some (0,[.d (il 0),.d (il (q0U (q0m (a.getD []) (b.getD []) (c.getD []) (o.getD [])) true false p 0 [d,k]))]):=by
 rw [F18]
 simp only [G18,q07,s16 n p d k a b c o ha hb hc ho]
 by_cases he:q0U (q0m (a.getD []) (b.getD []) (c.getD []) (o.getD [])) true false p 0 [d,k]=0
 ·have g:=(q1o (q1i he)).cnt k
  rw [if_pos he,if_pos he]
  have hr:∀ z∈q24 k a b c o d p,0≤z:=fun z hz=>(q19 g.fam g.less hz).1
  obtain ⟨x,r,hx,_⟩:=qaK (q1y _ _ _ _ d p) hr (q8N g.fam g.less)
  have hlen:(q24 k a b c o d p).length≤100:=q1t (q1y ..) fun z hz=>q19 g.fam g.less hz
  have hpos:0 < (q24 k a b c o d p).length:=by rw [show q24 k a b c o d p=x::r from hx];simp
  obtain ⟨y,hy⟩:∃ y,(q24 k a b c o d p)[(q24 k a b c o d p).length - 1]?=some y:=⟨_,List.getElem?_eq_getElem (by omega)⟩
  have hgl:=qiH g.fam g.less g.by0 hx hy
  have hw:IntKind.i64.wrap (((q24 k a b c o d p).length:Int) - 1)=(((q24 k a b c o d p).length - 1:Nat):Int):=by rw [q0f (by omega) (by omega)];omega
  have h0:∀ q:List D→Out,(RP (n+106)).rowD 1 (dI (some (q24 k a b c o d p))) (il 0) q=q (rI x):=fun q=>q2S (i:=0) (by rw [show q24 k a b c o d p=x::r from hx];rfl) q
  have h1:∀ q:List D→Out,(RP (n+106)).rowD 1 (dI (some (q24 k a b c o d p))) (il (((q24 k a b c o d p).length - 1:Nat):Int)) q=q (rI y):=fun q=>q2S (o:=some (q24 k a b c o d p)) hy q
  simp only [q00,q02,q05,q03,q0w,ne_eq,not_true_eq_false,decide_false,q01,Bool.false_eq_true,if_false,q2I,Option.getD_some,q1k,hw,h0,h1,rI,q08,q0K,s84,q0e]
  rw [←hgl]
 ·rw [if_neg he,if_neg he]
  simp only [q00,q02,q05,q03,q0w,q01]
  rw [if_pos (by simpa using he)]
  simp
set_option maxRecDepth 20000 in
theorem s20:FN (n+107) 20 [d9 a,d9 b,d9 c,d5 o,il p,il f,il d,il k]=if q0U (q0m (a.getD []) (b.getD []) (c.getD []) (o.getD [])) true true p f [d,k]=0 then some (0,[.d (il (q4l (q24 k a b c o d p) f)),.d (il 0)]) else some (0,[.d (il 0),.d (il (q0U (q0m (a.getD []) (b.getD []) (c.getD []) (o.getD [])) true true p f [d,k]))]):=by
 rw [F20]
 simp only [G20,q07,q0R,q0v,q1f,qbj (n+96) p f d k a b c o ha hb hc ho true true]
 by_cases he:q0U (q0m (a.getD []) (b.getD []) (c.getD []) (o.getD [])) true true p f [d,k]=0
 ·have g:=q4C k he
  rw [if_pos he]
  have hp:∀ q:List D→Out,(RP (n+106)).ptrW 4 (q0Y (kn9 k a) (kn9 k b) (kn9 k c) (kn5 k o)) q=q [d9 (kn9 k a),d9 (kn9 k b),d9 (kn9 k c),d5 (kn5 k o)]:=fun q=>q2d _ 4 q rfl
  simp only [q56,he,if_true,q00,q02,q05,q03,q0w,ne_eq,not_true_eq_false,decide_false,q01,Bool.false_eq_true,if_false,hp,q08,q0r,k86 n d p f (q1F he).1 g,q0e]
  rw [q0H,q0H,q0H,q3w];rfl
 ·rw [if_neg he]
  simp only [q56,if_neg he,q00,q02,q05,q03,q0w,q01]
  rw [if_pos (by simpa using he)]
  simp
end
end Go.VE
namespace Go.VE
open Go.RowKit Go.Proofs
theorem qed {l:List Int} (h:l≠[]):nzO l=some l:=by
 cases l with
 | nil=>exact absurd rfl h
 | cons _ _=>rfl
theorem qiq (x:Int) (l:List Int):nzO (ins x l)=some (ins x l):=qed (q7G x l)
set_option maxRecDepth 20000 in
theorem l83_0 (n:Nat) (L:List Int) (hL:L.length≤1000000) (x0 x1 x2 x3 x4 x6 x7 x8:D) (acc:List Int) (hu:Up acc) (ha:acc.length≤1000) :
  q0u [L83_0 (RP (n+1))] M0 0 [.d x0,.d x1,.d x2,.d x3,.d x4,.d (dI (nzO acc)),.d x6,.d x7,.d x8,.d (dI (some L)),.d (il L.length),.d (il 0)]=some (0,[.d x0,.d x1,.d x2,.d x3,.d x4,.d (dI (nzO (q0a acc L))),.d x6,.d x7,.d x8]):=by
 refine q6i L hL _ (fun i acc=>[.d x0,.d x1,.d x2,.d x3,.d x4,.d (dI (nzO acc)),.d x6,.d x7,.d x8,.d (dI (some L)),.d (il L.length),.d (il (i:Nat))])
  (fun acc=>some (0,[.d x0,.d x1,.d x2,.d x3,.d x4,.d (dI (nzO acc)),.d x6,.d x7,.d x8])) 1000 ?_ ?_ acc hu ha
 ·intro acc k;simp [L83_0]
 ·intro i c acc k hi hlt hw hu hl
  have hi':((some L).getD [])[i]?=some c:=hi
  have hput:=s92 n (nzO acc) c (by rw [q0b];omega) (by rw [q0b];exact hu)
  rw [q0b] at hput
  simp only [L83_0,q02,q05,q0p,q01,hlt,decide_true,if_true,q2S hi',rI,q08,q07,hput,q00,q03,q0k,hw,qiq]
set_option maxRecDepth 20000 in
theorem l83_1 (n:Nat) (a c:D) (b:Option (List E9)) (o:D) (d:Int) (hb:q62 (b.getD [])) (hl:(b.getD []).length≤1000000) (H:List Int) (hH:H.length≤1000) (hr:∀ h∈H,0≤h∧h≤99) (acc:List Int) (hu:Up acc) (ha:∀ z∈acc,0≤z∧z≤99) :
  q0u [L83_1 (RP (n+2))] M0 0 [.d (il d),.d a,.d (d9 b),.d c,.d o,.d (dI (nzO acc)),.d (dI (some H)),.d (il H.length),.d (il 0)]=some (0,[.d (dI (nzO (q8m (q0d d (b.getD [])) H acc)))]):=by
 refine q0z (β:=List Int) H (by omega) (L83_1 (RP (n+2))) (fun i acc=>[.d (il d),.d a,.d (d9 b),.d c,.d o,.d (dI (nzO acc)),.d (dI (some H)),.d (il H.length),.d (il i)]) (fun _ acc=>Up acc∧∀ z∈acc,0≤z∧z≤99)
  (fun _ r acc=>some (0,[.d (dI (nzO (q8m (q0d d (b.getD [])) r acc)))])) (fun acc k _=>by simp [L83_1,q8m]) ?_ M0 acc ⟨hu,ha⟩ (q2u (by omega))
 intro i h r acc k hi hd hlt hw hI ih
 obtain ⟨g1,g2⟩:=hI
 have gl:=q1t g1 g2
 have hlt':(i:Int) < (H.length:Int):=by omega
 have hi':((some H).getD [])[i]?=some h:=hi
 have hh:=hr h (List.mem_of_getElem? hi)
 simp only [L83_1,q02,q05,q0p,q01,hlt',decide_true,if_true,q2S hi',rI,q08,q0K,q03,q0k,hw,decide_eq_true_eq,q8m]
 by_cases h0:h=0
 ·rw [if_pos h0,if_pos h0]
  exact ih acc ⟨g1,g2⟩
 ·rw [if_neg h0,if_neg h0]
  have hlen:=q35 (d:=d) hb (f:=h) (by omega)
  simp only [q07,s81 n b a c o h d (by omega) hh.2 hb hl,q00,q02,q2I,Option.getD_some,q0n]
  rw [l83_0 (n+1) _ (by omega) _ _ _ _ _ _ _ _ acc g1 (by omega)]
  simp only [q00,q02,q05,q0k,hw]
  exact ih _ ⟨q1l _ g1,fun z hz=>by
   rcases (q11 z _ _).1 hz with hz | hz
   ·exact g2 z hz
   ·have:=q17 hb _ h z (Nat.le_refl _) (by omega) hz;omega⟩
set_option maxRecDepth 20000 in
theorem s83 (n:Nat) (a b c:Option (List E9)) (o:Option (List E5)) (d who:Int) (hd:0≤d∧d≤4166) (g:GoodK (a.getD []) (b.getD []) (c.getD []) (o.getD [])) :
  FN (n+8) 83 [d9 a,d9 b,d9 c,d5 o,il who,il d]=some (0,[.d (dI (nzO (qiS (a.getD []) (b.getD []) (c.getD []) (o.getD []) d who)))]):=by
 rw [F83]
 have hla:=g.la;have hlb:=g.lb;have hlc:=g.lc;have hlo:=g.lo
 have hh:=q3S d who (a.getD [])
 have hloop:=fun acc hu ha=>l83_1 (n+5) (d9 a) (d9 c) b (d5 o) d g.less (by omega) (q0F d who (a.getD [])) (by omega) (fun h hh=>q2D g.fam hh) acc hu ha
 simp only [G83,q07,s85 n a c o (d9 b) d who hd (by omega) (by omega) (by omega),q00,q02,q03,q0w,q01,q12,q9b,q0e]
 unfold qiS
 have h78:=s78 (n+2) a (d9 b) (d9 c) (d5 o) d who (by omega)
 by_cases h1:q1B (a.getD []) (c.getD []) (o.getD []) d who=1
 ·rw [if_neg (by simp [h1])]
  simp only [q00,q02,q05,q0K,q01,h1]
  rw [if_neg (by simp),if_neg (by simp)]
  simp only [h78,q00,q02,q2I,Option.getD_some,q0n]
  have:=hloop [] (by simp) (by simp)
  rw [show dI (nzO ([]:List Int))=.lit (.slice none 0 0) from rfl] at this
  rw [this]
  simp
 ·rw [if_pos (by simp [h1])]
  simp only [q00,q02,q05,q0K,q01,decide_eq_true_eq]
  by_cases h0:q1B (a.getD []) (c.getD []) (o.getD []) d who=0
  ·rw [if_pos h0,if_pos h0];rfl
  ·rw [if_neg h0,if_neg h0,if_neg h1]
   simp only [h78,q00,q02,q2I,Option.getD_some,q0n]
   have:=hloop (ins 0 []) (by simp [ins]) (by simp [ins])
   rw [show dI (nzO (ins 0 []))=dI (some [0]) from rfl] at this
   rw [this]
   simp
theorem s87 (n:Nat) (l:Option (List Int)) (f:Int) (hl:(l.getD []).length≤4611686018427387904):FN (n+2) 87 [dI l,il f]=some (0,[.d (il (q4l (l.getD []) f))]):=by
 rw [F87]
 simp only [G87,q07,s41 n l f hl,q00,q02,q0I,q01,q03,q0e,q2I,q2X,q4l,decide_eq_true_eq]
 by_cases h:f∈l.getD []
 ·rw [if_neg (by simp [h]),if_pos h]
  by_cases h2:1 < (l.getD []).length
  ·rw [if_pos (by omega),if_pos h2]
  ·rw [if_neg (by omega),if_neg h2]
 ·rw [if_pos (by simp [h]),if_neg h]
section
variable (n:Nat) (p f d k:Int) (a b c:Option (List E9)) (o:Option (List E5)) (ha:(a.getD []).length*72≤140737488351232) (hb:(b.getD []).length*72≤140737488351232) (hc:(c.getD []).length*72≤140737488351232) (ho:(o.getD []).length*40≤140737488351232)
theorem qiQ {a b c:List E9} {o:List E5} (d p:Int) (g:GoodK a b c o):nzO (qiS a b c o d p)=some (q1s a b c o d p):=by
 rw [←fam_eq a b c o d p g.by0]
 obtain ⟨z,hz⟩:=q8N (c:=c) (o:=o) (d:=d) (p:=p) g.fam g.less
 exact qed fun h=>by rw [h] at hz;simp at hz
theorem k83 (n:Nat) {a b c:Option (List E9)} {o:Option (List E5)} (d who:Int) (hd:0≤d∧d≤4166) (g:GoodK (a.getD []) (b.getD []) (c.getD []) (o.getD [])) :
  FN (n+8) 83 [d9 a,d9 b,d9 c,d5 o,il who,il d]=some (0,[.d (dI (some (q1s (a.getD []) (b.getD []) (c.getD []) (o.getD []) d who)))]):=by
 rw [s83 n a b c o d who hd g,qiQ d who g]
theorem qfF (n:Nat) {a b c:List E9} {o:List E5} (d who:Int) (hd:0≤d∧d≤4166) (g:GoodK a b c o) :
  FN (n+8) 83 [d9 (nzO a),d9 (nzO b),d9 (nzO c),d5 (nzO o),il who,il d]=some (0,[.d (dI (some (q1s a b c o d who)))]):=by
 have:=k83 n (a:=nzO a) (b:=nzO b) (c:=nzO c) (o:=nzO o) d who hd (by rw [q0b,q0b,q0b,q0b];exact g)
 rwa [q0b,q0b,q0b,q0b] at this
include ha hb hc ho
end
end Go.VE
namespace Go.VE
open Go.RowKit Go.Proofs
def q0O (l:List E9):List Int:=q0a [] (l.map (·.a))
theorem q1N (l:List E9):(q0O l).length≤l.length:=by
 have:=q3R (l.map (·.a)) []
 simpa [q0O] using this
theorem qbZ {l:List E9} (h:l≠[]):q0O l≠[]:=q3f [] (by simpa using h)
set_option maxRecDepth 20000 in
theorem s111 (n:Nat) (a:Option (List E9)) (b c o:D) (hl:(a.getD []).length≤1000000):FN (n+5) 111 [d9 a,b,c,o]=match q0O (a.getD []) with
  | []=>some (1,[.d (dI none)])
  | y::r=>some (0,[.r ((y::r).map rI)]):=by
 rw [F111]
 simp only [G111,q5J,q03,q0n]
 by_cases hne:a.getD []=[]
 ·rw [hne]
  have h0:q0u [L111_0 (RP (n+4)),L111_1 (RP (n+4))] M0 0 [.d (d9 a),.d (il (([]:List E9).length:Int)),.d (il 0)]=some (0,[]) :=
   q2i (σ:=Unit) [L111_0 (RP (n+4)),L111_1 (RP (n+4))] (fun _=>(0,[.d (d9 a),.d (il (([]:List E9).length:Int)),.d (il 0)])) (fun _=>0) (fun _=>True) (fun _=>some (0,[])) (fun s k _ _=>⟨_,rfl,by simp [L111_0]⟩) M0 () trivial (by unfold M0;omega)
  rw [h0]
  rfl
 ·have hL:((a.getD []).map (·.a)).length=(a.getD []).length:=by simp
  have:=q7F ((a.getD []).map (·.a)) (by simpa using hl) (by simpa using hne) (L111_0 (RP (n+4))) (L111_1 (RP (n+4))) (fun i=>[.d (d9 a),.d (il (a.getD []).length),.d (il (i:Nat))])
   (fun i acc=>[.n acc.length,.n acc.length,.d (d9 a),.d (il (a.getD []).length),.d (il (i:Nat)),.r (acc.map rI)]) (fun acc=>some (1,[.n acc.length,.n acc.length,.r (acc.map rI)])) ?_ ?_ ?_
  ·rw [show il 0=il ((0:Nat):Int) from rfl,this]
   rw [show q0a [] ((a.getD []).map (·.a))=q0O (a.getD []) from rfl]
   have hp:=qbZ hne
   cases hq:q0O (a.getD []) with
   | nil=>exact absurd hq hp
   | cons y r=>simp;exact qhk r
  ·intro acc k
   rw [hL]
   simp [L111_1]
  ·intro x k hi hlt
   rw [hL] at hlt
   obtain ⟨e,he,rfl⟩:∃ e,(a.getD [])[0]?=some e∧e.a=x:=by
    rw [List.getElem?_map] at hi
    cases h0:(a.getD [])[0]? with
    | none=>rw [h0] at hi;simp at hi
    | some e=>rw [h0] at hi;exact ⟨e,rfl,by simpa using hi⟩
   have h9:=q41 (Fn:=FN (n+4)) (FnD:=q1w Tryz.prog (cf3 tb Tryz.prog) (FN (n+4))) (m:=M0) he
   simp only [L111_0,q02,q05,q0p,q01,Int.natCast_zero,hlt,decide_true,if_true]
   rw [show ((il 0):D)=il ((0:Nat):Int) from rfl,h9]
   simp only [r9,q08,q0r,q07,q12,qgj,q00,q02,q05,q01,Bool.false_eq_true,if_false]
   rw [put0]
   simp only [q03,q0k,q0D,q0v,q0y,q0q,List.length_cons,List.length_nil,List.take_succ_cons,List.take_zero,Int.natCast_zero]
   rw [show IntKind.i64.wrap (0+1)=((1:Nat):Int) from rfl]
  ·intro i x acc k hi hlt hw hu hal
   rw [hL] at hlt
   obtain ⟨e,he,rfl⟩:∃ e,(a.getD [])[i]?=some e∧e.a=x:=by
    rw [List.getElem?_map] at hi
    cases h0:(a.getD [])[i]? with
    | none=>rw [h0] at hi;simp at hi
    | some e=>rw [h0] at hi;exact ⟨e,rfl,by simpa using hi⟩
   have hput:=q1j n acc e.a (by omega) hu
   simp only [L111_1,q02,q05,q0B,q0A,q0x,q0E,q0p,q01,hlt,decide_true,if_true,q41 he,r9,q08,q0r,q0y,q0C,List.length_map,q1f,q07]
   simp only [hput,q00,q02,q0X,q03,q0k,hw,List.length_map]
theorem s90 (n:Nat) (z:Int):FN (n+1) 90 [il z]=some (0,[.d (bl (decide (z=1)))]):=by rw [F90];simp [G90]
theorem s91 (n:Nat) (z:Int):FN (n+1) 91 [il z]=some (0,[.d (bl (decide (z≠0)))]):=by rw [F91];simp only [G91,q03,q0w,q0e]
theorem d90 (n:Nat) (z:Int):FD (n+1) (.fn 90 []) [.one] (rI z)=some (0,[.d (bl (decide (z=1)))]) :=
 q4n [.one] [.one (il z)] (by decide) rfl (by kernel_rfl) rfl (by kernel_rfl) (s90 n z)
theorem d91 (n:Nat) (z:Int):FD (n+1) (.fn 91 []) [.one] (rI z)=some (0,[.d (bl (decide (z≠0)))]) :=
 q4n [.one] [.one (il z)] (by decide) rfl (by kernel_rfl) rfl (by kernel_rfl) (s91 n z)
section
variable {a b c:Option (List E9)} {o:Option (List E5)}
theorem s169 (n:Nat) (d f p:Int) (is:D) (q:Int→Bool) (hq:∀ z,FD (n+106) is [.one] (rI z)=some (0,[.d (bl (q z))])) (hd:0≤d∧d≤4166) (g:GoodK (a.getD []) (b.getD []) (c.getD []) (o.getD [])) :
  FN (n+107) 169 [il p,is,q0Y a b c o,il f,il d]=some (0,[.d (bl (!q (q4l (q1s (a.getD []) (b.getD []) (c.getD []) (o.getD []) d p) f)))]):=by
 rw [F169]
 have hp:∀ k:List D→Out,(RP (n+106)).ptrW 4 (q0Y a b c o) k=k [d9 a,d9 b,d9 c,d5 o]:=fun k=>q2d _ 4 k rfl
 have hz:∀ z,q1w Tryz.prog (cf3 tb Tryz.prog) (FN (n+106)) is [.one] [il z]=some (0,[.d (bl (q z))]):=hq
 simp only [G169,hp,q08,q0r,q07,k86 n d p f hd g,q00,q02,q2P,hz,q0I,q0e]
theorem d169 (n:Nat) (d f p:Int) (is:D) (q:Int→Bool) (hq:∀ z,FD (n+106) is [.one] (rI z)=some (0,[.d (bl (q z))])) (hd:0≤d∧d≤4166) (g:GoodK (a.getD []) (b.getD []) (c.getD []) (o.getD [])) :
  FD (n+107) (.fn 169 [.dp [is] 0,.dp [q0Y a b c o] 0,.dp [il f] 0,.dp [il d] 0]) [.one] (rI p)=some (0,[.d (bl (!q (q4l (q1s (a.getD []) (b.getD []) (c.getD []) (o.getD []) d p) f)))]) :=
 q4n [.one,.ptr 1,.ptr 1,.ptr 1,.ptr 1] [.one (il p)] (by decide) rfl (by kernel_rfl) rfl (by kernel_rfl) (s169 n d f p is q hq hd g)
end
end Go.VE
namespace Go.VE
open Go.RowKit Go.Proofs
theorem q1X {l:List Int} {p:Int→Bool}:((nzO l).map (List.filter p)).getD []=l.filter p:=by cases l<;>rfl
theorem qjg {Fn:Nat→List D→Out} {f:Nat} (sh':List Sh) {vs:List VD} {xs:List D} {z:D} (hlt:f < 1000000) (hash:tb.ash f=some sh') (hx:q1U sh' vs=some xs)
  (hr:tb.rsk f=[[(false,[.d])]]) (hf:Fn f xs=some (0,[.d z])):FnV (cf3 tb Tryz.prog) Fn f vs=some (0,[.d z]):=by
 have h1:(cf3 tb Tryz.prog).ash f=some sh':=by simp only [cf3,if_pos hlt,hash]
 have h2:qcd ((cf3 tb Tryz.prog).rsk f)=true:=by simp only [cf3,hr];rfl
 simp only [FnV,h1,hx,h2,if_true,hf]
theorem qhy (y:Int) (r:List Int):(.sl 1 (((y::r).map rI).take ((y::r).map rI).length):D)=dI (some (y::r)):=by rw [List.take_length];rfl
section
variable {a b c:Option (List E9)} {o:Option (List E5)}
set_option maxRecDepth 20000 in
theorem l89 (n:Nat) (d f:Int) (is:D) (q:Int→Bool) (hq:∀ z,FD (n+107) is [.one] (rI z)=some (0,[.d (bl (q z))])) (hd:0≤d∧d≤4166) (g:GoodK (a.getD []) (b.getD []) (c.getD []) (o.getD []))
  (l:List Int) (hl:l.length≤4611686018427387904) (i0:Nat) (h0:i0 < l.length) (h1:(l.take (i0+1)).filter (fun p=>!(!q (q4l (q1s (a.getD []) (b.getD []) (c.getD []) (o.getD []) d p) f)))=l.take i0) :
  ∃ (i:Nat) (ks:List Int),q0u [L89_0 (RP (n+108))] M0 0 [.n l.length,.n l.length,.d is,.d (q0Y a b c o),.d (il f),.d (il d),.d (il i0),.d (il ((i0+1:Nat):Int)),.r (l.map rI)]=some (0,[.n l.length,.n l.length,.d (il (i:Int)),.r (ks.map rI)])∧i < l.length∧ks.length=l.length∧ks.take i=l.filter (fun p=>!(!q (q4l (q1s (a.getD []) (b.getD []) (c.getD []) (o.getD []) d p) f))):=by
 refine q70 l hl (fun p=>!q (q4l (q1s (a.getD []) (b.getD []) (c.getD []) (o.getD []) d p) f)) (L89_0 (RP (n+108))) (fun i j ks=>[.n l.length,.n l.length,.d is,.d (q0Y a b c o),.d (il f),.d (il d),.d (il (i:Nat)),.d (il (j:Nat)),.r (ks.map rI)])
  (fun i ks=>some (0,[.n l.length,.n l.length,.d (il ((i:Nat):Int)),.r (ks.map rI)])) ?_ ?_ i0 h0 h1
 ·intro i ks k hk
  simp [L89_0]
 ·intro i j ks e e2 k _ hj hi hij hjl hil hks hwj hwi
  have hkr:(ks.map rI)[j]?=some (rI e):=by rw [List.getElem?_map,hj];rfl
  have hkr2:(ks.map rI)[i]?=some (rI e2):=by rw [List.getElem?_map,hi];rfl
  have h169:=s169 (n+1) d f e is q hq hd g
  simp only [L89_0,q02,q05,q0B,q0A,q0x,q0E,q5y,q0p,q01,hjl,decide_true,if_true,q0y,List.length_map,q0C,hks]
  rw [q9U _ _ _ ⟨by omega,hjl⟩,Int.toNat_natCast,q46 1 _ _ _ _ hkr rfl]
  simp only [rI,q08,q07,h169,q00,q02,q0I,q01,q03,q0k,hwj,hwi]
  cases hqv:q (q4l (q1s (a.getD []) (b.getD []) (c.getD []) (o.getD []) d e) f) with
  | true =>
   simp only [Bool.not_true,Bool.not_false,if_true,Bool.false_eq_true,if_false]
   rw [q9U _ _ _ ⟨by omega,hil⟩,Int.toNat_natCast,q46 1 _ _ _ _ hkr2 rfl]
   simp only [q6D,List.map_set,rI]
  | false =>
   simp only [Bool.not_true,Bool.not_false,if_true,Bool.false_eq_true,if_false]
set_option maxRecDepth 20000 in
theorem k89 (n:Nat) (d f:Int) (is:D) (q:Int→Bool) (hq0:∀ z,FD (n+106) is [.one] (rI z)=some (0,[.d (bl (q z))])) (hq:∀ z,FD (n+107) is [.one] (rI z)=some (0,[.d (bl (q z))])) (hd:0≤d∧d≤4166) (g:GoodK (a.getD []) (b.getD []) (c.getD []) (o.getD [])) :
  FN (n+109) 89 [d9 a,d9 b,d9 c,d5 o,il f,il d,is]=some (0,[.d (dI ((nzO (q0O (a.getD []))).map (List.filter fun p=>q (q4l (q1s (a.getD []) (b.getD []) (c.getD []) (o.getD []) d p) f))))]):=by
 rw [F89]
 have hla:=g.la
 have hlp:=q1N (a.getD [])
 have hp:∀ k:List D→Out,(RP (n+108)).ptrW 4 (.dp [d9 a,d9 b,d9 c,d5 o] 0) k=k [d9 a,d9 b,d9 c,d5 o]:=fun k=>q2d _ 4 k rfl
 have h111:=s111 (n+103) a (d9 b) (d9 c) (d5 o) (by omega)
 have hdk:(.dp [d9 a,d9 b,d9 c,d5 o] 0:D)=q0Y a b c o:=rfl
 simp only [G89,q6I,q47,hp,q08,q0r,q07,h111]
 have hi:=fun l hl=>s186 (n+107) l hl (.fn 169 [.dp [is] 0,.dp [q0Y a b c o] 0,.dp [il f] 0,.dp [il d] 0]) (fun p=>!q (q4l (q1s (a.getD []) (b.getD []) (c.getD []) (o.getD []) d p) f)) (fun e _=>d169 n d f e is q hq0 hd g)
 generalize hl:q0O (a.getD [])=l at hlp ⊢
 cases l with
 | nil =>
  have:=hi none (by simp)
  simp only [q1M,q00,q02,q5b,hdk,this,q6X,fnd,q03,q0K,q01,Option.getD_none]
  simp [nzO,dI,dSl]
 | cons y r =>
  have h2:=hi (some (y::r)) (by simp only [Option.getD_some];omega)
  simp only [Option.getD_some] at h2
  have el:((y::r).map rI).take ((y::r).map rI).length=(y::r).map rI:=List.take_length
  simp only [q00,q0x,q0y,q0C,if_true,q0q,q1f,q5b,hdk,qhy,h2,q02,q2A,List.all_cons,List.all_nil,qfM,Bool.and_true,q03,q0K,q01,decide_eq_true_eq,q0e]
  have hres:dI ((nzO (y::r)).map (List.filter fun p=>q (q4l (q1s (a.getD []) (b.getD []) (c.getD []) (o.getD []) d p) f)))=dI (some ((y::r).filter fun p=>q (q4l (q1s (a.getD []) (b.getD []) (c.getD []) (o.getD []) d p) f))):=rfl
  rw [hres]
  generalize hy:(y::r)=l at *
  unfold q6X
  cases hf:fnd (fun p=>!q (q4l (q1s (a.getD []) (b.getD []) (c.getD []) (o.getD []) d p) f)) l with
  | none =>
   simp only [if_true]
   have:=q4f hf
   simp only [Bool.not_not] at this
   rw [this]
  | some i0 =>
   obtain ⟨h0,h1⟩:=q4e hf
   simp only
   rw [if_neg (by omega),q0k,q0f (by omega) (by omega),q0n,List.length_map]
   obtain ⟨i,ks,e1,e2,e3,e4⟩:=l89 n d f is q hq hd g l (by omega) i0 h0 h1
   rw [show ((i0:Nat):Int)+1=((i0+1:Nat):Int) by simp,e1]
   have ek:(ks.map rI).length=l.length:=by simp [e3]
   simp only [q00,q02,q05,q0B,q0A,q0x,q0E,ek,if_true]
   rw [q68 _ _ _ _ e2]
   have ea:i+(l.length - i)=l.length:=by omega
   have et:((ks.map rI).take i++List.replicate (l.length - i) [il 0]).length=l.length:=by
    simp [e3];omega
   simp only [q18,ea,q1S,q7b,et,if_true]
   rw [q69 _ _ _ _ (by omega)]
   simp only [Bool.not_not] at e4
   have er:((ks.map rI).take i++List.replicate (l.length - i) [il 0]).take i=(l.filter fun p=>q (q4l (q1s (a.getD []) (b.getD []) (c.getD []) (o.getD []) d p) f)).map rI:=by
    rw [List.take_append_of_le_length (by simp [e3];omega),List.take_take,Nat.min_self,← List.map_take,e4]
   rw [er]
   rfl
theorem d82 (n:Nat) (d p:Int) (hd:0≤d∧d≤4166) (g:GoodK (a.getD []) (b.getD []) (c.getD []) (o.getD [])) :
  FD (n+105) (.fn 2000082 [q0Y a b c o]) [.one,.one] [il p,il d]=some (0,[.d (dI (some (q1s (a.getD []) (b.getD []) (c.getD []) (o.getD []) d p)))]):=by
 have h:FnV (cf3 tb Tryz.prog) (FN (n+105)) 82 [.one (q0Y a b c o),.one (il p),.one (il d)]=some (0,[.d (dI (some (q1s (a.getD []) (b.getD []) (c.getD []) (o.getD []) d p)))]) :=
  qjg [.ptr 4,.one,.one] (by decide) rfl (by kernel_rfl) (by kernel_rfl) (k82 n d p hd g)
 have h2:q1w Tryz.prog (cf3 tb Tryz.prog) (FN (n+105)) (.fn 2000082 [q0Y a b c o]) [.one,.one] [il p,il d]=if 2000082 < 2000000 then FnV (cf3 tb Tryz.prog) (FN (n+105)) 2000082 ([.one (il p),.one (il d)]++[.one (q0Y a b c o)]) else FnV (cf3 tb Tryz.prog) (FN (n+105)) 82 [.one (q0Y a b c o),.one (il p),.one (il d)]:=by kernel_rfl
 show q1w Tryz.prog (cf3 tb Tryz.prog) (FN (n+105)) (.fn 2000082 [q0Y a b c o]) [.one,.one] [il p,il d]=_
 rw [h2,if_neg (by decide),h]
end
set_option maxRecDepth 20000 in
theorem s171 (n:Nat) (a b:List Int) (ha:a.length≤4611686018427387904):FN (n+1) 171 [dI (some a),dI (some b)]=some (0,[.d (bl (decide (a=b)))]):=by
 rw [F171]
 simp only [G171,q2I,Option.getD_some,q0w,q01,decide_eq_true_eq,q0R,q0e,q03,q0n]
 by_cases hlen:a.length=b.length
 ·rw [if_neg (by simp [hlen])]
  have:=q0z (β:=Unit) a ha (L171_0 (RP n)) (fun i _=>[.d (dI (some a)),.d (dI (some b)),.d (il a.length),.d (il i)]) (fun _ _=>True)
   (fun i r _=>if r=b.drop i then some (1,[]) else some (0,[.d (bl false)]))
   (fun _ k _=>by rw [hlen,List.drop_length];simp [L171_0]) ?_ M0 () trivial (q2u ha)
  ·simp only [Int.natCast_zero,List.drop_zero] at this
   rw [this]
   by_cases h:a=b<;>simp [h]
  ·intro i e r _ k hi hd hlt hw _ ih
   have ih':=ih () trivial
   have hlt':(i:Int) < (a.length:Int):=by omega
   have hlb:i < b.length:=by omega
   have hb:b[i]?=some (b[i]'hlb):=List.getElem?_eq_getElem hlb
   have hdb:b.drop i=b[i]'hlb::b.drop (i+1):=List.drop_eq_getElem_cons hlb
   have hi1:((some a).getD [])[i]?=some e:=hi
   have hi2:((some b).getD [])[i]?=some (b[i]'hlb):=hb
   simp only [L171_0,q02,q05,q0p,q01,hlt',decide_true,if_true,q2S hi1,q2S hi2,rI,q08,q0w,q03,q0k,hw,q0R,q0e,decide_eq_true_eq]
   rw [hdb]
   generalize b[i]'hlb=f
   generalize b.drop (i+1)=t at ih' ⊢
   by_cases h:e=f
   ·subst h
    rw [if_neg (by simp)]
    refine Eq.trans ih' ?_
    simp
   ·rw [if_pos h,if_neg (by simp [h])]
 ·rw [if_pos (by omega)]
  have:¬ a=b:=fun e=>hlen (by rw [e])
  simp [this]
end Go.VE
namespace Go.VE
open Go.RowKit Go.Proofs
def q5V (x y:Int→List Int) (p:Int):Bool:=!decide (x p=y p)
section
variable {a b c:Option (List E9)} {o:Option (List E5)} {a' b' c':Option (List E9)} {o':Option (List E5)}
abbrev fo (a b c:Option (List E9)) (o:Option (List E5)) (d:Int):Int→List Int:=q1s (a.getD []) (b.getD []) (c.getD []) (o.getD []) d
theorem s170 (n:Nat) (d p:Int) (hd:0≤d∧d≤4166) (g:GoodK (a.getD []) (b.getD []) (c.getD []) (o.getD [])) (g':GoodK (a'.getD []) (b'.getD []) (c'.getD []) (o'.getD [])) :
  FN (n+106) 170 [il p,.fn 2000082 [q0Y a b c o],il d,q0Y a' b' c' o']=some (0,[.d (bl (!q5V (fo a b c o d) (fo a' b' c' o' d) p))]):=by
 rw [F170]
 have hp:∀ k:List D→Out,(RP (n+105)).ptrW 4 (q0Y a' b' c' o') k=k [d9 a',d9 b',d9 c',d5 o']:=fun k=>q2d _ 4 k rfl
 have hz:q1w Tryz.prog (cf3 tb Tryz.prog) (FN (n+105)) (.fn 2000082 [q0Y a b c o]) [.one,.one] [il p,il d]=_:=d82 n d p hd g
 have hlen:=qer d p g
 simp only [G170,q2P,hz,q00,hp,q08,q0r,q07,k82 n d p hd g',q02,s171 (n+104) _ _ (by omega:(q1s (a.getD []) (b.getD []) (c.getD []) (o.getD []) d p).length≤4611686018427387904),q0e]
 simp [q5V]
theorem d170 (n:Nat) (d p:Int) (hd:0≤d∧d≤4166) (g:GoodK (a.getD []) (b.getD []) (c.getD []) (o.getD [])) (g':GoodK (a'.getD []) (b'.getD []) (c'.getD []) (o'.getD [])) :
  FD (n+106) (.fn 170 [.dp [.fn 2000082 [q0Y a b c o]] 0,.dp [il d] 0,.dp [q0Y a' b' c' o'] 0]) [.one] (rI p)=some (0,[.d (bl (!q5V (fo a b c o d) (fo a' b' c' o' d) p))]) :=
 q4n [.one,.ptr 1,.ptr 1,.ptr 1] [.one (il p)] (by decide) rfl (by kernel_rfl) rfl (by kernel_rfl) (s170 n d p hd g g')
set_option maxRecDepth 20000 in
theorem l93 (n:Nat) (d:Int) (hd:0≤d∧d≤4166) (g:GoodK (a.getD []) (b.getD []) (c.getD []) (o.getD [])) (g':GoodK (a'.getD []) (b'.getD []) (c'.getD []) (o'.getD []))
  (l:List Int) (hl:l.length≤4611686018427387904) (i0:Nat) (h0:i0 < l.length) (h1:(l.take (i0+1)).filter (fun p=>!(!q5V (fo a b c o d) (fo a' b' c' o' d) p))=l.take i0) :
  ∃ (i:Nat) (ks:List Int),q0u [L93_0 (RP (n+107))] M0 0 [.n l.length,.n l.length,.d (il d),.d (q0Y a' b' c' o'),.d (il i0),.d (il ((i0+1:Nat):Int)),.d (d9 a),.d (d9 b),.d (d9 c),.d (d5 o),.r (l.map rI)]=some (0,[.n l.length,.n l.length,.d (il (i:Int)),.d (d9 a),.d (d9 b),.d (d9 c),.d (d5 o),.r (ks.map rI)])∧i < l.length∧ks.length=l.length∧ks.take i=l.filter (fun p=>!(!q5V (fo a b c o d) (fo a' b' c' o' d) p)):=by
 refine q70 l hl (fun p=>!q5V (fo a b c o d) (fo a' b' c' o' d) p) (L93_0 (RP (n+107))) (fun i j ks=>[.n l.length,.n l.length,.d (il d),.d (q0Y a' b' c' o'),.d (il (i:Nat)),.d (il (j:Nat)),.d (d9 a),.d (d9 b),.d (d9 c),.d (d5 o),.r (ks.map rI)])
  (fun i ks=>some (0,[.n l.length,.n l.length,.d (il ((i:Nat):Int)),.d (d9 a),.d (d9 b),.d (d9 c),.d (d5 o),.r (ks.map rI)])) ?_ ?_ i0 h0 h1
 ·intro i ks k hk
  simp [L93_0]
 ·intro i j ks e e2 k _ hj hi hij hjl hil hks hwj hwi
  have hkr:(ks.map rI)[j]?=some (rI e):=by rw [List.getElem?_map,hj];rfl
  have hkr2:(ks.map rI)[i]?=some (rI e2):=by rw [List.getElem?_map,hi];rfl
  have h170:=s170 (n+1) d e hd g g'
  simp only [q0Y] at h170
  simp only [L93_0,q02,q05,q0B,q0A,q0x,q0E,q5y,q0p,q01,hjl,decide_true,if_true,q0y,List.length_map,q0C,hks,q5b,q6I,q0Y]
  rw [q9U _ _ _ ⟨by omega,hjl⟩,Int.toNat_natCast,q46 1 _ _ _ _ hkr rfl]
  simp only [rI,q08,q07,h170,q00,q02,q2A,List.all_cons,List.all_nil,yl_b,Bool.and_true,if_true,q0I,q01,q03,q0k,hwj,hwi]
  cases hqv:q5V (fo a b c o d) (fo a' b' c' o' d) e with
  | true =>
   simp only [Bool.not_true,Bool.not_false,if_true,Bool.false_eq_true,if_false]
   rw [q9U _ _ _ ⟨by omega,hil⟩,Int.toNat_natCast,q46 1 _ _ _ _ hkr2 rfl]
   simp only [q6D,List.map_set,rI]
  | false =>
   simp only [Bool.not_true,Bool.not_false,if_true,Bool.false_eq_true,if_false]
set_option maxRecDepth 20000 in
theorem k93 (n:Nat) (z:Option (List E9)) (x1 x2 x3:D) (d:Int) (hz:(z.getD []).length≤1000000) (hd:0≤d∧d≤4166) (g:GoodK (a.getD []) (b.getD []) (c.getD []) (o.getD [])) (g':GoodK (a'.getD []) (b'.getD []) (c'.getD []) (o'.getD [])) :
  FN (n+108) 93 [d9 z,x1,x2,x3,d9 a,d9 b,d9 c,d5 o,d9 a',d9 b',d9 c',d5 o',il d]=some (0,[.d (dI ((nzO (q0O (z.getD []))).map (List.filter (q5V (fo a b c o d) (fo a' b' c' o' d)))))]):=by
 rw [F93]
 have hlp:=q1N (z.getD [])
 have h111:=s111 (n+102) z x1 x2 x3 hz
 simp only [G93,q07,h111]
 have hi:=fun l hl=>s186 (n+106) l hl (.fn 170 [.dp [.fn 2000082 [q0Y a b c o]] 0,.dp [il d] 0,.dp [q0Y a' b' c' o'] 0]) (fun p=>!q5V (fo a b c o d) (fo a' b' c' o' d) p) (fun e _=>d170 n d e hd g g')
 have hdk:(.dp [d9 a,d9 b,d9 c,d5 o] 0:D)=q0Y a b c o:=rfl
 have hdk':(.dp [d9 a',d9 b',d9 c',d5 o'] 0:D)=q0Y a' b' c' o':=rfl
 generalize hl:q0O (z.getD [])=l at hlp ⊢
 cases l with
 | nil =>
  have:=hi none (by simp)
  simp only [q1M,q00,q02,q5b,q6I,hdk,hdk',this,q6X,fnd,q2A,List.all_cons,List.all_nil,qfM,Bool.and_true,if_true,q03,q0K,q01,Option.getD_none]
  simp [nzO,dI,dSl]
 | cons y r =>
  have h2:=hi (some (y::r)) (by simp only [Option.getD_some];omega)
  simp only [Option.getD_some] at h2
  simp only [q00,q0x,q0y,q0C,if_true,q0q,q1f,q5b,q6I,hdk,hdk',qhy,h2,q02,q2A,List.all_cons,List.all_nil,qfM,Bool.and_true,q03,q0K,q01,decide_eq_true_eq,q0e]
  have hres:dI ((nzO (y::r)).map (List.filter (q5V (fo a b c o d) (fo a' b' c' o' d))))=dI (some ((y::r).filter (q5V (fo a b c o d) (fo a' b' c' o' d)))):=rfl
  rw [hres]
  generalize hy:(y::r)=l at *
  unfold q6X
  cases hf:fnd (fun p=>!q5V (fo a b c o d) (fo a' b' c' o' d) p) l with
  | none =>
   simp only [if_true]
   have:=q4f hf
   simp only [Bool.not_not] at this
   rw [show (l.filter (q5V (fo a b c o d) (fo a' b' c' o' d)))=l.filter (fun p=>q5V (fo a b c o d) (fo a' b' c' o' d) p) from rfl,this]
  | some i0 =>
   obtain ⟨h0,h1⟩:=q4e hf
   simp only
   rw [if_neg (by omega),q0k,q0f (by omega) (by omega),q0n,List.length_map]
   obtain ⟨i,ks,e1,e2,e3,e4⟩:=l93 n d hd g g' l (by omega) i0 h0 h1
   rw [show ((i0:Nat):Int)+1=((i0+1:Nat):Int) by simp,e1]
   have ek:(ks.map rI).length=l.length:=by simp [e3]
   simp only [q00,q02,q05,q0B,q0A,q0x,q0E,ek,if_true]
   rw [q68 _ _ _ _ e2]
   have ea:i+(l.length - i)=l.length:=by omega
   have et:((ks.map rI).take i++List.replicate (l.length - i) [il 0]).length=l.length:=by
    simp [e3];omega
   simp only [q18,ea,q1S,q7b,et,if_true]
   rw [q69 _ _ _ _ (by omega)]
   simp only [Bool.not_not] at e4
   have er:((ks.map rI).take i++List.replicate (l.length - i) [il 0]).take i=(l.filter (q5V (fo a b c o d) (fo a' b' c' o' d))).map rI:=by
    rw [List.take_append_of_le_length (by simp [e3];omega),List.take_take,Nat.min_self,← List.map_take,e4]
   rw [er]
   rfl
end
theorem askE_3 {ok ps fs:Bool} {p f d k l:Int} (h:q0U ok ps fs p f [d,k,l]=0):(0≤d∧d≤4166)∧(0≤k∧k≤4166)∧0≤l∧l≤4166:=by
 unfold q0U at h
 split at h
 ·simp at h
 ·split at h
  ·simp at h
  ·split at h
   ·simp at h
   ·split at h
    ·simp at h
    ·rename_i hh
     simp only [List.any_cons,List.any_nil,Bool.or_false,Bool.or_eq_true,Bool.not_eq_true',decide_eq_false_iff_not,not_or,Decidable.not_not] at hh
     exact hh
def fk (k:Int) (a b c:Option (List E9)) (o:Option (List E5)) (d:Int):Int→List Int:=q24 k a b c o d
theorem fo_kn (k:Int) (a b c:Option (List E9)) (o:Option (List E5)) (d:Int):fo (kn9 k a) (kn9 k b) (kn9 k c) (kn5 k o) d=fk k a b c o d:=by
 funext p;unfold fo fk q24;rw [q0H,q0H,q0H,q3w]
section
variable (n:Nat) (p f d k l:Int) (a b c:Option (List E9)) (o:Option (List E5)) (ha:(a.getD []).length*72≤140737488351232) (hb:(b.getD []).length*72≤140737488351232) (hc:(c.getD []).length*72≤140737488351232) (ho:(o.getD []).length*40≤140737488351232)
include ha hb hc ho
set_option maxRecDepth 20000 in
theorem s37:FN (n+109) 37 [d9 a,d9 b,d9 c,d5 o,il d,il k,il l]=if q0U (q0m (a.getD []) (b.getD []) (c.getD []) (o.getD [])) false false 0 0 [d,k,l]=0 then some (0,[.d (dI ((nzO (q0O (a.getD []))).map (List.filter (q5V (fk k a b c o d) (fk l a b c o d))))),.d (il 0)]) else some (0,[.d (dI none),.d (il (q0U (q0m (a.getD []) (b.getD []) (c.getD []) (o.getD [])) false false 0 0 [d,k,l]))]):=by
 rw [F37]
 have h73:=s73 (n+98) 0 0 false false a b c o [d,k] l (by simp) ha hb hc ho
 rw [show dI (some ([d,k]++[l]))=.sl 1 [[il d],[il k],[il l]] from rfl,show [d,k]++[l]=[d,k,l] from rfl] at h73
 have h94:=s94 (n+103) k a b c o ha hb hc ho
 simp only [G37,q07,q03,q0R,q0v,q1f,h73]
 by_cases he:q0U (q0m (a.getD []) (b.getD []) (c.getD []) (o.getD [])) false false 0 0 [d,k,l]=0
 ·have g:=q4C k he
  have g':=q4C l he
  have hl:=(q16 (q1i he)).1
  rw [if_pos he]
  have hp:∀ (k:Int) (q:List D→Out),(RP (n+108)).ptrW 4 (q0Y (kn9 k a) (kn9 k b) (kn9 k c) (kn5 k o)) q=q [d9 (kn9 k a),d9 (kn9 k b),d9 (kn9 k c),d5 (kn5 k o)]:=fun k q=>q2d _ 4 q rfl
  simp only [q56,he,if_true,q00,q02,q05,q0w,ne_eq,not_true_eq_false,decide_false,q01,Bool.false_eq_true,if_false,h94,hp,q08,q0r,k93 n a (d9 b) (d9 c) (d5 o) d (by omega) (askE_3 he).1 g g',q0e,fo_kn]
 ·rw [if_neg he]
  simp only [q56,if_neg he,q00,q02,q05,q0w,q01]
  rw [if_pos (by simpa using he)]
  simp [dI,dSl]
def q4q (k:Int) (a b c:Option (List E9)) (o:Option (List E5)) (d f:Int):Option (List Int):=(nzO (q0O (q0T k (a.getD [])))).map (List.filter fun p=>decide (q4l (q24 k a b c o d p) f=1))
def qc6 (k:Int) (a b c:Option (List E9)) (o:Option (List E5)) (d f:Int):Option (List Int):=(nzO (q0O (q0T k (a.getD [])))).map (List.filter fun p=>decide (q4l (q24 k a b c o d p) f≠0))
omit ha hb hc ho in
theorem k89s (he:q0U (q0m (a.getD []) (b.getD []) (c.getD []) (o.getD [])) false true 0 f [d,k]=0):FN (n+109) 89 [d9 (kn9 k a),d9 (kn9 k b),d9 (kn9 k c),d5 (kn5 k o),il f,il d,.fn 90 []]=some (0,[.d (dI (q4q k a b c o d f))]):=by
 rw [k89 n d f (.fn 90 []) (fun z=>decide (z=1)) (fun z=>d90 (n+105) z) (fun z=>d90 (n+106) z) (q1F he).1 (q4C k he)]
 unfold q4q q24
 rw [q0H,q0H,q0H,q3w]
omit ha hb hc ho in
theorem k89m (he:q0U (q0m (a.getD []) (b.getD []) (c.getD []) (o.getD [])) false true 0 f [d,k]=0):FN (n+109) 89 [d9 (kn9 k a),d9 (kn9 k b),d9 (kn9 k c),d5 (kn5 k o),il f,il d,.fn 91 []]=some (0,[.d (dI (qc6 k a b c o d f))]):=by
 rw [k89 n d f (.fn 91 []) (fun z=>decide (z≠0)) (fun z=>d91 (n+105) z) (fun z=>d91 (n+106) z) (q1F he).1 (q4C k he)]
 unfold qc6 q24
 rw [q0H,q0H,q0H,q3w]
set_option maxRecDepth 20000 in
theorem s32:FN (n+110) 32 [d9 a,d9 b,d9 c,d5 o,il f,il d,il k]=if q0U (q0m (a.getD []) (b.getD []) (c.getD []) (o.getD [])) false true 0 f [d,k]=0 then some (0,[.d (dI (q4q k a b c o d f)),.d (il 0)]) else some (0,[.d (dI none),.d (il (q0U (q0m (a.getD []) (b.getD []) (c.getD []) (o.getD [])) false true 0 f [d,k]))]):=by
 rw [F32]
 simp only [G32,q07,s79,q00,q02,q05,q0v,q1f,qbj (n+99) 0 f d k a b c o ha hb hc ho false true]
 by_cases he:q0U (q0m (a.getD []) (b.getD []) (c.getD []) (o.getD [])) false true 0 f [d,k]=0
 ·rw [if_pos he]
  have hp:∀ q:List D→Out,(RP (n+109)).ptrW 4 (q0Y (kn9 k a) (kn9 k b) (kn9 k c) (kn5 k o)) q=q [d9 (kn9 k a),d9 (kn9 k b),d9 (kn9 k c),d5 (kn5 k o)]:=fun q=>q2d _ 4 q rfl
  simp only [q56,he,if_true,q00,q02,q05,q03,q0w,ne_eq,not_true_eq_false,decide_false,q01,Bool.false_eq_true,if_false,hp,q08,q0r,q5b,k89s n f d k a b c o he,q0e]
 ·rw [if_neg he]
  simp only [q56,if_neg he,q00,q02,q05,q03,q0w,q01]
  rw [if_pos (by simpa using he)]
  simp [dI,dSl]
set_option maxRecDepth 20000 in
theorem s34:FN (n+110) 34 [d9 a,d9 b,d9 c,d5 o,il f,il d,il k]=if q0U (q0m (a.getD []) (b.getD []) (c.getD []) (o.getD [])) false true 0 f [d,k]=0 then some (0,[.d (dI (qc6 k a b c o d f)),.d (il 0)]) else some (0,[.d (dI none),.d (il (q0U (q0m (a.getD []) (b.getD []) (c.getD []) (o.getD [])) false true 0 f [d,k]))]):=by
 rw [F34]
 simp only [G34,q07,s79,q00,q02,q05,q0v,q1f,qbj (n+99) 0 f d k a b c o ha hb hc ho false true]
 by_cases he:q0U (q0m (a.getD []) (b.getD []) (c.getD []) (o.getD [])) false true 0 f [d,k]=0
 ·rw [if_pos he]
  have hp:∀ q:List D→Out,(RP (n+109)).ptrW 4 (q0Y (kn9 k a) (kn9 k b) (kn9 k c) (kn5 k o)) q=q [d9 (kn9 k a),d9 (kn9 k b),d9 (kn9 k c),d5 (kn5 k o)]:=fun q=>q2d _ 4 q rfl
  simp only [q56,he,if_true,q00,q02,q05,q03,q0w,ne_eq,not_true_eq_false,decide_false,q01,Bool.false_eq_true,if_false,hp,q08,q0r,q5b,k89m n f d k a b c o he,q0e]
 ·rw [if_neg he]
  simp only [q56,if_neg he,q00,q02,q05,q03,q0w,q01]
  rw [if_pos (by simpa using he)]
  simp [dI,dSl]
set_option maxRecDepth 20000 in
theorem s29:FN (n+110) 29 [d9 a,d9 b,d9 c,d5 o,il f,il d,il k]=if q0U (q0m (a.getD []) (b.getD []) (c.getD []) (o.getD [])) false true 0 f [d,k]=0 then some (0,[.d (il (((q4q k a b c o d f).getD []).length:Int)),.d (il (((qc6 k a b c o d f).getD []).length:Int)),.d (il 0)]) else some (0,[.d (il 0),.d (il 0),.d (il (q0U (q0m (a.getD []) (b.getD []) (c.getD []) (o.getD [])) false true 0 f [d,k]))]):=by
 rw [F29]
 simp only [G29,q07,s79,q00,q02,q05,q0v,q1f,qbj (n+99) 0 f d k a b c o ha hb hc ho false true]
 by_cases he:q0U (q0m (a.getD []) (b.getD []) (c.getD []) (o.getD [])) false true 0 f [d,k]=0
 ·rw [if_pos he]
  have hp:∀ q:List D→Out,(RP (n+109)).ptrW 4 (q0Y (kn9 k a) (kn9 k b) (kn9 k c) (kn5 k o)) q=q [d9 (kn9 k a),d9 (kn9 k b),d9 (kn9 k c),d5 (kn5 k o)]:=fun q=>q2d _ 4 q rfl
  simp only [q56,he,if_true,q00,q02,q05,q03,q0w,ne_eq,not_true_eq_false,decide_false,q01,Bool.false_eq_true,if_false,hp,q08,q0r,q5b,k89s n f d k a b c o he,k89m n f d k a b c o he,q2I,q0e]
 ·rw [if_neg he]
  simp only [q56,if_neg he,q00,q02,q05,q03,q0w,q01]
  rw [if_pos (by simpa using he)]
  simp
end
end Go.VE
namespace Go.VE
open Go.RowKit Go.Proofs
def wo9 (s:Int) (l:List E9):List E9:=l.filter fun e=>!decide (e.src=s)
def wo5 (s:Int) (l:List E5):List E5:=l.filter fun e=>!decide (e.src=s)
def wk9 (s:Int) (o:Option (List E9)):Option (List E9):=o.map (wo9 s)
def wk5 (s:Int) (o:Option (List E5)):Option (List E5):=o.map (wo5 s)
theorem qbs (s:Int):wk9 s none=none:=rfl
theorem qbt (s:Int):wk5 s none=none:=rfl
theorem q1W (s:Int) (o:Option (List E9)):(wk9 s o).getD []=wo9 s (o.getD []):=by cases o<;>rfl
theorem q6P (s:Int) (o:Option (List E5)):(wk5 s o).getD []=wo5 s (o.getD []):=by cases o<;>rfl
theorem q23 (s:Int) (l:List E9):(wo9 s l).length≤l.length:=List.length_filter_le _ _
theorem q7w (s:Int) (l:List E5):(wo5 s l).length≤l.length:=List.length_filter_le _ _
theorem qaX {s:Int} {l:List E9} {e:E9} (h:e∈wo9 s l):e∈l:=(List.mem_filter.1 h).1
theorem GoodK.wo {a b c:List E9} {o:List E5} (h:GoodK a b c o) (s:Int):GoodK (wo9 s a) (wo9 s b) (wo9 s c) (wo5 s o) :=
 ⟨fun e he=>h.fam e (qaX he),fun e he=>h.less e (qaX he),fun e he=>h.by0 e (qaX he),Nat.le_trans (q23 ..) h.la,Nat.le_trans (q23 ..) h.lb,Nat.le_trans (q23 ..) h.lc,Nat.le_trans (q7w ..) h.lo⟩
theorem s98 (n:Nat) (e:E9) (s:Int):FN (n+1) 98 (r9 e++[il s])=some (0,[.d (bl (decide (e.src=s)))]):=by
 rw [r9]
 simp only [List.cons_append,List.nil_append]
 rw [F98]
 simp only [G98,q0K,q0e]
theorem d98 (n:Nat) (e:E9) (s:Int):FD (n+1) (.fn 98 [.dp [il s] 0]) [.agg 9] (r9 e)=some (0,[.d (bl (decide (e.src=s)))]) :=
 q4n [.agg 9,.ptr 1] [.agg (r9 e)] (by decide) rfl (by kernel_rfl) rfl (by kernel_rfl) (s98 n e s)
theorem s100 (n:Nat) (e:E9) (s:Int):FN (n+1) 100 (r9 e++[il s])=some (0,[.d (bl (decide (e.src=s)))]):=by
 rw [r9]
 simp only [List.cons_append,List.nil_append]
 rw [F100]
 simp only [G100,q0K,q0e]
theorem d100 (n:Nat) (e:E9) (s:Int):FD (n+1) (.fn 100 [.dp [il s] 0]) [.agg 9] (r9 e)=some (0,[.d (bl (decide (e.src=s)))]) :=
 q4n [.agg 9,.ptr 1] [.agg (r9 e)] (by decide) rfl (by kernel_rfl) rfl (by kernel_rfl) (s100 n e s)
theorem s102 (n:Nat) (e:E9) (s:Int):FN (n+1) 102 (r9 e++[il s])=some (0,[.d (bl (decide (e.src=s)))]):=by
 rw [r9]
 simp only [List.cons_append,List.nil_append]
 rw [F102]
 simp only [G102,q0K,q0e]
theorem d102 (n:Nat) (e:E9) (s:Int):FD (n+1) (.fn 102 [.dp [il s] 0]) [.agg 9] (r9 e)=some (0,[.d (bl (decide (e.src=s)))]) :=
 q4n [.agg 9,.ptr 1] [.agg (r9 e)] (by decide) rfl (by kernel_rfl) rfl (by kernel_rfl) (s102 n e s)
theorem s104 (n:Nat) (e:E5) (s:Int):FN (n+1) 104 (r5 e++[il s])=some (0,[.d (bl (decide (e.src=s)))]):=by
 rw [r5]
 simp only [List.cons_append,List.nil_append]
 rw [F104]
 simp only [G104,q0K,q0e]
theorem d104 (n:Nat) (e:E5) (s:Int):FD (n+1) (.fn 104 [.dp [il s] 0]) [.agg 5] (r5 e)=some (0,[.d (bl (decide (e.src=s)))]) :=
 q4n [.agg 5,.ptr 1] [.agg (r5 e)] (by decide) rfl (by kernel_rfl) rfl (by kernel_rfl) (s104 n e s)
theorem qfQ (n:Nat) (s:Int) (l:List E9) (hl:l.length*72≤140737488351232):∃ rest:Rr,FN (n+3) 1000097 [.sl 9 (l.map r9),.fn 98 [.dp [il s] 0]]=some (0,[.d (d9 (wk9 s (some l))),.d (.sl 9 rest)]):=by
 obtain ⟨rest,h⟩:=qbG (n+1) (.fn 98 [.dp [il s] 0]) (fun e=>decide (e.src=s)) l (by omega) (fun e _=>d98 n e s) (fun e _=>d98 (n+1) e s)
 refine ⟨rest,h.trans ?_⟩
 simp only [d9,wk9,wo9,Option.map_some,dSl]
theorem qfP (n:Nat) (s:Int) (l:List E9) (hl:l.length*72≤140737488351232):∃ rest:Rr,FN (n+3) 1000099 [.sl 9 (l.map r9),.fn 100 [.dp [il s] 0]]=some (0,[.d (d9 (wk9 s (some l))),.d (.sl 9 rest)]):=by
 obtain ⟨rest,h⟩:=qbF (n+1) (.fn 100 [.dp [il s] 0]) (fun e=>decide (e.src=s)) l (by omega) (fun e _=>d100 n e s) (fun e _=>d100 (n+1) e s)
 refine ⟨rest,h.trans ?_⟩
 simp only [d9,wk9,wo9,Option.map_some,dSl]
theorem qfO (n:Nat) (s:Int) (l:List E9) (hl:l.length*72≤140737488351232):∃ rest:Rr,FN (n+3) 1000101 [.sl 9 (l.map r9),.fn 102 [.dp [il s] 0]]=some (0,[.d (d9 (wk9 s (some l))),.d (.sl 9 rest)]):=by
 obtain ⟨rest,h⟩:=qbE (n+1) (.fn 102 [.dp [il s] 0]) (fun e=>decide (e.src=s)) l (by omega) (fun e _=>d102 n e s) (fun e _=>d102 (n+1) e s)
 refine ⟨rest,h.trans ?_⟩
 simp only [d9,wk9,wo9,Option.map_some,dSl]
theorem qfN (n:Nat) (s:Int) (l:List E5) (hl:l.length*40≤140737488351232):∃ rest:Rr,FN (n+3) 1000103 [.sl 5 (l.map r5),.fn 104 [.dp [il s] 0]]=some (0,[.d (d5 (wk5 s (some l))),.d (.sl 5 rest)]):=by
 obtain ⟨rest,h⟩:=qbD (n+1) (.fn 104 [.dp [il s] 0]) (fun e=>decide (e.src=s)) l (by omega) (fun e _=>d104 n e s) (fun e _=>d104 (n+1) e s)
 refine ⟨rest,h.trans ?_⟩
 simp only [d5,wk5,wo5,Option.map_some,dSl]
theorem if2 {α:Type} (p q:Prop) [Decidable p] [Decidable q] (x y:α):(if p then (if q then x else y) else y)=if p∧q then x else y:=by
 by_cases h1:p<;>by_cases h2:q<;>simp [h1,h2]
theorem if3 {α:Type} (p q r:Prop) [Decidable p] [Decidable q] [Decidable r] (x y:α):(if p then (if q then (if r then x else y) else y) else y)=if p∧q∧r then x else y:=by
 by_cases h1:p<;>by_cases h2:q<;>by_cases h3:r<;>simp [h1,h2,h3]
theorem if4 {α:Type} (p q r s:Prop) [Decidable p] [Decidable q] [Decidable r] [Decidable s] (x y:α):(if p then (if q then (if r then (if s then x else y) else y) else y) else y)=if p∧q∧r∧s then x else y:=by
 by_cases h1:p<;>by_cases h2:q<;>by_cases h3:r<;>by_cases h4:s<;>simp [h1,h2,h3,h4]
def q4v (s:Int) (a b c:List E9) (o:List E5):Prop:=((wo9 s a).length:Int)=a.length∧((wo9 s b).length:Int)=b.length∧((wo9 s c).length:Int)=c.length∧((wo5 s o).length:Int)=o.length
instance (s:Int) (a b c:List E9) (o:List E5):Decidable (q4v s a b c o):=by unfold q4v;infer_instance
def q6g (s k:Int) (a b c:Option (List E9)) (o:Option (List E5)) (d:Int):Int→List Int:=q1s (q0T k (wo9 s (a.getD []))) (q0T k (wo9 s (b.getD []))) (q0T k (wo9 s (c.getD []))) (q4J k (wo5 s (o.getD []))) d
def qdo (s k:Int) (a b c:Option (List E9)) (o:Option (List E5)) (d:Int):Option (List Int):=(nzO (q0O (a.getD []))).map (List.filter (q5V (fk k a b c o d) (q6g s k a b c o d)))
theorem qiL (s k:Int) (a b c:Option (List E9)) (o:Option (List E5)) (d:Int):fo (kn9 k (wk9 s a)) (kn9 k (wk9 s b)) (kn9 k (wk9 s c)) (kn5 k (wk5 s o)) d=q6g s k a b c o d:=by
 funext p;unfold fo q6g;rw [q0H,q0H,q0H,q3w,q1W,q1W,q1W,q6P]
set_option maxRecDepth 20000 in
set_option maxHeartbeats 4000000 in
theorem s39 (n:Nat) (s d k:Int) (a b c:Option (List E9)) (o:Option (List E5)) (ha:(a.getD []).length*72≤140737488351232) (hb:(b.getD []).length*72≤140737488351232) (hc:(c.getD []).length*72≤140737488351232) (ho:(o.getD []).length*40≤140737488351232) :
  FN (n+109) 39 [d9 a,d9 b,d9 c,d5 o,il s,il d,il k]=if q0U (q0m (a.getD []) (b.getD []) (c.getD []) (o.getD [])) false false 0 0 [d,k]=0 then (if q4v s (a.getD []) (b.getD []) (c.getD []) (o.getD []) then some (0,[.d (dI none),.d (il 3)]) else some (0,[.d (dI (qdo s k a b c o d)),.d (il 0)])) else some (0,[.d (dI none),.d (il (q0U (q0m (a.getD []) (b.getD []) (c.getD []) (o.getD [])) false false 0 0 [d,k]))]):=by
 rw [F39]
 have h73:=qbj (n+98) 0 0 d k a b c o ha hb hc ho false false
 by_cases he:q0U (q0m (a.getD []) (b.getD []) (c.getD []) (o.getD [])) false false 0 0 [d,k]=0
 ·rw [if_pos he]
  have g:=q4C k he
  have gw:GoodK ((kn9 k (wk9 s a)).getD []) ((kn9 k (wk9 s b)).getD []) ((kn9 k (wk9 s c)).getD []) ((kn5 k (wk5 s o)).getD []):=by
   rw [q0H,q0H,q0H,q3w,q1W,q1W,q1W,q6P]
   exact ((q1o (q1i he)).wo s).cnt k
  have hla:=(q16 (q1i he)).1
  have h93:=k93 n a (d9 b) (d9 c) (d5 o) d (by omega) (q1F he).1 g gw
  rw [fo_kn,qiL] at h93
  have h94:=s94 (n+103) k (wk9 s a) (wk9 s b) (wk9 s c) (wk5 s o) (by rw [q1W];have:=q23 s (a.getD []);omega) (by rw [q1W];have:=q23 s (b.getD []);omega) (by rw [q1W];have:=q23 s (c.getD []);omega) (by rw [q6P];have:=q7w s (o.getD []);omega)
  have hp:∀ (a b c:Option (List E9)) (o:Option (List E5)) (q:List D→Out),(RP (n+108)).ptrW 4 (q0Y a b c o) q=q [d9 a,d9 b,d9 c,d5 o]:=fun a b c o q=>q2d _ 4 q rfl
  have hx:(nzO (q0O (a.getD []))).map (List.filter (q5V (fk k a b c o d) (q6g s k a b c o d)))=qdo s k a b c o d:=rfl
  rw [hx] at h93
  generalize qdo s k a b c o d=M at h93 ⊢
  have h96:=s96 (n+106) a b c o ha hb hc ho
  have hN:q4v s (a.getD []) (b.getD []) (c.getD []) (o.getD [])=((((wk9 s a).getD []).length:Int)=(a.getD []).length∧(((wk9 s b).getD []).length:Int)=(b.getD []).length∧(((wk9 s c).getD []).length:Int)=(c.getD []).length∧(((wk5 s o).getD []).length:Int)=(o.getD []).length):=by
   rw [q1W,q1W,q1W,q6P];rfl
  simp only [hN]
  clear hN hx
  simp only [q03,q0R,G39,q07,q0v,q1f,h73,q56,he,if_true,q00,q02,q05,q0w,ne_eq,not_true_eq_false,decide_false,q01,Bool.false_eq_true,if_false,h96]
  clear h73 he g gw hla
  obtain ⟨_,ka⟩:=sk (qfQ (n+105) s)
  obtain ⟨_,kb⟩:=sk (qfP (n+105) s)
  obtain ⟨_,kc⟩:=sk (qfO (n+105) s)
  obtain ⟨_,ko⟩:=sk (qfN (n+105) s)
  cases a<;>cases b<;>cases c<;>cases o<;>try simp only [qbs,qbt] at h94 h93
  all_goals
   try simp only [Option.getD_some] at ha hb hc ho
   simp only [Option.isSome_none,Option.isSome_some,ix96,↓q00,↓q1M,lv9,lv5]
   simp (disch:=first | exact ha | exact hb | exact hc | exact ho) only [q07,s97n,s99n,s101n,s103n,ka,kb,kc,ko,qbs,qbt,q00,q02,q05,q0x,q0E,q0y,q0C,if_true,q0e,q5b,q6I,q0X,C39_0,q5J,qfD,q0K,q01,decide_eq_true_eq,h94,hp,q08,q0r,h93,q03,q12,true_and,and_true]
   first | rfl | exact if2 _ _ _ _ | exact if3 _ _ _ _ _ | exact if4 _ _ _ _ _ _
 ·rw [if_neg he]
  simp only [G39,q07,q03,q0R,q0v,q1f,h73,q56,if_neg he,q00,q02,q05,q0w,q01]
  rw [if_pos (by simpa using he)]
  simp [dI,dSl]
end Go.VE
namespace Go.VE
open Go.RowKit Go.Proofs
def kinA:Option (List E9):=some [⟨1,10,3,0,0,100,100,0,0⟩,⟨2,11,3,0,0,100,100,0,0⟩,⟨3,12,5,0,10,90,100,0,0⟩,⟨4,11,7,40,50,60,60,0,0⟩]
def kinB:Option (List E9):=some [⟨20,5,3,20,30,70,70,8,0⟩]
def kinC:Option (List E9):=some [⟨30,10,0,50,50,52,55,0,0⟩,⟨31,12,10,0,0,100,100,0,0⟩]
def kinO:Option (List E5):=some [⟨40,11,9,5,0⟩]
theorem s168 (n:Nat) (x:Int):FN (n+1) 168 [il x]=some (0,[.d (il x),.d (il x)]):=by rw [F168];simp [G168]
theorem s88 (n:Nat):FN (n+2) 88 []=some (0,[.d (d9 kinA),.d (d9 kinB),.d (d9 kinC),.d (d5 kinO)]):=by
 rw [F88]
 simp only [G88,q07,q03,s168,q00,q02,q05,q0D,q0v,q0y,List.length_cons,List.length_nil,q0C,if_true,q0q,q1f,q0e,List.take_succ_cons,List.take_zero]
 simp [kinA,kinB,kinC,kinO,d9,d5,r9,r5,dSl]
theorem kA:(kinA.getD []).length*72≤140737488351232:=by decide
theorem kB:(kinB.getD []).length*72≤140737488351232:=by decide
theorem kC:(kinC.getD []).length*72≤140737488351232:=by decide
theorem kO:(kinO.getD []).length*40≤140737488351232:=by decide
theorem x1 (n:Nat):FN (n+110) 12 [d9 kinA,d9 kinB,d9 kinC,d5 kinO,il 11,il 45,il 9]=some (0,[.d (dI (some [3,7])),.d (il 0)]):=by
 rw [s12 (n+99) 11 45 9 kinA kinB kinC kinO kA kB kC kO,if_pos (by decide +kernel),show q0F 45 11 (q0T 9 (kinA.getD []))=[3,7] by decide +kernel]
theorem x2 (n:Nat):FN (n+110) 14 [d9 kinA,d9 kinB,d9 kinC,d5 kinO,il 5,il 25,il 9]=some (0,[.d (dI (some [3,5])),.d (il 0)]):=by
 rw [s14 (n+5) 5 25 9 kinA kinB kinC kinO kA kB kC kO,if_pos (by decide +kernel),show q0d 25 (q0T 9 (kinB.getD [])) 5=[3,5] by decide +kernel]
theorem x3 (n:Nat):FN (n+110) 16 [d9 kinA,d9 kinB,d9 kinC,d5 kinO,il 12,il 51,il 9]=some (0,[.d (dI (some [0])),.d (il 0)]):=by
 rw [s16 (n+4) 12 51 9 kinA kinB kinC kinO kA kB kC kO,if_pos (by decide +kernel),show q24 9 kinA kinB kinC kinO 51 12=[0] by decide +kernel]
theorem x4 (n:Nat):FN (n+110) 18 [d9 kinA,d9 kinB,d9 kinC,d5 kinO,il 12,il 53,il 9]=some (0,[.d (il 2),.d (il 0)]):=by
 rw [s18 (n+3) 12 53 9 kinA kinB kinC kinO kA kB kC kO,if_pos (by decide +kernel),show q1B (q0T 9 (kinA.getD [])) (q0T 9 (kinC.getD [])) (q4J 9 (kinO.getD [])) 53 12=2 by decide +kernel]
theorem x5 (n:Nat):FN (n+110) 20 [d9 kinA,d9 kinB,d9 kinC,d5 kinO,il 11,il 7,il 55,il 9]=some (0,[.d (il 1),.d (il 0)]):=by
 rw [s20 (n+3) 11 7 55 9 kinA kinB kinC kinO kA kB kC kO,if_pos (by decide +kernel),show q4l (q24 9 kinA kinB kinC kinO 55 11) 7=1 by decide +kernel]
theorem x6 (n:Nat):FN (n+110) 32 [d9 kinA,d9 kinB,d9 kinC,d5 kinO,il 3,il 35,il 9]=some (0,[.d (dI (some [10,11,12])),.d (il 0)]):=by
 rw [s32 n 3 35 9 kinA kinB kinC kinO kA kB kC kO,if_pos (by decide +kernel),show q4q 9 kinA kinB kinC kinO 35 3=some [10,11,12] by decide +kernel]
theorem x7 (n:Nat):FN (n+110) 29 [d9 kinA,d9 kinB,d9 kinC,d5 kinO,il 3,il 53,il 9]=some (0,[.d (il 0),.d (il 2),.d (il 0)]):=by
 rw [s29 n 3 53 9 kinA kinB kinC kinO kA kB kC kO,if_pos (by decide +kernel),show (((q4q 9 kinA kinB kinC kinO 53 3).getD []).length:Int)=0 by decide +kernel,show (((qc6 9 kinA kinB kinC kinO 53 3).getD []).length:Int)=2 by decide +kernel]
theorem x8 (n:Nat):FN (n+110) 39 [d9 kinA,d9 kinB,d9 kinC,d5 kinO,il 30,il 53,il 9]=some (0,[.d (dI (some [10,12])),.d (il 0)]):=by
 rw [s39 (n+1) 30 53 9 kinA kinB kinC kinO kA kB kC kO,if_pos (by decide +kernel),if_neg (by decide +kernel),show qdo 30 9 kinA kinB kinC kinO 53=some [10,12] by decide +kernel]
theorem x9 (n:Nat):FN (n+110) 37 [d9 kinA,d9 kinB,d9 kinC,d5 kinO,il 10,il 4,il 9]=some (0,[.d (dI (some [11])),.d (il 0)]):=by
 rw [s37 (n+1) 10 4 9 kinA kinB kinC kinO kA kB kC kO,if_pos (by decide +kernel),show (nzO (q0O (kinA.getD []))).map (List.filter (q5V (fk 4 kinA kinB kinC kinO 10) (fk 9 kinA kinB kinC kinO 10)))=some [11] by decide +kernel]
theorem x10 (n:Nat):FN (n+110) 18 [d9 kinA,d9 kinB,d9 kinC,d5 kinO,il 11,il 10,il 9]=some (0,[.d (il 0),.d (il 0)]):=by
 rw [s18 (n+3) 11 10 9 kinA kinB kinC kinO kA kB kC kO,if_pos (by decide +kernel),show q1B (q0T 9 (kinA.getD [])) (q0T 9 (kinC.getD [])) (q4J 9 (kinO.getD [])) 10 11=0 by decide +kernel]
theorem q8r (n:Nat) (l:List Int) (hl:l.length≤100):FN (n+1) 22 [dI (some l),dI (some l)]=some (0,[.d (bl true)]):=by
 rw [s22 n (some l) (some l) (by simp only [Option.getD_some];omega)];simp
theorem a23 {Fn:Nat→List D→Out} {FnD:D→List Sh→List D→Out} {m:Nat} (A B C O L1 L2 L3 L6 L8 L9:D) (h88:Fn 88 []=some (0,[.d A,.d B,.d C,.d O]))
  (h1:Fn 12 [A,B,C,O,il 11,il 45,il 9]=some (0,[.d L1,.d (il 0)])) (h2:Fn 14 [A,B,C,O,il 5,il 25,il 9]=some (0,[.d L2,.d (il 0)])) (h3:Fn 16 [A,B,C,O,il 12,il 51,il 9]=some (0,[.d L3,.d (il 0)]))
  (h4:Fn 18 [A,B,C,O,il 12,il 53,il 9]=some (0,[.d (il 2),.d (il 0)])) (h5:Fn 20 [A,B,C,O,il 11,il 7,il 55,il 9]=some (0,[.d (il 1),.d (il 0)])) (h6:Fn 32 [A,B,C,O,il 3,il 35,il 9]=some (0,[.d L6,.d (il 0)]))
  (h7:Fn 29 [A,B,C,O,il 3,il 53,il 9]=some (0,[.d (il 0),.d (il 2),.d (il 0)])) (h8:Fn 39 [A,B,C,O,il 30,il 53,il 9]=some (0,[.d L8,.d (il 0)])) (h9:Fn 37 [A,B,C,O,il 10,il 4,il 9]=some (0,[.d L9,.d (il 0)]))
  (h10:Fn 18 [A,B,C,O,il 11,il 10,il 9]=some (0,[.d (il 0),.d (il 0)]))
  (q1:Fn 22 [L1,.sl 1 [[il 3],[il 7]]]=some (0,[.d (bl true)])) (q2:Fn 22 [L2,.sl 1 [[il 3],[il 5]]]=some (0,[.d (bl true)])) (q3:Fn 22 [L3,.sl 1 [[il 0]]]=some (0,[.d (bl true)])) (q6:Fn 22 [L6,.sl 1 [[il 10],[il 11],[il 12]]]=some (0,[.d (bl true)]))
  (q8:Fn 22 [L8,.sl 1 [[il 10],[il 12]]]=some (0,[.d (bl true)])) (q9:Fn 22 [L9,.sl 1 [[il 11]]]=some (0,[.d (bl true)])):G23 (q06 Fn FnD m)=some (0,[.d (bl true)]):=by
 simp only [G23,q07,q03,h88,q00,q02,q05,h1,h2,h3,h4,h5,h6,h7,h8,h9,h10,q0K,decide_true,q01,if_true,q0v,q1f,qdX,q0e,q1,q2,q3,q6,q8,q9,Bool.false_eq_true,if_false,and_self]
theorem s23 (n:Nat):FN (n+111) 23 []=some (0,[.d (bl true)]):=by
 rw [F23]
 exact a23 (d9 kinA) (d9 kinB) (d9 kinC) (d5 kinO) (dI (some [3,7])) (dI (some [3,5])) (dI (some [0])) (dI (some [10,11,12])) (dI (some [10,12])) (dI (some [11])) (s88 (n+108)) (x1 n) (x2 n) (x3 n) (x4 n) (x5 n) (x6 n) (x7 n) (x8 n) (x9 n) (x10 n)
  (q8r (n+109) [3,7] (by decide)) (q8r (n+109) [3,5] (by decide)) (q8r (n+109) [0] (by decide)) (q8r (n+109) [10,11,12] (by decide)) (q8r (n+109) [10,12] (by decide)) (q8r (n+109) [11] (by decide))
end Go.VE
namespace Go.VE
open Go.RowKit Go.Proofs
set_option maxRecDepth 10000 in
theorem l45_0 (n:Nat) (s:Int) (o:Option (List E9)) (hl:(o.getD []).length*72≤140737488351232) (x1 x2 x3:D):q0u [L45_0 (RP n),L45_1 (RP n)] M0 0 [.d (il s),.d (d9 o),.d x1,.d x2,.d x3,.d (d9 o),.d (il (o.getD []).length),.d (il 0)] =
  q3H [.d (il s),.d (d9 o),.d x1,.d x2,.d x3] (fun rs=>[.d (il s),.d (d9 o),.d x1,.d x2,.d x3,.r rs,.n rs.length,.n rs.length]) ((o.getD []).filterMap (fun e=>if !decide (e.src=s) then some (r9 e) else none)):=by
 refine q1h (o.getD []) (by omega) (fun e=>if !decide (e.src=s) then some (r9 e) else none) _ _ (fun i=>[.d (il s),.d (d9 o),.d x1,.d x2,.d x3,.d (d9 o),.d (il (o.getD []).length),.d (il (i:Nat))]) (fun i rs=>[.d (il s),.d (d9 o),.d x1,.d x2,.d x3,.d (d9 o),.d (il (o.getD []).length),.d (il (i:Nat)),.r rs,.n rs.length,.n rs.length]) [.d (il s),.d (d9 o),.d x1,.d x2,.d x3] (fun rs=>[.d (il s),.d (d9 o),.d x1,.d x2,.d x3,.r rs,.n rs.length,.n rs.length]) ?_ ?_ ?_ ?_
 ·intro q;simp [L45_0]
 ·intro rs q;simp [L45_1]
 ·intro i c q hi hlt hw
  simp only [L45_0,q02,q05,q0p,q01,hlt,decide_true,if_true,q41 hi,q0D,q0y,q0v,q0C,q0q,List.length_cons,List.length_nil,List.take_succ_cons,List.take_zero,q0V,q0t,q03,q0k,hw,r9,q08,q0r,q0w]
  by_cases hc:c.src=s
  ·simp [hc]
  ·simp only [hc,ne_eq,not_false_eq_true,decide_true,decide_false,Bool.not_false,if_true]
   rw [if_pos (by simp [])]
 ·intro i c rs q hi hlt hw hrs
  simp only [L45_1,q02,q05,q0B,q0A,q0x,q0E,q0p,q01,hlt,decide_true,if_true,q41 hi,q0D,q0y,q0v,q0C,q0q,List.length_cons,List.length_nil,List.take_succ_cons,List.take_zero,q0t,q03,q0k,hw,r9,q08,q0r,q0w,q18,q1S,List.length_append]
  by_cases hc:c.src=s
  ·simp [hc]
  ·simp only [hc,ne_eq,not_false_eq_true,decide_true,decide_false,Bool.not_false,if_true]
   rw [if_pos (by simp [];omega)]
set_option maxRecDepth 10000 in
theorem l45_1 (n:Nat) (s:Int) (o:Option (List E9)) (hl:(o.getD []).length*72≤140737488351232) (x0 x2 x3 p0:D):q0u [L45_2 (RP n),L45_3 (RP n)] M0 0 [.d (il s),.d x0,.d (d9 o),.d x2,.d x3,.d (d9 o),.d (il (o.getD []).length),.d (il 0),.d p0] =
  q3H [.d (il s),.d x0,.d (d9 o),.d x2,.d x3,.d p0] (fun rs=>[.d (il s),.d x0,.d (d9 o),.d x2,.d x3,.r rs,.d p0,.n rs.length,.n rs.length]) ((o.getD []).filterMap (fun e=>if !decide (e.src=s) then some (r9 e) else none)):=by
 refine q1h (o.getD []) (by omega) (fun e=>if !decide (e.src=s) then some (r9 e) else none) _ _ (fun i=>[.d (il s),.d x0,.d (d9 o),.d x2,.d x3,.d (d9 o),.d (il (o.getD []).length),.d (il (i:Nat)),.d p0]) (fun i rs=>[.d (il s),.d x0,.d (d9 o),.d x2,.d x3,.d (d9 o),.d (il (o.getD []).length),.d (il (i:Nat)),.r rs,.d p0,.n rs.length,.n rs.length]) [.d (il s),.d x0,.d (d9 o),.d x2,.d x3,.d p0] (fun rs=>[.d (il s),.d x0,.d (d9 o),.d x2,.d x3,.r rs,.d p0,.n rs.length,.n rs.length]) ?_ ?_ ?_ ?_
 ·intro q;simp [L45_2]
 ·intro rs q;simp [L45_3]
 ·intro i c q hi hlt hw
  simp only [L45_2,q02,q05,q0p,q01,hlt,decide_true,if_true,q41 hi,q0D,q0y,q0v,q0C,q0q,List.length_cons,List.length_nil,List.take_succ_cons,List.take_zero,q0V,q0t,q03,q0k,hw,r9,q08,q0r,q0w]
  by_cases hc:c.src=s
  ·simp [hc]
  ·simp only [hc,ne_eq,not_false_eq_true,decide_true,decide_false,Bool.not_false,if_true]
   rw [if_pos (by simp [])]
 ·intro i c rs q hi hlt hw hrs
  simp only [L45_3,q02,q05,q0B,q0A,q0x,q0E,q0p,q01,hlt,decide_true,if_true,q41 hi,q0D,q0y,q0v,q0C,q0q,List.length_cons,List.length_nil,List.take_succ_cons,List.take_zero,q0t,q03,q0k,hw,r9,q08,q0r,q0w,q18,q1S,List.length_append]
  by_cases hc:c.src=s
  ·simp [hc]
  ·simp only [hc,ne_eq,not_false_eq_true,decide_true,decide_false,Bool.not_false,if_true]
   rw [if_pos (by simp [];omega)]
set_option maxRecDepth 10000 in
theorem l45_2 (n:Nat) (s:Int) (o:Option (List E9)) (hl:(o.getD []).length*72≤140737488351232) (x0 x1 x3 p0 p1:D):q0u [L45_4 (RP n),L45_5 (RP n)] M0 0 [.d (il s),.d x0,.d x1,.d (d9 o),.d x3,.d (d9 o),.d (il (o.getD []).length),.d (il 0),.d p0,.d p1] =
  q3H [.d (il s),.d x0,.d x1,.d (d9 o),.d x3,.d p0,.d p1] (fun rs=>[.d (il s),.d x0,.d x1,.d (d9 o),.d x3,.r rs,.d p0,.d p1,.n rs.length,.n rs.length]) ((o.getD []).filterMap (fun e=>if !decide (e.src=s) then some (r9 e) else none)):=by
 refine q1h (o.getD []) (by omega) (fun e=>if !decide (e.src=s) then some (r9 e) else none) _ _ (fun i=>[.d (il s),.d x0,.d x1,.d (d9 o),.d x3,.d (d9 o),.d (il (o.getD []).length),.d (il (i:Nat)),.d p0,.d p1]) (fun i rs=>[.d (il s),.d x0,.d x1,.d (d9 o),.d x3,.d (d9 o),.d (il (o.getD []).length),.d (il (i:Nat)),.r rs,.d p0,.d p1,.n rs.length,.n rs.length]) [.d (il s),.d x0,.d x1,.d (d9 o),.d x3,.d p0,.d p1] (fun rs=>[.d (il s),.d x0,.d x1,.d (d9 o),.d x3,.r rs,.d p0,.d p1,.n rs.length,.n rs.length]) ?_ ?_ ?_ ?_
 ·intro q;simp [L45_4]
 ·intro rs q;simp [L45_5]
 ·intro i c q hi hlt hw
  simp only [L45_4,q02,q05,q0p,q01,hlt,decide_true,if_true,q41 hi,q0D,q0y,q0v,q0C,q0q,List.length_cons,List.length_nil,List.take_succ_cons,List.take_zero,q0V,q0t,q03,q0k,hw,r9,q08,q0r,q0w]
  by_cases hc:c.src=s
  ·simp [hc]
  ·simp only [hc,ne_eq,not_false_eq_true,decide_true,decide_false,Bool.not_false,if_true]
   rw [if_pos (by simp [])]
 ·intro i c rs q hi hlt hw hrs
  simp only [L45_5,q02,q05,q0B,q0A,q0x,q0E,q0p,q01,hlt,decide_true,if_true,q41 hi,q0D,q0y,q0v,q0C,q0q,List.length_cons,List.length_nil,List.take_succ_cons,List.take_zero,q0t,q03,q0k,hw,r9,q08,q0r,q0w,q18,q1S,List.length_append]
  by_cases hc:c.src=s
  ·simp [hc]
  ·simp only [hc,ne_eq,not_false_eq_true,decide_true,decide_false,Bool.not_false,if_true]
   rw [if_pos (by simp [];omega)]
set_option maxRecDepth 10000 in
theorem l45_3 (n:Nat) (s:Int) (o:Option (List E5)) (hl:(o.getD []).length*40≤140737488351232) (x0 x1 x2 p0 p1 p2:D):q0u [L45_6 (RP n),L45_7 (RP n)] M0 0 [.d (il s),.d x0,.d x1,.d x2,.d (d5 o),.d (d5 o),.d (il (o.getD []).length),.d (il 0),.d p0,.d p1,.d p2] =
  q3H [.d x0,.d x1,.d x2,.d (d5 o),.d p0,.d p1,.d p2] (fun rs=>[.d x0,.d x1,.d x2,.d (d5 o),.r rs,.d p0,.d p1,.d p2,.n rs.length,.n rs.length]) ((o.getD []).filterMap (fun e=>if !decide (e.src=s) then some (r5 e) else none)):=by
 refine q1h (o.getD []) (by omega) (fun e=>if !decide (e.src=s) then some (r5 e) else none) _ _ (fun i=>[.d (il s),.d x0,.d x1,.d x2,.d (d5 o),.d (d5 o),.d (il (o.getD []).length),.d (il (i:Nat)),.d p0,.d p1,.d p2]) (fun i rs=>[.d (il s),.d x0,.d x1,.d x2,.d (d5 o),.d (d5 o),.d (il (o.getD []).length),.d (il (i:Nat)),.r rs,.d p0,.d p1,.d p2,.n rs.length,.n rs.length]) [.d x0,.d x1,.d x2,.d (d5 o),.d p0,.d p1,.d p2] (fun rs=>[.d x0,.d x1,.d x2,.d (d5 o),.r rs,.d p0,.d p1,.d p2,.n rs.length,.n rs.length]) ?_ ?_ ?_ ?_
 ·intro q;simp [L45_6]
 ·intro rs q;simp [L45_7]
 ·intro i c q hi hlt hw
  simp only [L45_6,q02,q05,q0p,q01,hlt,decide_true,if_true,qfB hi,q0D,q0y,q0v,q0C,q0q,List.length_cons,List.length_nil,List.take_succ_cons,List.take_zero,q0V,q0t,q03,q0k,hw,r5,q08,q0r,q0w]
  by_cases hc:c.src=s
  ·simp [hc]
  ·simp only [hc,ne_eq,not_false_eq_true,decide_true,decide_false,Bool.not_false,if_true]
   rw [if_pos (by simp [])]
 ·intro i c rs q hi hlt hw hrs
  simp only [L45_7,q02,q05,q0B,q0A,q0x,q0E,q0p,q01,hlt,decide_true,if_true,qfB hi,q0D,q0y,q0v,q0C,q0q,List.length_cons,List.length_nil,List.take_succ_cons,List.take_zero,q0t,q03,q0k,hw,r5,q08,q0r,q0w,q18,q1S,List.length_append]
  by_cases hc:c.src=s
  ·simp [hc]
  ·simp only [hc,ne_eq,not_false_eq_true,decide_true,decide_false,Bool.not_false,if_true]
   rw [if_pos (by simp [];omega)]
def q8i (s:Int) (a b c:List E9) (o:List E5):Bool:=decide (((wo9 s a).length:Int)+(wo9 s b).length+(wo9 s c).length+(wo5 s o).length < (a.length:Int)+b.length+c.length+o.length)
theorem q7Q (s:Int) (a b c:List E9) (o:List E5):q8i s a b c o=false↔q4v s a b c o:=by
 have h1:=q23 s a;have h2:=q23 s b;have h3:=q23 s c;have h4:=q7w s o
 unfold q8i q4v
 rw [decide_eq_false_iff_not]
 omega
theorem qj2 {Fn:Nat→List D→Out} {FnD:D→List Sh→List D→Out} {m:Nat} {l:List E9} {e0:List Yr} {e1:Rr→List Yr} {k0 k1:List Yr→Out} {R:D→Out} (h0:k0 e0=R (.lit (.slice none 0 0))) (h1:∀ w ws,k1 (e1 (w::ws))=R (.sl 9 (w::ws))) :
  (q06 Fn FnD m).bnd (q3H e0 e1 (l.map r9)) [k0,k1]=R (d9 (nzO l)):=by
 rw [←nz9];exact q2q h0 h1
theorem collL {Fn:Nat→List D→Out} {FnD:D→List Sh→List D→Out} {m:Nat} {l:List E5} {e0:List Yr} {e1:Rr→List Yr} {k0 k1:List Yr→Out} {R:D→Nat→Out} (h0:k0 e0=R (.lit (.slice none 0 0)) 0) (h1:∀ w ws,(w::ws).length=l.length→k1 (e1 (w::ws))=R (.sl 5 (w::ws)) l.length) :
  (q06 Fn FnD m).bnd (q3H e0 e1 (l.map r5)) [k0,k1]=R (d5 (nzO l)) l.length:=by
 cases l with
 | nil=>exact h0
 | cons x xs=>exact h1 (r5 x) (xs.map r5) (by simp)
set_option maxRecDepth 20000 in
theorem s45 (n:Nat) (s:Int) (a b c:Option (List E9)) (o:Option (List E5)) (ha:(a.getD []).length*72≤140737488351232) (hb:(b.getD []).length*72≤140737488351232) (hc:(c.getD []).length*72≤140737488351232) (ho:(o.getD []).length*40≤140737488351232) :
  FN (n+1) 45 [d9 a,d9 b,d9 c,d5 o,il s]=some (0,[.d (d9 (nzO (wo9 s (a.getD [])))),.d (d9 (nzO (wo9 s (b.getD [])))),.d (d9 (nzO (wo9 s (c.getD [])))),.d (d5 (nzO (wo5 s (o.getD [])))),.d (bl (q8i s (a.getD []) (b.getD []) (c.getD []) (o.getD [])))]):=by
 rw [F45]
 have f9:∀ l:List E9,l.filterMap (fun e=>if !decide (e.src=s) then some (r9 e) else none)=(wo9 s l).map r9:=fun l=>q2m _ _ l
 have f5:∀ l:List E5,l.filterMap (fun e=>if !decide (e.src=s) then some (r5 e) else none)=(wo5 s l).map r5:=fun l=>q2m _ _ l
 have h1:=q23 s (a.getD []);have h2:=q23 s (b.getD []);have h3:=q23 s (c.getD []);have h4:=q7w s (o.getD [])
 simp only [G45,q5J,q03,q0n,l45_0 n s a ha,f9]
 rw [qj2 (R:=fun d=>some (0,[.d (il s),.d (d9 a),.d (d9 b),.d (d9 c),.d (d5 o),.d d])) (by simp) (by intros;simp)]
 simp only [q00,q02,q05,q5J,l45_1 n s b hb,f9]
 rw [qj2 (R:=fun d=>some (0,[.d (il s),.d (d9 a),.d (d9 b),.d (d9 c),.d (d5 o),.d (d9 (nzO (wo9 s (a.getD [])))),.d d])) (by simp) (by intros;simp)]
 simp only [q00,q02,q05,q5J,l45_2 n s c hc,f9]
 rw [qj2 (R:=fun d=>some (0,[.d (il s),.d (d9 a),.d (d9 b),.d (d9 c),.d (d5 o),.d (d9 (nzO (wo9 s (a.getD [])))),.d (d9 (nzO (wo9 s (b.getD [])))),.d d])) (by simp) (by intros;simp)]
 simp only [q00,q02,q05,qfD,l45_3 n s o ho,f5]
 rw [collL (R:=fun d z=>some (0,[.d (d9 (nzO (wo9 s (a.getD [])))),.d (d9 (nzO (wo9 s (b.getD [])))),.d (d9 (nzO (wo9 s (c.getD [])))),.d d,.d (bl (decide (((wo9 s (a.getD [])).length:Int)+(wo9 s (b.getD [])).length+(wo9 s (c.getD [])).length+(z:Nat) < ((a.getD []).length:Int)+(b.getD []).length+(c.getD []).length+(o.getD []).length)))])) ?_ ?_]
 ·rfl
 ·simp only [q02,q05,q5J,qfD,q0b,q0k,q0p,q0e,q12]
  rw [q0f (x:=((wo9 s (a.getD [])).length:Int)+(wo9 s (b.getD [])).length) (by omega) (by omega),q0f (x:=((wo9 s (a.getD [])).length:Int)+(wo9 s (b.getD [])).length+(wo9 s (c.getD [])).length) (by omega) (by omega),q0f (x:=((wo9 s (a.getD [])).length:Int)+(wo9 s (b.getD [])).length+(wo9 s (c.getD [])).length+0) (by omega) (by omega),
   q0f (x:=((a.getD []).length:Int)+(b.getD []).length) (by omega) (by omega),q0f (x:=((a.getD []).length:Int)+(b.getD []).length+(c.getD []).length) (by omega) (by omega),q0f (x:=((a.getD []).length:Int)+(b.getD []).length+(c.getD []).length+(o.getD []).length) (by omega) (by omega)]
  rfl
 ·intro w ws hz
  simp only [q02,q05,q0x,q0E,q0B,q0A,q5J,qfD,q0b,q0k,q5y,q0p,q0e,q0y,q0C,if_true,q1f,q0q,List.take_length]
  simp only [hz]
  rw [q0f (x:=((wo9 s (a.getD [])).length:Int)+(wo9 s (b.getD [])).length) (by omega) (by omega),q0f (x:=((wo9 s (a.getD [])).length:Int)+(wo9 s (b.getD [])).length+(wo9 s (c.getD [])).length) (by omega) (by omega),q0f (x:=((wo9 s (a.getD [])).length:Int)+(wo9 s (b.getD [])).length+(wo9 s (c.getD [])).length+(wo5 s (o.getD [])).length) (by omega) (by omega),
   q0f (x:=((a.getD []).length:Int)+(b.getD []).length) (by omega) (by omega),q0f (x:=((a.getD []).length:Int)+(b.getD []).length+(c.getD []).length) (by omega) (by omega),q0f (x:=((a.getD []).length:Int)+(b.getD []).length+(c.getD []).length+(o.getD []).length) (by omega) (by omega)]
end Go.VE
