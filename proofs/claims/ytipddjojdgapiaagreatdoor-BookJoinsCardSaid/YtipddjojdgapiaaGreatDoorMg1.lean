/- Book, plainly: two books, joined. -/
import Derived.Test.YtipddjojdgapiaaGreatDoorMp
import Derived.Test.YtipddjojdgapiaaGreatDoorMg0
namespace Go.VE
open Go.Lib
set_option maxRecDepth 100000
theorem log_iff {l:List Rec}:isLog l=true↔l.length≤60∧(∀ r∈l,okR r=true)∧∀ (k:Int) (n:Nat) (r:Rec),(ofP l k)[n]?=some r→r.no=n:=by
 constructor
 ·intro h
  exact ⟨log_len h,log_okR h,log_no h⟩
 ·have key:∀ m:List Rec,m.reverse.length≤60→(∀ r∈m.reverse,okR r=true)→(∀ (k:Int) (n:Nat) (r:Rec),(ofP m.reverse k)[n]?=some r→r.no=n)→isLog m.reverse=true:=by
   intro m
   induction m with
   | nil=>intro _ _ _;rfl
   | cons r m ih =>
    intro h1 h2 h3
    rw [List.reverse_cons] at h1 h2 h3 ⊢
    rw [List.length_append,List.length_singleton] at h1
    rw [isLog_snoc,Bool.and_eq_true]
    constructor
    ·refine ih (by omega) (fun x hx=>h2 x (List.mem_append_left _ hx)) ?_
     intro k n x hx
     refine h3 k n x ?_
     rw [ofP_snoc,List.getElem?_append_left (List.getElem?_eq_some_iff.1 hx).1]
     exact hx
    ·rw [next_iff]
     refine ⟨by omega,h2 r (by simp),?_⟩
     refine h3 r.p _ r ?_
     rw [ofP_snoc,if_pos rfl,List.getElem?_append_right (by rw [ofP_len];exact Nat.le_refl _),ofP_len,Nat.sub_self]
     rfl
  rintro ⟨h1,h2,h3⟩
  have:=key l.reverse
  rw [List.reverse_reverse] at this
  exact this h1 h2 h3
theorem srt_count {l:List Rec} (h:∀ r∈l,okR r=true):(srt l).Perm l:=by
 rw [List.perm_iff_count]
 intro a
 by_cases ha:a∈l
 ·have hp:=log_par (h a ha)
  have h1:∀ k:Int,a.p=k→(ofP l k).count a=l.count a:=by
   intro k hk
   exact List.count_filter (by simpa using hk)
  have h0:∀ k:Int,a.p≠k→(ofP l k).count a=0:=by
   intro k hk
   exact List.count_eq_zero.2 fun hm=>hk (ofP_mem.1 hm).2
  have e:(srt l).count a=(ofP l 0).count a+((ofP l 1).count a+((ofP l 2).count a+((ofP l 3).count a+((ofP l 4).count a+(ofP l 5).count a)))):=by
   simp only [srt,parishes,List.flatMap_cons,List.flatMap_nil,List.count_append,List.append_nil]
  rw [e]
  have:a.p=0∨a.p=1∨a.p=2∨a.p=3∨a.p=4∨a.p=5:=by omega
  rcases this with hk | hk | hk | hk | hk | hk <;>
   (rw [h1 _ hk];simp only [h0 0,h0 1,h0 2,h0 3,h0 4,h0 5,hk,ne_eq,Int.reduceEq,not_false_eq_true,Nat.zero_add,Nat.add_zero])
 ·rw [List.count_eq_zero.2 ha]
  refine List.count_eq_zero.2 fun hm=>ha ?_
  rw [srt,List.mem_flatMap] at hm
  obtain ⟨k,_,hm⟩:=hm
  exact (ofP_mem.1 hm).1
theorem srt_congr {l m:List Rec} (h:∀ k,ofP l k=ofP m k):srt l=srt m:=by
 unfold srt
 congr 1
 funext k
 exact h k
theorem log_of {l m:List Rec} (hm:isLog m=true) (h:∀ k,ofP l k=ofP m k) (hk:∀ r∈l,okR r=true):isLog l=true:=by
 rw [log_iff]
 refine ⟨?_,hk,?_⟩
 ·rw [←(srt_count hk).length_eq,srt_congr h,(srt_perm hm).length_eq]
  exact log_len hm
 ·intro k n r hr
  rw [h k] at hr
  exact log_no hm k n r hr
def sameI (a b:Rec):Bool:=decide (a.p=b.p∧a.no=b.no)
def isBook (l:List Rec):Prop:=isLog l=true∧l.Pairwise bef
theorem book_srt {l:List Rec} (h:isBook l):srt l=l:=(srt_of h.1 h.2 (.refl _)).symm
theorem srt_book {l:List Rec} (h:isLog l=true):isBook (srt l)∧∀ k,ofP (srt l) k=ofP l k:=by
 have hk:∀ k,ofP (srt l) k=ofP l k:=by
  intro k
  have e:∀ (j:Int),ofP (ofP l j) k=if j=k then ofP l k else []:=by
   intro j
   by_cases hj:j=k
   ·subst hj
    rw [if_pos rfl]
    exact List.filter_eq_self.2 fun r hr=>by simpa using (ofP_mem.1 hr).2
   ·rw [if_neg hj]
    refine List.filter_eq_nil_iff.2 fun r hr=>?_
    have:=(ofP_mem.1 hr).2
    simp [this,hj]
  have e2:ofP (srt l) k=parishes.flatMap fun j=>if j=k then ofP l k else []:=by
   rw [srt,ofP,List.filter_flatMap]
   congr 1
   funext j
   exact e j
  rw [e2]
  by_cases hp:0≤k∧k≤5
  ·have:k=0∨k=1∨k=2∨k=3∨k=4∨k=5:=by omega
   rcases this with rfl | rfl | rfl | rfl | rfl | rfl<;>simp [parishes]
  ·have h0:ofP l k=[]:=by
    refine List.filter_eq_nil_iff.2 fun r hr=>?_
    have:=log_par (log_okR h r hr)
    simp only [decide_eq_true_eq]
    omega
   rw [h0]
   simp [parishes]
 refine ⟨⟨?_,srt_sorted h⟩,hk⟩
 exact log_of h hk fun r hr=>log_okR h r ((srt_mem h).1 hr)
def clash (a b:List Rec):Prop:=∃ x∈a,∃ r∈b,sameI x r=true∧x≠r
def freshG (a b:List Rec):List Rec:=b.filter fun r=>!(a.any fun x=>sameI x r)
def joined (a b:List Rec):List Rec:=a++freshG a b
theorem filter_drop {α:Type} (q:α→Bool):∀ (l:List α) (m:Nat),(∀ i x,l[i]?=some x→(q x=true↔m≤i))→l.filter q=l.drop m
 | [],m,_=>by simp
 | x::t,0,h=>by
  rw [List.drop_zero]
  refine List.filter_eq_self.2 fun y hy=>?_
  obtain ⟨i,hi,e⟩:=List.mem_iff_getElem.1 hy
  exact (h i y (by rw [List.getElem?_eq_getElem hi,e])).2 (Nat.zero_le _)
 | x::t,m+1,h=>by
  have h0:q x=false:=by
   have:=(h 0 x rfl)
   cases hq:q x with
   | false=>rfl
   | true=>exact absurd (this.1 hq) (by omega)
  rw [List.filter_cons,h0,List.drop_succ_cons]
  simp only [Bool.false_eq_true,if_false]
  refine filter_drop q t m fun i y hy=>?_
  rw [h (i+1) y (by simpa using hy)]
  omega
theorem log_has {l:List Rec} (h:isLog l=true) {k:Int} {n:Nat} (hn:n < many l k):∃ r∈l,r.p=k∧r.no=n∧(ofP l k)[n]?=some r:=by
 rw [←ofP_len] at hn
 have h1:=ofP_mem.1 (List.getElem_mem hn)
 exact ⟨_,h1.1,h1.2,log_no h k n _ (List.getElem?_eq_getElem hn),List.getElem?_eq_getElem hn⟩
theorem log_at {l:List Rec} (h:isLog l=true) {r:Rec} (hr:r∈l):(ofP l r.p)[r.no.toNat]?=some r:=by
 obtain ⟨n,hn,e⟩:=List.mem_iff_getElem.1 (ofP_mem.2 ⟨hr,rfl⟩:r∈ofP l r.p)
 have h1:=log_no h r.p n r (by rw [List.getElem?_eq_getElem hn,e])
 rw [h1,Int.toNat_natCast,List.getElem?_eq_getElem hn,e]
theorem any_same {a:List Rec} (ha:isLog a=true) {k:Int} {n:Nat} {r:Rec} (hp:r.p=k) (hn:r.no=n):(a.any fun x=>sameI x r)=true↔n < many a k:=by
 rw [List.any_eq_true]
 constructor
 ·rintro ⟨x,hx,h⟩
  simp only [sameI,decide_eq_true_eq] at h
  have:=(log_no_lt ha hx).2
  rw [h.1,hp] at this
  omega
 ·intro h
  obtain ⟨x,hx,h1,h2,_⟩:=log_has ha h
  exact ⟨x,hx,by simp only [sameI,decide_eq_true_eq];omega⟩
theorem joined_ofP {a b:List Rec} (ha:isLog a=true) (hb:isLog b=true) (k:Int):ofP (joined a b) k=ofP a k++(ofP b k).drop (many a k):=by
 unfold joined
 have e:ofP (a++freshG a b) k=ofP a k++ofP (freshG a b) k:=by simp [ofP]
 rw [e]
 congr 1
 have e2:ofP (freshG a b) k=(ofP b k).filter fun r=>!(a.any fun x=>sameI x r):=by
  simp only [ofP,freshG,List.filter_filter,Bool.and_comm]
 rw [e2]
 refine filter_drop _ _ _ fun i r hr=>?_
 have hn:=log_no hb k i r hr
 obtain ⟨hi,hr'⟩:=List.getElem?_eq_some_iff.1 hr
 have hp:=(ofP_mem.1 (List.getElem_mem hi)).2
 rw [hr'] at hp
 have:=any_same ha hp hn
 cases hq:(a.any fun x=>sameI x r) with
 | true=>simp only [hq,true_iff] at this;simp;omega
 | false=>simp only [hq,Bool.false_eq_true,false_iff] at this;simp;omega
theorem clash_symm {a b:List Rec} (h:clash a b):clash b a:=by
 obtain ⟨x,hx,r,hr,h1,h2⟩:=h
 refine ⟨r,hr,x,hx,?_,fun e=>h2 e.symm⟩
 simp only [sameI,decide_eq_true_eq] at h1 ⊢
 exact ⟨h1.1.symm,h1.2.symm⟩
theorem no_clash {a b:List Rec} (ha:isLog a=true) (hb:isLog b=true) (h:¬ clash a b) (k:Int) (n:Nat) (h1:n < many a k) (h2:n < many b k):(ofP a k)[n]?=(ofP b k)[n]?:=by
 obtain ⟨x,hx,x1,x2,x3⟩:=log_has ha h1
 obtain ⟨r,hr,r1,r2,r3⟩:=log_has hb h2
 rw [x3,r3]
 by_cases e:x=r
 ·rw [e]
 ·exact absurd ⟨x,hx,r,hr,by simp only [sameI,decide_eq_true_eq];omega,e⟩ h
theorem joined_at {a b:List Rec} (ha:isLog a=true) (hb:isLog b=true) (k:Int) (n:Nat):(ofP (joined a b) k)[n]?=if n < many a k then (ofP a k)[n]? else (ofP b k)[n]?:=by
 rw [joined_ofP ha hb,List.getElem?_append,ofP_len]
 split
 ·rfl
 ·rw [List.getElem?_drop]
  congr 1
  omega
theorem joined_symm {a b:List Rec} (ha:isLog a=true) (hb:isLog b=true) (h:¬ clash a b) (k:Int):ofP (joined a b) k=ofP (joined b a) k:=by
 apply List.ext_getElem?
 intro n
 rw [joined_at ha hb,joined_at hb ha]
 by_cases h1:n < many a k
 ·by_cases h2:n < many b k
  ·rw [if_pos h1,if_pos h2]
   exact no_clash ha hb h k n h1 h2
  ·rw [if_pos h1,if_neg h2]
 ·by_cases h2:n < many b k
  ·rw [if_neg h1,if_pos h2]
  ·rw [if_neg h1,if_neg h2,List.getElem?_eq_none (by rw [ofP_len];omega),List.getElem?_eq_none (by rw [ofP_len];omega)]
theorem joined_ok {a b:List Rec} (ha:isLog a=true) (hb:isLog b=true):∀ r∈joined a b,okR r=true:=by
 intro r hr
 rcases List.mem_append.1 hr with hr | hr
 ·exact log_okR ha r hr
 ·exact log_okR hb r (List.mem_filter.1 hr).1
theorem joined_log {a b:List Rec} (ha:isLog a=true) (hb:isLog b=true) (hl:(joined a b).length≤60):isLog (joined a b)=true:=by
 rw [log_iff]
 refine ⟨hl,joined_ok ha hb,?_⟩
 intro k n r hr
 rw [joined_at ha hb] at hr
 split at hr
 ·exact log_no ha k n r hr
 ·exact log_no hb k n r hr
theorem joined_len {a b:List Rec} (ha:isLog a=true) (hb:isLog b=true) (h:¬ clash a b):(joined a b).length=(joined b a).length:=by
 rw [←(srt_count (joined_ok ha hb)).length_eq,← (srt_count (joined_ok hb ha)).length_eq,srt_congr (joined_symm ha hb h)]
noncomputable def joinP (a b:List Rec):List Rec×Int:=by
 classical
 exact if clash a b then ([],82) else if 60 < (joined a b).length then ([],2) else (srt (joined a b),0)
theorem joinP_symm {a b:List Rec} (ha:isLog a=true) (hb:isLog b=true):joinP a b=joinP b a:=by
 unfold joinP
 by_cases h:clash a b
 ·rw [if_pos h,if_pos (clash_symm h)]
 ·rw [if_neg h,if_neg fun h'=>h (clash_symm h'),joined_len ha hb h,srt_congr (joined_symm ha hb h)]
theorem join_within {a b:List Rec} (ha:isLog a=true) (hb:isLog b=true) (h:∀ r∈b,r∈a):joinP a b=(srt a,0):=by
 have hc:¬ clash a b:=by
  rintro ⟨x,hx,r,hr,h1,h2⟩
  simp only [sameI,decide_eq_true_eq] at h1
  have e1:=log_at ha hx
  have e2:=log_at ha (h r hr)
  rw [h1.1,h1.2,e2] at e1
  exact h2 (by simpa using e1.symm)
 have hj:joined a b=a:=by
  have:freshG a b=[]:=by
   refine List.filter_eq_nil_iff.2 fun r hr=>?_
   have:(a.any fun x=>sameI x r)=true:=List.any_eq_true.2 ⟨r,h r hr,by simp [sameI]⟩
   rw [this]
   simp
  rw [joined,this,List.append_nil]
 unfold joinP
 rw [if_neg hc,hj,if_neg (by have:=log_len ha;omega)]
theorem join_parts {a b c:List Rec} (ha:isLog a=true) (hb:isLog b=true) (h:joinP a b=(c,0)):isBook c∧(∀ r∈a,r∈c)∧∀ r∈b,r∈c:=by
 unfold joinP at h
 by_cases hc:clash a b
 ·rw [if_pos hc] at h;simp at h
 rw [if_neg hc] at h
 by_cases hl:60 < (joined a b).length
 ·rw [if_pos hl] at h;simp at h
 rw [if_neg hl] at h
 have hc':srt (joined a b)=c:=by simpa using h
 have hj:=joined_log ha hb (by omega)
 subst hc'
 refine ⟨(srt_book hj).1,fun r hr=>(srt_mem hj).2 (List.mem_append_left _ hr),fun r hr=>(srt_mem hj).2 ?_⟩
 by_cases hf:(a.any fun x=>sameI x r)=true
 ·obtain ⟨x,hx,h1⟩:=List.any_eq_true.1 hf
  by_cases e:x=r
  ·rw [←e]
   exact List.mem_append_left _ hx
  ·exact absurd ⟨x,hx,r,hr,h1,e⟩ hc
 ·exact List.mem_append_right _ (List.mem_filter.2 ⟨hr,by simpa using hf⟩)
end Go.VE
namespace Go.VE
open Go.Lib
set_option maxRecDepth 100000
structure Bnd where
 st:Nat→List Strp
 sw:Nat→Int
def stripsF (q:Nat):Nat→List Rec→List Strp
 | _,[]=>[]
 | n,r::t=>strip n (txt r) q::stripsF q (n+1) t
def boundS (q:Nat) (l:List Rec):List Strp:=stripsF q 0 l
def isBound (b:Bnd) (l:List Rec):Prop:=isLog l=true∧∀ q,q < 3→b.st q=boundS q l∧0≤b.sw q∧b.sw q≤l.length
end Go.VE
namespace Go.VE
open Go.Lib
set_option maxRecDepth 100000
def addsP (l:List Rec) (r:Rec):Bool×Int :=
 if okR r=true then match l.find? (fun x=>sameI x r) with
  | some x=>if x=r then (true,0) else (false,82)
  | none=>if (many l r.p:Int) < r.no then (false,83) else if l.length=60 then (false,2) else (false,0)
 else (false,80)
theorem same_refl (r:Rec):sameI r r=true:=by simp [sameI]
theorem same_eq {l:List Rec} (h:isLog l=true) {x r:Rec} (hx:x∈l) (hr:r∈l) (hs:sameI x r=true):x=r:=by
 simp only [sameI,decide_eq_true_eq] at hs
 have e1:=log_at h hx
 have e2:=log_at h hr
 rw [hs.1,hs.2,e2] at e1
 simpa using e1.symm
def Pre (G:List Rec) (k:Int) (l:List Rec):Prop:=ofP l k=G.take (many l k)∧many l k≤G.length
end Go.VE
namespace Go.VE
open Go.Lib
set_option maxRecDepth 100000
structure Ltr where
 fr:Nat
 to:Nat
 ab:Nat
 many:Nat
 first:Nat
 recs:List Rec
structure Twn where
 L:Nat→List Rec
 B:Nat→Bnd
 S:Nat→Nat
def Twn.F (t:Twn) (k:Nat):List Rec:=ofP ((t.L k).take (t.S k)) k
structure Firm (b:Bnd) (l:List Rec) (s:Nat):Prop where
 bnd:isBound b l
 sw:∀ q,q < 3→(s:Int)≤b.sw q
theorem Firm.le {b:Bnd} {l:List Rec} {s:Nat} (h:Firm b l s):s≤l.length:=by
 have h1:=h.sw 0 (by decide)
 have h2:=(h.bnd.2 0 (by decide)).2.2
 omega
structure Inv (t:Twn):Prop where
 firm:∀ i,i < 6→Firm (t.B i) (t.L i) (t.S i)
 pre:∀ j k,j < 6→k < 6→j≠k→Pre (t.F k) k (t.L j)
structure LtrOK (t:Twn) (x:Ltr):Prop where
 fr:x.fr < 6
 to:x.to < 6
 ne:x.fr≠x.to
 ab:x.ab < 6
 many:x.many≤Go.VE.many ((t.L x.fr).take (t.S x.fr)) x.ab
 first:x.first≤60
 len:x.recs.length≤6
 mem:∀ r∈x.recs,r∈t.F x.ab
 no:∀ (i:Nat) (r:Rec),x.recs[i]?=some r→r.no=((x.first+i:Nat):Int)
def updN {α:Type} (f:Nat→α) (i:Nat) (x:α):Nat→α:=fun j=>if j=i then x else f j
theorem updN_same {α:Type} (f:Nat→α) (i:Nat) (x:α):updN f i x i=x:=if_pos rfl
theorem updN_ne {α:Type} (f:Nat→α) {i j:Nat} (x:α) (h:j≠i):updN f i x j=f j:=if_neg h
def Twn.upd (t:Twn) (me:Nat) (l:List Rec) (b:Bnd) (s:Nat):Twn:=⟨updN t.L me l,updN t.B me b,updN t.S me s⟩
theorem ofP_pre {l m:List Rec} (h:l <+: m) (k:Int):ofP l k <+: ofP m k:=by
 obtain ⟨r,rfl⟩:=h
 exact ⟨ofP r k,by simp [ofP]⟩
theorem many_pre {l m:List Rec} (h:l <+: m) (k:Int):many l k≤many m k:=by
 rw [←ofP_len,← ofP_len]
 exact (ofP_pre h k).length_le
theorem Pre.grow {G G':List Rec} {k:Int} {l:List Rec} (h:Pre G k l) (hg:G <+: G'):Pre G' k l:=by
 obtain ⟨r,rfl⟩:=hg
 refine ⟨?_,by rw [List.length_append];have:=h.2;omega⟩
 rw [List.take_append_of_le_length h.2]
 exact h.1
theorem Pre.cut {G:List Rec} {k:Int} {l m:List Rec} (h:Pre G k l) (hm:m <+: l):Pre G k m:=by
 have h1:=ofP_pre hm k
 have h2:=many_pre hm k
 refine ⟨?_,by have:=h.2;omega⟩
 have:=List.prefix_iff_eq_take.1 h1
 rw [this,h.1,List.take_take,ofP_len]
 congr 1
 omega
theorem Pre.other {G:List Rec} {k:Int} {l new:List Rec} (h:Pre G k l) (hn:∀ r∈new,r.p≠k):Pre G k (l++new):=by
 have e:ofP (l++new) k=ofP l k:=by
  have:ofP new k=[]:=List.filter_eq_nil_iff.2 fun r hr=>by simpa using hn r hr
  show (l++new).filter _=_
  rw [List.filter_append]
  show ofP l k++ofP new k=_
  rw [this,List.append_nil]
 have e2:many (l++new) k=many l k:=by rw [←ofP_len,e,ofP_len]
 exact ⟨by rw [e,e2];exact h.1,by rw [e2];exact h.2⟩
theorem F_grow {t:Twn} {me:Nat} {l:List Rec} {b:Bnd} {s:Nat} (hg:(t.L me).take (t.S me) <+: l.take s) (k:Nat):t.F k <+: (t.upd me l b s).F k:=by
 unfold Twn.F
 by_cases hk:k=me
 ·subst hk
  simp only [Twn.upd,updN_same]
  exact ofP_pre hg _
 ·simp only [Twn.upd,updN_ne _ _ hk]
  exact List.prefix_refl _
theorem Inv.upd {t:Twn} (h:Inv t) {me:Nat} {l:List Rec} {b:Bnd} {s:Nat} (hf:Firm b l s) (hg:(t.L me).take (t.S me) <+: l.take s) (hp:∀ k,k < 6→k≠me→Pre (t.F k) k l):Inv (t.upd me l b s):=by
 constructor
 ·intro i hi
  by_cases hk:i=me
  ·subst hk
   simp only [Twn.upd,updN_same]
   exact hf
  ·simp only [Twn.upd,updN_ne _ _ hk]
   exact h.firm i hi
 ·intro j k hj hk hjk
  have hF:=F_grow (b:=b) hg k
  by_cases hm:j=me
  ·subst hm
   have e:(t.upd j l b s).L j=l:=updN_same _ _ _
   rw [e]
   exact (hp k hk (Ne.symm hjk)).grow hF
  ·have e:(t.upd me l b s).L j=t.L j:=updN_ne _ _ hm
   rw [e]
   exact (h.pre j k hj hk hjk).grow hF
theorem LtrOK.upd {t:Twn} {x:Ltr} (h:LtrOK t x) {me:Nat} {l:List Rec} {b:Bnd} {s:Nat} (hg:(t.L me).take (t.S me) <+: l.take s):LtrOK (t.upd me l b s) x:=by
 refine ⟨h.fr,h.to,h.ne,h.ab,?_,h.first,h.len,fun r hr=>(F_grow hg x.ab).subset (h.mem r hr),h.no⟩
 refine Nat.le_trans h.many ?_
 by_cases hk:x.fr=me
 ·rw [←hk] at hg
  simp only [Twn.upd,← hk,updN_same]
  exact many_pre hg _
 ·simp only [Twn.upd,updN_ne _ _ hk]
  exact Nat.le_refl _
end Go.VE
namespace Go.VE
open Go.Lib
set_option maxRecDepth 100000
structure Two where
 a:Nat
 c:Nat
 G:Nat→List Rec
 big:Nat→Nat
 sm:Nat→Nat
structure LtrE (w:Two) (L:Nat→List Rec) (x:Ltr):Prop where
 ab:x.ab < 6
 mem:∀ r∈x.recs,r∈w.G x.ab
 no:∀ (i:Nat) (r:Rec),x.recs[i]?=some r→r.no=((x.first+i:Nat):Int)
 way:(x.to=w.big x.ab∧x.fr=w.sm x.ab∧x.many≤many (L (w.sm x.ab)) x.ab) ∨
  (x.to=w.sm x.ab∧x.fr=w.big x.ab∧x.many=(w.G x.ab).length∧((x.first < (w.G x.ab).length∧x.first≤many (L (w.sm x.ab)) x.ab∧x.recs.length=min 6 ((w.G x.ab).length - x.first))∨x.first=(w.G x.ab).length))
theorem LtrE.grow {w:Two} {L L':Nat→List Rec} {x:Ltr} (h:LtrE w L x) (hg:∀ i (k:Int),many (L i) k≤many (L' i) k):LtrE w L' x:=by
 refine ⟨h.ab,h.mem,h.no,?_⟩
 rcases h.way with ⟨h1,h2,h3⟩ | ⟨h1,h2,h3,h4⟩
 ·exact .inl ⟨h1,h2,Nat.le_trans h3 (hg _ _)⟩
 ·refine .inr ⟨h1,h2,h3,?_⟩
  rcases h4 with ⟨h4,h5,h6⟩ | h4
  ·exact .inl ⟨h4,Nat.le_trans h5 (hg _ _),h6⟩
  ·exact .inr h4
end Go.VE
namespace Go.VE
open Go.Lib
set_option maxRecDepth 100000
end Go.VE
namespace Go.VE
open Go.Lib
set_option maxRecDepth 100000
def turnsL (a:List Rec):List Rec:=(List.range 60).flatMap fun no:Nat=>a.reverse.filter fun r=>decide (r.no=(no:Int))
theorem filter_no (n:Nat):∀ (l:List Rec) (off:Nat),(∀ (i:Nat) (x:Rec),l[i]?=some x→x.no=((off+i:Nat):Int))→l.filter (fun r=>decide (r.no=(n:Int)))=if off≤n then (l[n - off]?).toList else []
 | [],off,_=>by simp
 | x::t,off,h=>by
  have h0:=h 0 x rfl
  have ih:=filter_no n t (off+1) fun i y hy=>by
   have:=h (i+1) y (by simpa using hy)
   rw [this]
   congr 1
   omega
  rw [List.filter_cons,ih]
  by_cases e:off=n
  ·subst e
   rw [if_pos (by rw [h0];simp),if_neg (by omega),if_pos (Nat.le_refl _),Nat.sub_self]
   rfl
  ·rw [if_neg (by rw [h0];simp;omega)]
   by_cases hl:off≤n
   ·rw [if_pos (by omega),if_pos hl]
    congr 1
    rw [show n - off=(n - (off+1))+1 by omega,List.getElem?_cons_succ]
   ·rw [if_neg (by omega),if_neg hl]
theorem range_take {α:Type} (l:List α):∀ m,(List.range m).flatMap (fun n=>(l[n]?).toList)=l.take m
 | 0=>by simp
 | m+1=>by
  rw [List.range_succ,List.flatMap_append,range_take l m,List.take_add_one]
  simp
theorem turns_ofP {a:List Rec} (h:isLog a=true) (k:Int):ofP (turnsL a) k=ofP a k:=by
 have hl:(ofP a k).length≤60:=by
  have h1:(ofP a k).length≤a.length:=List.length_filter_le _ _
  have:=log_len h
  omega
 have e:∀ n:Nat,ofP (a.reverse.filter fun r=>decide (r.no=(n:Int))) k=((ofP a k)[n]?).toList:=by
  intro n
  have e1:ofP (a.reverse.filter fun r=>decide (r.no=(n:Int))) k=((ofP a k).filter fun r=>decide (r.no=(n:Int))).reverse:=by
   simp only [ofP,List.filter_reverse,List.filter_filter,Bool.and_comm]
  rw [e1,filter_no n (ofP a k) 0 fun i x hx=>by rw [Nat.zero_add];exact log_no h k i x hx,if_pos (Nat.zero_le _),Nat.sub_zero]
  cases (ofP a k)[n]?<;>rfl
 have e2:ofP (turnsL a) k=(List.range 60).flatMap fun n=>((ofP a k)[n]?).toList:=by
  rw [turnsL,ofP,List.filter_flatMap]
  congr 1
  funext n
  exact e n
 rw [e2,range_take,List.take_of_length_le hl]
theorem turns_log {a:List Rec} (h:isBook a):isLog (turnsL a)=true∧srt (turnsL a)=a:=by
 have hk:∀ r∈turnsL a,okR r=true:=by
  intro r hr
  obtain ⟨n,_,hr⟩:=List.mem_flatMap.1 hr
  exact log_okR h.1 r (by simpa using (List.mem_filter.1 hr).1)
 exact ⟨log_of h.1 (turns_ofP h.1) hk,by rw [srt_congr (turns_ofP h.1),book_srt h]⟩
end Go.VE
namespace Go.VE
open Go.Lib
set_option maxRecDepth 100000
def adj:List Rec→Bool
 | a::b::t=>decide (bef a b)&&adj (b::t)
 | _=>true
theorem adj_iff:∀ l:List Rec,adj l=true↔l.Pairwise bef
 | []=>by simp [adj]
 | [a]=>by simp [adj]
 | a::b::t=>by
  rw [adj,Bool.and_eq_true,decide_eq_true_eq,adj_iff (b::t),List.pairwise_cons (a:=a)]
  constructor
  ·rintro ⟨h1,h2⟩
   refine ⟨?_,h2⟩
   intro x hx
   rcases List.mem_cons.1 hx with rfl | hx
   ·exact h1
   ·exact bef_trans h1 ((List.pairwise_cons.1 h2).1 x hx)
  ·rintro ⟨h1,h2⟩
   exact ⟨h1 b (by simp),h2⟩
end Go.VE
namespace Go.VE
open Go.RowKit Go.Proofs Go.Lib
set_option maxRecDepth 100000
theorem s118 (n:Nat) (a b:Rec):FN (n+1) 118 (recR a++recR b)=some (0,[.d (bl (decide (bef a b)))]):=by
 obtain ⟨a1,a2,a3,a4,a5,a6,a7,a8⟩:=a
 obtain ⟨b1,b2,b3,b4,b5,b6,b7,b8⟩:=b
 show FN (n+1) 118 [il a1,il a2,il a3,il a4,il a5,il a6,il a7,sD a8,il b1,il b2,il b3,il b4,il b5,il b6,il b7,sD b8]=_
 rw [F118]
 simp only [G118,r_lss,r_eql,r_cond,r_litb,r_out,bef,decide_eq_true_eq]
 by_cases h1:a1 < b1
 ·simp [h1]
 ·by_cases h2:a1=b1
  ·simp [h2]
  ·simp [h1,h2]
def cmpZ (a b:Int):Int:=if a < b then -1 else if b < a then 1 else 0
def cmQ (a b:Rec):Int:=if cmpZ a.p b.p≠0 then cmpZ a.p b.p else cmpZ a.no b.no
theorem cmQ_bef (a b:Rec):decide (0≤cmQ a b)=!decide (bef a b):=by
 unfold cmQ cmpZ bef
 rw [Bool.eq_iff_iff]
 simp only [decide_eq_true_eq,Bool.not_eq_true',decide_eq_false_iff_not]
 by_cases h1:a.p < b.p
 ·simp [h1]
 ·by_cases h2:b.p < a.p
  ·simp [h1,h2];omega
  ·by_cases h3:a.no < b.no
   ·simp [h1,h2,h3];omega
   ·by_cases h4:b.no < a.no
    ·simp [h1,h2,h3,h4]
    ·simp [h1,h2,h3,h4]
theorem s175 (n:Nat) (a:Int):FN (n+1) 175 [il a]=some (0,[.d (bl false)]):=by rw [F175];simp [G175]
theorem s158 (n:Nat) (a b:Int):FN (n+2) 158 [il a,il b]=some (0,[.d (il (cmpZ a b))]):=by
 rw [F158]
 simp only [G158,r_call,s175,r_bnd0,r_ld0,r_cond,Bool.false_eq_true,if_false,r_lss,r_gtr,r_liti,r_out,cmpZ,decide_eq_true_eq]
 by_cases h1:a < b
 ·rw [if_pos h1,if_pos h1]
 ·rw [if_neg h1,if_neg h1]
  by_cases h2:b < a
  ·rw [if_pos h2,if_pos h2]
  ·rw [if_neg h2,if_neg h2]
theorem s157 (n:Nat) (x y:Int):FN (n+1) 157 [.sl 1 [[il x],[il y]]]=some (0,[.d (il (if x≠0 then x else y))]):=by
 rw [F157]
 have w0:IntKind.i64.wrap (0+1)=1:=by decide
 have w1:IntKind.i64.wrap (1+1)=2:=by decide
 have hl:(([[il x],[il y]]:Rr).length:Int)=2:=rfl
 have r0:∀ k:List D→Out,(RP n).rowD 1 (.sl 1 [[il x],[il y]]) (il 0) k=k [il x]:=fun k=>rfl
 have r1:∀ k:List D→Out,(RP n).rowD 1 (.sl 1 [[il x],[il y]]) (il 1) k=k [il y]:=fun k=>rfl
 by_cases h:x=0
 ·subst h
  simp only [G157,r_lenD,hl,r_liti,r_loop]
  rw [loop4]
  simp only [L157_0,r_ld0,r_lds,r_lss,show (0:Int) < 2 by decide,decide_true,if_true,r_cond,r0,r_cell0,r_neq,ne_eq,not_true,decide_false,Bool.false_eq_true,if_false,r_liti,r_add,w0]
  rw [loop3]
  by_cases hy:y=0
  ·subst hy
   simp only [L157_0,r_ld0,r_lds,r_lss,show (1:Int) < 2 by decide,decide_true,if_true,r_cond,r1,r_cell0,r_neq,ne_eq,not_true,decide_false,Bool.false_eq_true,if_false,r_liti,r_add,w1]
   rw [loop2]
   simp only [L157_0,r_ld0,r_lds,r_lss,show ¬ ((2:Int) < 2) by decide,decide_false,Bool.false_eq_true,if_false,r_cond,r_out,r_bnd1]
  ·simp only [L157_0,r_ld0,r_lds,r_lss,show (1:Int) < 2 by decide,decide_true,if_true,r_cond,r1,r_cell0,r_neq,ne_eq,hy,not_false_eq_true,r_out,r_bnd0,not_true,if_false]
 ·simp only [G157,r_lenD,hl,r_liti,r_loop]
  rw [loop4]
  simp only [L157_0,r_ld0,r_lds,r_lss,show (0:Int) < 2 by decide,decide_true,if_true,r_cond,r0,r_cell0,r_neq,ne_eq,h,not_false_eq_true,r_out,r_bnd0]
theorem s147 (n:Nat) (a b c d:Int):FN (n+3) 147 [il a,il b,il c,il d]=some (0,[.d (il (if cmpZ a c≠0 then cmpZ a c else cmpZ b d))]):=by
 rw [F147]
 simp only [G147,r_call,s158,r_bnd0,r_ld0,r_rows,r_slD,s157,r_out]
theorem s123 (n:Nat) (a b:Rec):FN (n+4) 123 (recR a++recR b)=some (0,[.d (il (cmQ a b))]):=by
 obtain ⟨a1,a2,a3,a4,a5,a6,a7,a8⟩:=a
 obtain ⟨b1,b2,b3,b4,b5,b6,b7,b8⟩:=b
 show FN (n+4) 123 [il a1,il a2,il a3,il a4,il a5,il a6,il a7,sD a8,il b1,il b2,il b3,il b4,il b5,il b6,il b7,sD b8]=_
 rw [F123]
 simp only [G123,r_call,s147,r_bnd0,r_ld0,r_out,cmQ]
def prevO (l:List Rec) (i:Nat):Option Rec:=if i=0 then none else l[i - 1]?
def adjP:Option Rec→List Rec→Bool
 | _,[]=>true
 | none,r::t=>adjP (some r) t
 | some p,r::t=>decide (bef p r)&&adjP (some r) t
theorem adjP_some:∀ (p:Rec) (t:List Rec),adjP (some p) t=adj (p::t)
 | _,[]=>rfl
 | p,r::t=>by rw [adjP,adj,adjP_some r t]
theorem adjP_none (l:List Rec):adjP none l=adj l:=by
 cases l with
 | nil=>rfl
 | cons r t=>rw [adjP,adjP_some]
theorem prevO_succ {l:List Rec} {i:Nat} {c:Rec} (h:l[i]?=some c):prevO l (i+1)=some c:=by simp [prevO,h]
def bkO (d:D):Bool→Out
 | true=>some (0,[.d d])
 | false=>some (1,[.d (il 81)])
theorem l60 (n:Nat) (o:Option (List Rec)) (hl:(o.getD []).length≤4611686018427387904) (c123:∀ a b,FN n 123 (recR a++recR b)=some (0,[.d (il (cmQ a b))])) :
  loopR [L60_0 (RP n)] M0 0 [.d (dR o),.d (dR o),.d (il (o.getD []).length),.d (il 0)]=bkO (dR o) (adj (o.getD [])):=by
 have:=range_loop (β:=Unit) (o.getD []) hl (L60_0 (RP n)) (fun i _=>[.d (dR o),.d (dR o),.d (il (o.getD []).length),.d (il i)]) (fun _ _=>True)
  (fun i r _=>bkO (dR o) (adjP (prevO (o.getD []) i) r)) ?_ ?_ M0 () trivial (M0_big hl)
 ·have e:adjP (prevO (o.getD []) 0) (o.getD [])=adj (o.getD []):=adjP_none _
  rw [←e]
  exact this
 ·intro _ k _
  have e:adjP (prevO (o.getD []) (o.getD []).length) []=true:=by cases prevO (o.getD []) (o.getD []).length<;>rfl
  simp only [L60_0,r_ld0,r_lds,r_lss,Int.lt_irrefl,decide_false,Bool.false_eq_true,if_false,r_cond,r_out,e,bkO]
 ·intro i c r _ k hi hd hlt hw _ ih
  have hlt':(i:Int) < (((o.getD []).length:Nat):Int):=by omega
  have ih':=ih () trivial
  rw [prevO_succ hi,cast1] at ih'
  by_cases h0:i=0
  ·subst h0
   have r0:∀ k:List D→Out,(RP n).rowD 8 (dR o) (il 0) k=k (recR c):=fun k=>rowR (i:=0) hi k
   have w0:IntKind.i64.wrap (0+1)=1:=by decide
   have e:adjP (prevO (o.getD []) 0) (c::r)=adjP (some c) r:=rfl
   have hlt0:(0:Int) < (((o.getD []).length:Nat):Int):=by omega
   rw [e]
   show L60_0 (RP n) k [.d (dR o),.d (dR o),.d (il (o.getD []).length),.d (il 0)]=_
   simp only [L60_0,r_ld0,r_lds,r_lss,hlt0,decide_true,if_true,r_cond,r0,r_gtr,r_liti,Int.lt_irrefl,decide_false,Bool.false_eq_true,if_false,r_add,w0]
   exact ih'
  ·have hp:(o.getD [])[i - 1]?=some ((o.getD [])[i - 1]'(by omega)):=List.getElem?_eq_getElem (by omega)
   generalize hq:(o.getD [])[i - 1]'(by omega)=q at hp
   have hpv:prevO (o.getD []) i=some q:=by rw [prevO,if_neg h0,hp]
   have cc:=c123 q c
   simp only [recR,List.cons_append,List.nil_append] at cc
   have hi0:(0:Int) < (i:Int):=by omega
   rw [hpv,adjP]
   simp only [L60_0,r_ld0,r_lds,r_lss,hlt',decide_true,if_true,r_cond,rowR hi,r_gtr,r_liti,hi0,r_sub,pred_nat (show 0 < i by omega) (by omega),rowR hp,cR0,cR1,cR2,cR3,cR4,cR5,cR6,cR7,r_call,cc,r_bnd0,r_geq,cmQ_bef,r_out,r_add,hw,ih']
   cases decide (bef q c)<;>simp [bkO]
def bookB (l:List Rec):Bool:=isLog l&&adj l
theorem bookB_iff (l:List Rec):bookB l=true↔isBook l:=by
 unfold bookB isBook
 rw [Bool.and_eq_true,adj_iff]
def chkZ (b:Bool):Int:=bif b then 0 else 81
theorem s60 (n:Nat) (o:Option (List Rec)) (hl:(o.getD []).length≤4611686018427387904):FN (n+7) 60 [dR o]=some (0,[.d (il (chkZ (bookB (o.getD []))))]):=by
 have l:=l60 (n+6) o hl fun a b=>s123 (n+2) a b
 have h:=s122 n o hl
 rw [F60]
 simp only [G60,lenL,r_loop,r_liti,l,bookB]
 cases adj (o.getD []) with
 | false=>simp [bkO,chkZ]
 | true =>
  simp only [bkO,r_bnd0,r_ld0,r_call,h,r_not,r_cond,r_liti,r_out]
  cases isLog (o.getD [])<;>simp [chkZ]
theorem l57 (n:Nat) (o:Option (List Rec)) (hl:(o.getD []).length≤4611686018427387904) (c118:∀ a b,FN n 118 (recR a++recR b)=some (0,[.d (bl (decide (bef a b)))])) :
  loopR [L57_0 (RP n)] M0 0 [.d (dR o),.d (il (o.getD []).length),.d (il 0)]=(match adj (o.getD []) with
   | true=>some (1,[])
   | false=>some (0,[.d (il 81)])):=by
 have:=range_loop (β:=Unit) (o.getD []) hl (L57_0 (RP n)) (fun i _=>[.d (dR o),.d (il (o.getD []).length),.d (il i)]) (fun _ _=>True)
  (fun i r _=>match adjP (prevO (o.getD []) i) r with
   | true=>some (1,[])
   | false=>some (0,[.d (il 81)])) ?_ ?_ M0 () trivial (M0_big hl)
 ·have e:adjP (prevO (o.getD []) 0) (o.getD [])=adj (o.getD []):=adjP_none _
  simp only [e] at this
  exact this
 ·intro _ k _
  have e:adjP (prevO (o.getD []) (o.getD []).length) []=true:=by cases prevO (o.getD []) (o.getD []).length<;>rfl
  simp only [L57_0,r_ld0,r_lds,r_lss,Int.lt_irrefl,decide_false,Bool.false_eq_true,if_false,r_cond,r_out,e]
 ·intro i c r _ k hi hd hlt hw _ ih
  have hlt':(i:Int) < (((o.getD []).length:Nat):Int):=by omega
  have ih':=ih () trivial
  rw [prevO_succ hi,cast1] at ih'
  by_cases h0:i=0
  ·subst h0
   have w0:IntKind.i64.wrap (0+1)=1:=by decide
   have e:adjP (prevO (o.getD []) 0) (c::r)=adjP (some c) r:=rfl
   have hlt0:(0:Int) < (((o.getD []).length:Nat):Int):=by omega
   rw [e]
   show L57_0 (RP n) k [.d (dR o),.d (il (o.getD []).length),.d (il 0)]=_
   simp only [L57_0,r_ld0,r_lds,r_lss,hlt0,decide_true,if_true,r_cond,r_gtr,r_liti,Int.lt_irrefl,decide_false,Bool.false_eq_true,if_false,r_add,w0]
   exact ih'
  ·have hp:(o.getD [])[i - 1]?=some ((o.getD [])[i - 1]'(by omega)):=List.getElem?_eq_getElem (by omega)
   generalize hq:(o.getD [])[i - 1]'(by omega)=q at hp
   have hpv:prevO (o.getD []) i=some q:=by rw [prevO,if_neg h0,hp]
   have cc:=c118 q c
   simp only [recR,List.cons_append,List.nil_append] at cc
   have hi0:(0:Int) < (i:Int):=by omega
   rw [hpv,adjP]
   simp only [L57_0,r_ld0,r_lds,r_lss,hlt',decide_true,if_true,r_cond,rowR hi,r_gtr,r_liti,hi0,r_sub,pred_nat (show 0 < i by omega) (by omega),rowR hp,cR0,cR1,cR2,cR3,cR4,cR5,cR6,cR7,r_call,cc,r_bnd0,r_ld0,r_not,r_out,r_add,hw,ih']
   cases decide (bef q c)<;>simp
theorem s57 (n:Nat) (o:Option (List Rec)) (hl:(o.getD []).length≤4611686018427387904):FN (n+7) 57 [dR o]=some (0,[.d (il (chkZ (bookB (o.getD []))))]):=by
 have l:=l57 (n+6) o hl fun a b=>s118 (n+5) a b
 have h:=s97 n o hl
 rw [F57]
 simp only [G57,lenL,r_call,h,r_bnd0,r_ld0,r_not,r_cond,r_loop,r_liti,l,bookB,r_out]
 cases isLog (o.getD []) with
 | false=>simp [chkZ]
 | true=>cases adj (o.getD [])<;>simp [chkZ]
theorem l26 (n:Nat) (a b:Option (List Rec)) (hl:(a.getD []).length=(b.getD []).length) (hn:(a.getD []).length≤4611686018427387904) :
  loopR [L26_0 (RP n)] M0 0 [.d (dR a),.d (dR b),.d (il (a.getD []).length),.d (il 0)]=allO (decide (a.getD []=b.getD [])):=by
 have:=range_loop (β:=Unit) (a.getD []) hn (L26_0 (RP n)) (fun i _=>[.d (dR a),.d (dR b),.d (il (a.getD []).length),.d (il i)]) (fun _ _=>True)
  (fun i r _=>allO (decide (r=(b.getD []).drop i))) ?_ ?_ M0 () trivial (M0_big hn)
 ·simpa using this
 ·intro _ k _
  have:(b.getD []).drop (a.getD []).length=[]:=by rw [List.drop_of_length_le (by omega)]
  simp only [L26_0,r_ld0,r_lds,r_lss,Int.lt_irrefl,decide_false,Bool.false_eq_true,if_false,r_cond,r_out,this,decide_true,allO]
 ·intro i x r _ k hi hd hlt hw _ ih
  have hlt':(i:Int) < ((a.getD []).length:Int):=by omega
  obtain ⟨y,hy⟩:∃ y,(b.getD [])[i]?=some y:=⟨(b.getD [])[i]'(by omega),by simp⟩
  have hdy:(b.getD []).drop i=y::(b.getD []).drop (i+1):=by
   have hi2:i < (b.getD []).length:=by omega
   rw [List.drop_eq_getElem_cons hi2]
   have e1:(b.getD [])[i]=y:=by have:=hy;rw [List.getElem?_eq_getElem hi2] at this;exact Option.some.inj this
   rw [e1]
  have ih':=ih () trivial
  rw [cast1] at ih'
  have e3:∀ (s t:Rec) (k:D→Out),(RP n).eqs [1,1,1,1,1,1,1,2] true [il s.p,il s.no,il s.kd,il s.dy,il s.kn,il s.op,il s.on,sD s.tx] [il t.p,il t.no,il t.kd,il t.dy,il t.kn,il t.op,il t.on,sD t.tx] k=k (bl (!decide (s=t))):=fun s t k=>r_eqRec true s t k
  simp only [L26_0,r_ld0,r_lds,r_lss,hlt',decide_true,if_true,r_cond,rowR hi,rowR hy,cR0,cR1,cR2,cR3,cR4,cR5,cR6,cR7,e3,r_liti,r_litb,r_add,hw,ih',r_out,hdy,List.cons.injEq]
  by_cases h:x=y
  ·simp [h]
  ·simp [h,allO]
theorem s26 (n:Nat) (a b:Option (List Rec)) (hn:(a.getD []).length≤4611686018427387904):FN (n+1) 26 [dR a,dR b]=some (0,[.d (bl (decide (a.getD []=b.getD [])))]):=by
 rw [F26]
 simp only [G26,lenL,r_neq,r_cond,r_loop,r_liti,r_litb,r_out]
 by_cases hl:(a.getD []).length=(b.getD []).length
 ·rw [l26 n a b hl hn]
  by_cases h:a.getD []=b.getD []
  ·simp [h,allO]
  ·have:¬ (((a.getD []).length:Int)≠((b.getD []).length:Int)):=by omega
   simp only [this,decide_false,Bool.false_eq_true,if_false,h,allO,r_bnd0,r_ld0]
 ·have h1:((a.getD []).length:Int)≠((b.getD []).length:Int):=by omega
  have h2:a.getD []≠b.getD []:=fun e=>hl (by rw [e])
  simp only [h1,ne_eq,not_false_eq_true,decide_true,if_true,h2,decide_false]
end Go.VE
namespace Go.VE
open Go.RowKit Go.Proofs Go.Lib
set_option maxRecDepth 100000
def fdx (p no:Int):List Rec→Option Nat
 | []=>none
 | r::t=>if r.p=p∧r.no=no then some 0 else (fdx p no t).map (·+1)
def fdZ:Option Nat→Int
 | none=>-1
 | some j=>(j:Int)
def fdO (i:Nat):Option Nat→Out
 | none=>some (1,[])
 | some j=>some (0,[.d (il ((i+j:Nat):Int))])
theorem s124 (n:Nat) (o:Option (List Rec)) (p no:Int) (hl:(o.getD []).length≤4611686018427387904):FN (n+1) 124 [dR o,il p,il no]=some (0,[.d (il (fdZ (fdx p no (o.getD []))))]):=by
 rw [F124]
 have:=range_loop (β:=Unit) (o.getD []) hl (L124_0 (RP n)) (fun i _=>[.d (il p),.d (il no),.d (dR o),.d (il (o.getD []).length),.d (il i)]) (fun _ _=>True) (fun i r _=>fdO i (fdx p no r)) ?_ ?_ M0 () trivial (M0_big hl)
 ·have this':loopR [L124_0 (RP n)] M0 0 [.d (il p),.d (il no),.d (dR o),.d (il (o.getD []).length),.d (il 0)]=fdO 0 (fdx p no (o.getD [])):=this
  simp only [G124,lenL,r_loop,r_liti,this']
  cases fdx p no (o.getD []) with
  | none=>rfl
  | some j=>simp [fdO,fdZ]
 ·intro _ k _
  simp only [L124_0,r_ld0,r_lds,r_lss,Int.lt_irrefl,decide_false,Bool.false_eq_true,if_false,r_cond,r_out]
  rfl
 ·intro i c r _ k hi hd hlt hw _ ih
  have hlt':(i:Int) < ((o.getD []).length:Int):=by omega
  have ih':=ih () trivial
  rw [cast1] at ih'
  simp only [L124_0,r_ld0,r_lds,r_lss,hlt',decide_true,if_true,r_cond,rowR hi,cR0,cR1,r_eqs2,Bool.false_eq_true,if_false,decide_eq_true_eq,r_out,r_liti,r_add,hw,ih',fdx]
  by_cases h:c.p=p∧c.no=no
  ·rw [if_pos h,if_pos h];rfl
  ·rw [if_neg h,if_neg h]
   cases fdx p no r with
   | none=>rfl
   | some j=>simp only [Option.map_some,fdO];congr 5;omega
theorem find_pos {c r:Rec} {t:List Rec} (h:sameI c r=true):(c::t).find? (fun x=>sameI x r)=some c:=List.find?_cons_of_pos (p:=fun x=>sameI x r) h
theorem find_neg {c r:Rec} {t:List Rec} (h:¬ sameI c r=true):(c::t).find? (fun x=>sameI x r)=t.find? fun x=>sameI x r:=List.find?_cons_of_neg (p:=fun x=>sameI x r) h
theorem fdx_find (r:Rec):∀ l:List Rec,match fdx r.p r.no l with
  | none=>l.find? (fun x=>sameI x r)=none
  | some j=>∃ x,l[j]?=some x∧l.find? (fun x=>sameI x r)=some x
 | []=>rfl
 | c::t=>by
  have ih:=fdx_find r t
  unfold fdx
  by_cases h:c.p=r.p∧c.no=r.no
  ·have hs:sameI c r=true:=by simp [sameI,h]
   rw [if_pos h]
   exact ⟨c,rfl,by rw [find_pos hs]⟩
  ·have hs:¬ sameI c r=true:=by simp only [sameI,decide_eq_true_eq];exact h
   rw [if_neg h]
   cases hx:fdx r.p r.no t with
   | none =>
    rw [hx] at ih
    simp only [Option.map_none]
    rw [find_neg hs]
    exact ih
   | some j =>
    rw [hx] at ih
    simp only [Option.map_some]
    obtain ⟨x,h1,h2⟩:=ih
    exact ⟨x,by simpa using h1,by rw [find_neg hs];exact h2⟩
section
variable {Fn:Nat→List D→Out} {FnD:D→List Sh→List D→Out} {m:Nat}
theorem eqR (ng:Bool) (s t:Rec) (k:D→Out):(real Fn FnD m).eqs [1,1,1,1,1,1,1,2] ng [il s.p,il s.no,il s.kd,il s.dy,il s.kn,il s.op,il s.on,sD s.tx] [il t.p,il t.no,il t.kd,il t.dy,il t.kn,il t.op,il t.on,sD t.tx] k=k (bl (if ng then !decide (s=t) else decide (s=t))):=r_eqRec ng s t k
end
def adY (x:Bool×Int):List Yr:=[.d (bl x.1),.d (il x.2)]
def scan (r:Rec) (q:List Yr):Option Rec→Out
 | some x=>if x=r then some (0,[.d (bl true),.d (il 0)]) else some (0,[.d (bl false),.d (il 82)])
 | none=>some (1,q)
theorem l81 (n:Nat) (o:Option (List Rec)) (r:Rec) (hl:(o.getD []).length≤4611686018427387904) :
  loopR [L81_0 (RP n)] M0 0 [.d (dR o),.d (il r.p),.d (il r.no),.d (il r.kd),.d (il r.dy),.d (il r.kn),.d (il r.op),.d (il r.on),.d (sD r.tx),.d (dR o),.d (il (o.getD []).length),.d (il 0)] =
   scan r [.d (dR o),.d (il r.p),.d (il r.no),.d (il r.kd),.d (il r.dy),.d (il r.kn),.d (il r.op),.d (il r.on),.d (sD r.tx)] ((o.getD []).find? fun x=>sameI x r):=by
 have:=range_loop (β:=Unit) (o.getD []) hl (L81_0 (RP n)) (fun i _=>[.d (dR o),.d (il r.p),.d (il r.no),.d (il r.kd),.d (il r.dy),.d (il r.kn),.d (il r.op),.d (il r.on),.d (sD r.tx),.d (dR o),.d (il (o.getD []).length),.d (il i)]) (fun _ _=>True)
  (fun _ t _=>scan r [.d (dR o),.d (il r.p),.d (il r.no),.d (il r.kd),.d (il r.dy),.d (il r.kn),.d (il r.op),.d (il r.on),.d (sD r.tx)] (t.find? fun x=>sameI x r)) ?_ ?_ M0 () trivial (M0_big hl)
 ·exact this
 ·intro _ k _
  simp only [L81_0,r_ld0,r_lds,r_lss,Int.lt_irrefl,decide_false,Bool.false_eq_true,if_false,r_cond,r_out]
  rfl
 ·intro i c t _ k hi hd hlt hw _ ih
  have hlt':(i:Int) < ((o.getD []).length:Int):=by omega
  have ih':=ih () trivial
  rw [cast1] at ih'
  simp only [L81_0,r_ld0,r_lds,r_lss,hlt',decide_true,if_true,r_cond,rowR hi,cR0,cR1,cR2,cR3,cR4,cR5,cR6,cR7,eqR,r_eqs2,Bool.false_eq_true,if_false,decide_eq_true_eq,r_out,r_liti,r_litb,r_add,hw,ih']
  by_cases h:c=r
  ·subst h
   rw [if_pos rfl,find_pos (by simp [sameI])]
   simp only [scan,if_true]
  ·rw [if_neg h]
   by_cases h2:c.p=r.p∧c.no=r.no
   ·rw [if_pos h2,find_pos (by simp [sameI,h2])]
    simp only [scan,h,if_false]
   ·have hs:¬ sameI c r=true:=by simp only [sameI,decide_eq_true_eq];exact h2
    rw [if_neg h2,find_neg hs]
theorem s81 (n:Nat) (o:Option (List Rec)) (r:Rec) (hl:(o.getD []).length≤4611686018427387904) (hp:∀ x∈o.getD [],sixP x):FN (n+5) 81 (dR o::recR r)=some (0,adY (addsP (o.getD []) r)):=by
 have h:=s69 n r
 have h2:=s107 (n+3) o hl hp
 have l:=l81 (n+4) o r hl
 have h6:=okR_six (r:=r)
 unfold addsP
 show FN (n+5) 81 [dR o,il r.p,il r.no,il r.kd,il r.dy,il r.kn,il r.op,il r.on,sD r.tx]=_
 rw [F81]
 simp only [recR] at h
 simp only [cnts,List.map_cons,List.map_nil] at h2
 simp only [G81,lenL,r_call,h,r_bnd0,r_ld0,r_not,r_cond,r_liti,r_litb,r_loop,l,r_out]
 by_cases hr:okR r=true
 ·simp only [hr,Bool.not_true,Bool.false_eq_true,if_false,if_true]
  cases hf:(o.getD []).find? fun x=>sameI x r with
  | some x =>
   by_cases hx:x=r
   ·simp only [scan,hx,if_true,r_bnd0,r_ld0,r_lds,adY]
   ·simp only [scan,hx,if_false,r_bnd0,r_ld0,r_lds,adY]
  | none =>
   have hc:=h6 hr
   unfold sixP at hc
   obtain ⟨u,hu⟩:=Int.eq_ofNat_of_zero_le hc.1
   have hu6:u < 6:=by omega
   have ix:∀ k:Nat→Out,(RP (n+4)).inx (il r.p) 6 k=k u:=fun k=>by rw [hu,r_inxg,if_pos (by omega),Int.toNat_natCast]
   have hsel:=sel_cnt (Fn:=FN (n+4)) (FnD:=FnDof Tryz.prog (cf3 tb Tryz.prog) (FN (n+4))) (m:=M0) (o.getD []) hu6
   unfold cnts at hsel
   rw [←show r.p=(u:Int) from hu] at hsel
   simp only [scan,r_bnd1,r_ld0,r_lds,r_call,h2,r_bnd0,r_natN,ix,hsel,r_gtr,r_cond,lenL,r_eql,r_litb,r_liti,r_out,decide_eq_true_eq]
   by_cases g1:(many (o.getD []) r.p:Int) < r.no
   ·simp only [g1,if_true,adY]
   ·have e:(((o.getD []).length:Nat):Int)=60↔(o.getD []).length=60:=by omega
    simp only [g1,if_false,e]
    by_cases g2:(o.getD []).length=60
    ·simp only [g2,if_true,adY]
    ·simp only [g2,if_false,adY]
 ·rw [Bool.not_eq_true] at hr
  simp only [hr,Bool.not_false,if_true,Bool.false_eq_true,if_false,adY]
end Go.VE
namespace Go.VE
open Go.RowKit Go.Proofs Go.Lib
set_option maxRecDepth 100000
theorem s83 (n:Nat) (l:List Rec) (hl:l.length≤1000):FN (n+1) 83 [dR (some l)]=some (0,[.r (l.map recR)]):=by
 show FN (n+1) 83 [.sl 8 (l.map recR)]=_
 rw [F83]
 have hm:(l.map recR).length=l.length:=List.length_map _
 simp only [G83,r_nilE1,r_rowsD,r_natN,r_rows,r_len,List.length_nil,r_eqN,if_true,r_addN,Nat.zero_add,r_fitsg,r_app,List.nil_append,r_leN,Nat.le_refl,r_seg0,r_out,List.take_length]
 rw [if_pos ⟨by omega,by omega⟩]
theorem s83n (n:Nat):FN (n+1) 83 [.lit (.slice none 0 0)]=some (1,[.d (.lit (.slice none 0 0))]):=by
 rw [F83]
 simp only [G83,r_nilE0,r_litNil,r_out]
theorem t121 (n:Nat) (l:List Rec) (hl:l.length≤1000) (hd:diffK l=true):FN (n+2) 121 [dR (some l)]=some (0,[.d (dR (some (insort l)))]):=by
 refine told ?_
 have h:=s83 n l hl
 have h':FN (n+1) 83 [.sl 8 (l.map recR)]=some (0,[.r (l.map recR)]):=h
 show tSorted (FN (n+1)) [.sl 8 (l.map recR)]=_
 have hm:(l.map recR).length≤1000:=by rw [List.length_map];exact hl
 have hnil:dNil (.sl 8 (l.map recR))=false:=rfl
 rw [tSorted]
 simp only [h',hnil,Bool.false_eq_true,if_false,if_pos hm,recsD_of,if_pos hd]
 rfl
theorem t121n (n:Nat):FN (n+2) 121 [dR none]=some (0,[.d (dR none)]):=by
 refine told ?_
 have h:=s83n n
 show tSorted (FN (n+1)) [.lit (.slice none 0 0)]=_
 rw [tSorted]
 simp only [h]
 rfl
theorem log_diff {l:List Rec} (h:isLog l=true):diffK l=true:=by
 unfold diffK
 rw [decide_eq_true_eq]
 refine log_ind (P:=fun l=>l.Pairwise fun x y=>x.p≠y.p∨x.no≠y.no) .nil ?_ l h
 intro l r hl hn ih
 rw [List.pairwise_append]
 refine ⟨ih,List.pairwise_singleton _ _,?_⟩
 intro x hx y hy
 rw [List.mem_singleton.1 hy]
 exact next_new hl hn x hx
section
variable {Fn:Nat→List D→Out} {FnD:D→List Sh→List D→Out} {m:Nat}
end
end Go.VE
