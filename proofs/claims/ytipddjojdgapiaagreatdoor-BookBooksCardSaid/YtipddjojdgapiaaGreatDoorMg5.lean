/- Book, plainly: the document's ways of joining and adding are the program's. -/
import Derived.Test.YtipddjojdgapiaaGreatDoorMg4
namespace Go.VE
open Go.Lib
set_option maxRecDepth 100000
def adj:List Rec→Bool
 | a::b::t=>decide (bef a b)&&adj (b::t)
 | _=>true
theorem adj_iff:∀ l:List Rec,adj l=true↔l.Pairwise bef
 | []=>by simp [adj]
 | [a]=>by simp [adj]
 | a::b::t=>by
  rw [adj,Bool.and_eq_true,decide_eq_true_eq,adj_iff (b::t),List.pairwise_cons (a:=a)]
  constructor
  ·rintro ⟨h1,h2⟩
   refine ⟨?_,h2⟩
   intro x hx
   rcases List.mem_cons.1 hx with rfl | hx
   ·exact h1
   ·exact bef_trans h1 ((List.pairwise_cons.1 h2).1 x hx)
  ·rintro ⟨h1,h2⟩
   exact ⟨h1 b (by simp),h2⟩
theorem adds_next {l:List Rec} (h:isLog l=true) {r:Rec} (ha:addsP l r=(false,0)):nextR l r=true:=by
 unfold addsP at ha
 by_cases hk:okR r=true
 ·rw [if_pos hk] at ha
  cases hf:l.find? (fun x=>sameI x r) with
  | some x =>
   rw [hf] at ha
   simp only at ha
   split at ha<;>simp at ha
  | none =>
   rw [hf] at ha
   simp only at ha
   split at ha
   ·simp at ha
   ·rename_i h1
    split at ha
    ·simp at ha
    ·rename_i h2
     rw [next_iff]
     refine ⟨by have:=log_len h;omega,hk,?_⟩
     have h0:0≤r.no:=by
      simp only [okR,okItem,Bool.and_eq_true,decide_eq_true_eq] at hk
      omega
     rcases Int.lt_or_le r.no (many l r.p) with hlt | hle
     ·exfalso
      obtain ⟨n,hn⟩:∃ n:Nat,r.no=n:=⟨r.no.toNat,by omega⟩
      obtain ⟨x,hx,x1,x2,_⟩:=log_has h (k:=r.p) (n:=n) (by omega)
      have:=List.find?_eq_none.1 hf x hx
      simp only [sameI,decide_eq_true_eq] at this
      omega
     ·omega
 ·rw [if_neg hk] at ha
  simp at ha
theorem adds_is {l:List Rec} {r:Rec} {e:Int} (ha:addsP l r=(true,e)):r∈l∧e=0:=by
 unfold addsP at ha
 split at ha
 ·cases hf:l.find? (fun x=>sameI x r) with
  | some x =>
   rw [hf] at ha
   simp only at ha
   split at ha
   ·rename_i hx
    rw [←hx]
    refine ⟨List.mem_of_find?_eq_some hf,?_⟩
    simpa using (congrArg Prod.snd ha).symm
   ·simp at ha
  | none =>
   rw [hf] at ha
   simp only at ha
   split at ha
   ·simp at ha
   ·split at ha<;>simp at ha
 ·simp at ha
theorem put_book {l:List Rec} (h:isBook l) {r:Rec} (hn:nextR l r=true):put l r=srt (l++[r])∧isLog (l++[r])=true:=by
 have hlog:isLog (l++[r])=true:=by rw [isLog_snoc,h.1,hn];rfl
 refine ⟨srt_of hlog (put_sorted r h.2 (next_new h.1 hn)) ?_,hlog⟩
 exact (put_perm r _).trans (List.perm_append_comm (l₁:=[r]) (l₂:=l))
theorem puts_ok:∀ (m a:List Rec),a.Pairwise bef→m.Pairwise (fun x y=>x.p≠y.p∨x.no≠y.no)→(∀ x∈a,∀ y∈m,x.p≠y.p∨x.no≠y.no)→(m.foldl put a).Pairwise bef∧(m.foldl put a).Perm (a++m)
 | [],a,h,_,_=>⟨h,by rw [List.append_nil];exact .refl _⟩
 | r::t,a,h,hm,hk=>by
  rw [List.pairwise_cons] at hm
  obtain ⟨h1,h2⟩:=puts_ok t (put a r) (put_sorted r h fun x hx=>hk x hx r (by simp)) hm.2 (by
   intro x hx y hy
   rcases List.mem_cons.1 ((put_perm r a).mem_iff.1 hx) with rfl | hx
   ·exact hm.1 y hy
   ·exact hk x hx y (by simp [hy]))
  refine ⟨h1,h2.trans ?_⟩
  refine ((put_perm r a).append_right t).trans ?_
  exact (List.perm_middle (l₁:=a) (l₂:=t) (a:=r)).symm
theorem bef_ne {a b:Rec} (h:bef a b):a.p≠b.p∨a.no≠b.no:=by unfold bef at h;omega
theorem join_puts {a b:List Rec} (ha:isBook a) (hb:isBook b):((freshG a b).foldl put a).length=(joined a b).length∧((joined a b).length≤60→(freshG a b).foldl put a=srt (joined a b)):=by
 have h1:(freshG a b).Pairwise fun x y=>x.p≠y.p∨x.no≠y.no:=(hb.2.imp fun h=>bef_ne h).filter _
 have h2:∀ x∈a,∀ y∈freshG a b,x.p≠y.p∨x.no≠y.no:=by
  intro x hx y hy
  have:=(List.mem_filter.1 hy).2
  rw [Bool.not_eq_true',List.any_eq_false] at this
  have:=this x hx
  simp only [sameI,decide_eq_true_eq] at this
  omega
 obtain ⟨h3,h4⟩:=puts_ok (freshG a b) a ha.2 h1 h2
 exact ⟨h4.length_eq,fun hl=>srt_of (joined_log ha.1 hb.1 hl) h3 h4⟩
end Go.VE
namespace Go.VE
open Go.RowKit Go.Proofs Go.Lib
set_option maxRecDepth 100000
theorem s118 (n:Nat) (a b:Rec):FN (n+1) 118 (recR a++recR b)=some (0,[.d (bl (decide (bef a b)))]):=by
 obtain ⟨a1,a2,a3,a4,a5,a6,a7,a8⟩:=a
 obtain ⟨b1,b2,b3,b4,b5,b6,b7,b8⟩:=b
 show FN (n+1) 118 [il a1,il a2,il a3,il a4,il a5,il a6,il a7,sD a8,il b1,il b2,il b3,il b4,il b5,il b6,il b7,sD b8]=_
 rw [F118]
 simp only [G118,r_lss,r_eql,r_cond,r_litb,r_out,bef,decide_eq_true_eq]
 by_cases h1:a1 < b1
 ·simp [h1]
 ·by_cases h2:a1=b1
  ·simp [h2]
  ·simp [h1,h2]
def cmpZ (a b:Int):Int:=if a < b then -1 else if b < a then 1 else 0
def cmQ (a b:Rec):Int:=if cmpZ a.p b.p≠0 then cmpZ a.p b.p else cmpZ a.no b.no
theorem cmQ_bef (a b:Rec):decide (0≤cmQ a b)=!decide (bef a b):=by
 unfold cmQ cmpZ bef
 rw [Bool.eq_iff_iff]
 simp only [decide_eq_true_eq,Bool.not_eq_true',decide_eq_false_iff_not]
 by_cases h1:a.p < b.p
 ·simp [h1]
 ·by_cases h2:b.p < a.p
  ·simp [h1,h2];omega
  ·by_cases h3:a.no < b.no
   ·simp [h1,h2,h3];omega
   ·by_cases h4:b.no < a.no
    ·simp [h1,h2,h3,h4]
    ·simp [h1,h2,h3,h4]
theorem s175 (n:Nat) (a:Int):FN (n+1) 175 [il a]=some (0,[.d (bl false)]):=by rw [F175];simp [G175]
theorem s158 (n:Nat) (a b:Int):FN (n+2) 158 [il a,il b]=some (0,[.d (il (cmpZ a b))]):=by
 rw [F158]
 simp only [G158,r_call,s175,r_bnd0,r_ld0,r_cond,Bool.false_eq_true,if_false,r_lss,r_gtr,r_liti,r_out,cmpZ,decide_eq_true_eq]
 by_cases h1:a < b
 ·rw [if_pos h1,if_pos h1]
 ·rw [if_neg h1,if_neg h1]
  by_cases h2:b < a
  ·rw [if_pos h2,if_pos h2]
  ·rw [if_neg h2,if_neg h2]
theorem s157 (n:Nat) (x y:Int):FN (n+1) 157 [.sl 1 [[il x],[il y]]]=some (0,[.d (il (if x≠0 then x else y))]):=by
 rw [F157]
 have w0:IntKind.i64.wrap (0+1)=1:=by decide
 have w1:IntKind.i64.wrap (1+1)=2:=by decide
 have hl:(([[il x],[il y]]:Rr).length:Int)=2:=rfl
 have r0:∀ k:List D→Out,(RP n).rowD 1 (.sl 1 [[il x],[il y]]) (il 0) k=k [il x]:=fun k=>rfl
 have r1:∀ k:List D→Out,(RP n).rowD 1 (.sl 1 [[il x],[il y]]) (il 1) k=k [il y]:=fun k=>rfl
 by_cases h:x=0
 ·subst h
  simp only [G157,r_lenD,hl,r_liti,r_loop]
  rw [loop4]
  simp only [L157_0,r_ld0,r_lds,r_lss,show (0:Int) < 2 by decide,decide_true,if_true,r_cond,r0,r_cell0,r_neq,ne_eq,not_true,decide_false,Bool.false_eq_true,if_false,r_liti,r_add,w0]
  rw [loop3]
  by_cases hy:y=0
  ·subst hy
   simp only [L157_0,r_ld0,r_lds,r_lss,show (1:Int) < 2 by decide,decide_true,if_true,r_cond,r1,r_cell0,r_neq,ne_eq,not_true,decide_false,Bool.false_eq_true,if_false,r_liti,r_add,w1]
   rw [loop2]
   simp only [L157_0,r_ld0,r_lds,r_lss,show ¬ ((2:Int) < 2) by decide,decide_false,Bool.false_eq_true,if_false,r_cond,r_out,r_bnd1]
  ·simp only [L157_0,r_ld0,r_lds,r_lss,show (1:Int) < 2 by decide,decide_true,if_true,r_cond,r1,r_cell0,r_neq,ne_eq,hy,not_false_eq_true,r_out,r_bnd0,not_true,if_false]
 ·simp only [G157,r_lenD,hl,r_liti,r_loop]
  rw [loop4]
  simp only [L157_0,r_ld0,r_lds,r_lss,show (0:Int) < 2 by decide,decide_true,if_true,r_cond,r0,r_cell0,r_neq,ne_eq,h,not_false_eq_true,r_out,r_bnd0]
theorem s147 (n:Nat) (a b c d:Int):FN (n+3) 147 [il a,il b,il c,il d]=some (0,[.d (il (if cmpZ a c≠0 then cmpZ a c else cmpZ b d))]):=by
 rw [F147]
 simp only [G147,r_call,s158,r_bnd0,r_ld0,r_rows,r_slD,s157,r_out]
theorem s123 (n:Nat) (a b:Rec):FN (n+4) 123 (recR a++recR b)=some (0,[.d (il (cmQ a b))]):=by
 obtain ⟨a1,a2,a3,a4,a5,a6,a7,a8⟩:=a
 obtain ⟨b1,b2,b3,b4,b5,b6,b7,b8⟩:=b
 show FN (n+4) 123 [il a1,il a2,il a3,il a4,il a5,il a6,il a7,sD a8,il b1,il b2,il b3,il b4,il b5,il b6,il b7,sD b8]=_
 rw [F123]
 simp only [G123,r_call,s147,r_bnd0,r_ld0,r_out,cmQ]
def prevO (l:List Rec) (i:Nat):Option Rec:=if i=0 then none else l[i - 1]?
def adjP:Option Rec→List Rec→Bool
 | _,[]=>true
 | none,r::t=>adjP (some r) t
 | some p,r::t=>decide (bef p r)&&adjP (some r) t
theorem adjP_some:∀ (p:Rec) (t:List Rec),adjP (some p) t=adj (p::t)
 | _,[]=>rfl
 | p,r::t=>by rw [adjP,adj,adjP_some r t]
theorem adjP_none (l:List Rec):adjP none l=adj l:=by
 cases l with
 | nil=>rfl
 | cons r t=>rw [adjP,adjP_some]
theorem prevO_succ {l:List Rec} {i:Nat} {c:Rec} (h:l[i]?=some c):prevO l (i+1)=some c:=by simp [prevO,h]
def bkO (d:D):Bool→Out
 | true=>some (0,[.d d])
 | false=>some (1,[.d (il 81)])
theorem l60 (n:Nat) (o:Option (List Rec)) (hl:(o.getD []).length≤4611686018427387904) (c123:∀ a b,FN n 123 (recR a++recR b)=some (0,[.d (il (cmQ a b))])) :
  loopR [L60_0 (RP n)] M0 0 [.d (dR o),.d (dR o),.d (il (o.getD []).length),.d (il 0)]=bkO (dR o) (adj (o.getD [])):=by
 have:=range_loop (β:=Unit) (o.getD []) hl (L60_0 (RP n)) (fun i _=>[.d (dR o),.d (dR o),.d (il (o.getD []).length),.d (il i)]) (fun _ _=>True)
  (fun i r _=>bkO (dR o) (adjP (prevO (o.getD []) i) r)) ?_ ?_ M0 () trivial (M0_big hl)
 ·have e:adjP (prevO (o.getD []) 0) (o.getD [])=adj (o.getD []):=adjP_none _
  rw [←e]
  exact this
 ·intro _ k _
  have e:adjP (prevO (o.getD []) (o.getD []).length) []=true:=by cases prevO (o.getD []) (o.getD []).length<;>rfl
  simp only [L60_0,r_ld0,r_lds,r_lss,Int.lt_irrefl,decide_false,Bool.false_eq_true,if_false,r_cond,r_out,e,bkO]
 ·intro i c r _ k hi hd hlt hw _ ih
  have hlt':(i:Int) < (((o.getD []).length:Nat):Int):=by omega
  have ih':=ih () trivial
  rw [prevO_succ hi,cast1] at ih'
  by_cases h0:i=0
  ·subst h0
   have r0:∀ k:List D→Out,(RP n).rowD 8 (dR o) (il 0) k=k (recR c):=fun k=>rowR (i:=0) hi k
   have w0:IntKind.i64.wrap (0+1)=1:=by decide
   have e:adjP (prevO (o.getD []) 0) (c::r)=adjP (some c) r:=rfl
   have hlt0:(0:Int) < (((o.getD []).length:Nat):Int):=by omega
   rw [e]
   show L60_0 (RP n) k [.d (dR o),.d (dR o),.d (il (o.getD []).length),.d (il 0)]=_
   simp only [L60_0,r_ld0,r_lds,r_lss,hlt0,decide_true,if_true,r_cond,r0,r_gtr,r_liti,Int.lt_irrefl,decide_false,Bool.false_eq_true,if_false,r_add,w0]
   exact ih'
  ·have hp:(o.getD [])[i - 1]?=some ((o.getD [])[i - 1]'(by omega)):=List.getElem?_eq_getElem (by omega)
   generalize hq:(o.getD [])[i - 1]'(by omega)=q at hp
   have hpv:prevO (o.getD []) i=some q:=by rw [prevO,if_neg h0,hp]
   have cc:=c123 q c
   simp only [recR,List.cons_append,List.nil_append] at cc
   have hi0:(0:Int) < (i:Int):=by omega
   rw [hpv,adjP]
   simp only [L60_0,r_ld0,r_lds,r_lss,hlt',decide_true,if_true,r_cond,rowR hi,r_gtr,r_liti,hi0,r_sub,pred_nat (show 0 < i by omega) (by omega),rowR hp,cR0,cR1,cR2,cR3,cR4,cR5,cR6,cR7,r_call,cc,r_bnd0,r_geq,cmQ_bef,r_out,r_add,hw,ih']
   cases decide (bef q c)<;>simp [bkO]
def bookB (l:List Rec):Bool:=isLog l&&adj l
theorem bookB_iff (l:List Rec):bookB l=true↔isBook l:=by
 unfold bookB isBook
 rw [Bool.and_eq_true,adj_iff]
def chkZ (b:Bool):Int:=bif b then 0 else 81
theorem s60 (n:Nat) (o:Option (List Rec)) (hl:(o.getD []).length≤4611686018427387904):FN (n+7) 60 [dR o]=some (0,[.d (il (chkZ (bookB (o.getD []))))]):=by
 have l:=l60 (n+6) o hl fun a b=>s123 (n+2) a b
 have h:=s122 n o hl
 rw [F60]
 simp only [G60,lenL,r_loop,r_liti,l,bookB]
 cases adj (o.getD []) with
 | false=>simp [bkO,chkZ]
 | true =>
  simp only [bkO,r_bnd0,r_ld0,r_call,h,r_not,r_cond,r_liti,r_out]
  cases isLog (o.getD [])<;>simp [chkZ]
theorem l57 (n:Nat) (o:Option (List Rec)) (hl:(o.getD []).length≤4611686018427387904) (c118:∀ a b,FN n 118 (recR a++recR b)=some (0,[.d (bl (decide (bef a b)))])) :
  loopR [L57_0 (RP n)] M0 0 [.d (dR o),.d (il (o.getD []).length),.d (il 0)]=(match adj (o.getD []) with
   | true=>some (1,[])
   | false=>some (0,[.d (il 81)])):=by
 have:=range_loop (β:=Unit) (o.getD []) hl (L57_0 (RP n)) (fun i _=>[.d (dR o),.d (il (o.getD []).length),.d (il i)]) (fun _ _=>True)
  (fun i r _=>match adjP (prevO (o.getD []) i) r with
   | true=>some (1,[])
   | false=>some (0,[.d (il 81)])) ?_ ?_ M0 () trivial (M0_big hl)
 ·have e:adjP (prevO (o.getD []) 0) (o.getD [])=adj (o.getD []):=adjP_none _
  simp only [e] at this
  exact this
 ·intro _ k _
  have e:adjP (prevO (o.getD []) (o.getD []).length) []=true:=by cases prevO (o.getD []) (o.getD []).length<;>rfl
  simp only [L57_0,r_ld0,r_lds,r_lss,Int.lt_irrefl,decide_false,Bool.false_eq_true,if_false,r_cond,r_out,e]
 ·intro i c r _ k hi hd hlt hw _ ih
  have hlt':(i:Int) < (((o.getD []).length:Nat):Int):=by omega
  have ih':=ih () trivial
  rw [prevO_succ hi,cast1] at ih'
  by_cases h0:i=0
  ·subst h0
   have w0:IntKind.i64.wrap (0+1)=1:=by decide
   have e:adjP (prevO (o.getD []) 0) (c::r)=adjP (some c) r:=rfl
   have hlt0:(0:Int) < (((o.getD []).length:Nat):Int):=by omega
   rw [e]
   show L57_0 (RP n) k [.d (dR o),.d (il (o.getD []).length),.d (il 0)]=_
   simp only [L57_0,r_ld0,r_lds,r_lss,hlt0,decide_true,if_true,r_cond,r_gtr,r_liti,Int.lt_irrefl,decide_false,Bool.false_eq_true,if_false,r_add,w0]
   exact ih'
  ·have hp:(o.getD [])[i - 1]?=some ((o.getD [])[i - 1]'(by omega)):=List.getElem?_eq_getElem (by omega)
   generalize hq:(o.getD [])[i - 1]'(by omega)=q at hp
   have hpv:prevO (o.getD []) i=some q:=by rw [prevO,if_neg h0,hp]
   have cc:=c118 q c
   simp only [recR,List.cons_append,List.nil_append] at cc
   have hi0:(0:Int) < (i:Int):=by omega
   rw [hpv,adjP]
   simp only [L57_0,r_ld0,r_lds,r_lss,hlt',decide_true,if_true,r_cond,rowR hi,r_gtr,r_liti,hi0,r_sub,pred_nat (show 0 < i by omega) (by omega),rowR hp,cR0,cR1,cR2,cR3,cR4,cR5,cR6,cR7,r_call,cc,r_bnd0,r_ld0,r_not,r_out,r_add,hw,ih']
   cases decide (bef q c)<;>simp
theorem s57 (n:Nat) (o:Option (List Rec)) (hl:(o.getD []).length≤4611686018427387904):FN (n+7) 57 [dR o]=some (0,[.d (il (chkZ (bookB (o.getD []))))]):=by
 have l:=l57 (n+6) o hl fun a b=>s118 (n+5) a b
 have h:=s97 n o hl
 rw [F57]
 simp only [G57,lenL,r_call,h,r_bnd0,r_ld0,r_not,r_cond,r_loop,r_liti,l,bookB,r_out]
 cases isLog (o.getD []) with
 | false=>simp [chkZ]
 | true=>cases adj (o.getD [])<;>simp [chkZ]
theorem l26 (n:Nat) (a b:Option (List Rec)) (hl:(a.getD []).length=(b.getD []).length) (hn:(a.getD []).length≤4611686018427387904) :
  loopR [L26_0 (RP n)] M0 0 [.d (dR a),.d (dR b),.d (il (a.getD []).length),.d (il 0)]=allO (decide (a.getD []=b.getD [])):=by
 have:=range_loop (β:=Unit) (a.getD []) hn (L26_0 (RP n)) (fun i _=>[.d (dR a),.d (dR b),.d (il (a.getD []).length),.d (il i)]) (fun _ _=>True)
  (fun i r _=>allO (decide (r=(b.getD []).drop i))) ?_ ?_ M0 () trivial (M0_big hn)
 ·simpa using this
 ·intro _ k _
  have:(b.getD []).drop (a.getD []).length=[]:=by rw [List.drop_of_length_le (by omega)]
  simp only [L26_0,r_ld0,r_lds,r_lss,Int.lt_irrefl,decide_false,Bool.false_eq_true,if_false,r_cond,r_out,this,decide_true,allO]
 ·intro i x r _ k hi hd hlt hw _ ih
  have hlt':(i:Int) < ((a.getD []).length:Int):=by omega
  obtain ⟨y,hy⟩:∃ y,(b.getD [])[i]?=some y:=⟨(b.getD [])[i]'(by omega),by simp⟩
  have hdy:(b.getD []).drop i=y::(b.getD []).drop (i+1):=by
   have hi2:i < (b.getD []).length:=by omega
   rw [List.drop_eq_getElem_cons hi2]
   have e1:(b.getD [])[i]=y:=by have:=hy;rw [List.getElem?_eq_getElem hi2] at this;exact Option.some.inj this
   rw [e1]
  have ih':=ih () trivial
  rw [cast1] at ih'
  have e3:∀ (s t:Rec) (k:D→Out),(RP n).eqs [1,1,1,1,1,1,1,2] true [il s.p,il s.no,il s.kd,il s.dy,il s.kn,il s.op,il s.on,sD s.tx] [il t.p,il t.no,il t.kd,il t.dy,il t.kn,il t.op,il t.on,sD t.tx] k=k (bl (!decide (s=t))):=fun s t k=>r_eqRec true s t k
  simp only [L26_0,r_ld0,r_lds,r_lss,hlt',decide_true,if_true,r_cond,rowR hi,rowR hy,cR0,cR1,cR2,cR3,cR4,cR5,cR6,cR7,e3,r_liti,r_litb,r_add,hw,ih',r_out,hdy,List.cons.injEq]
  by_cases h:x=y
  ·simp [h]
  ·simp [h,allO]
theorem s26 (n:Nat) (a b:Option (List Rec)) (hn:(a.getD []).length≤4611686018427387904):FN (n+1) 26 [dR a,dR b]=some (0,[.d (bl (decide (a.getD []=b.getD [])))]):=by
 rw [F26]
 simp only [G26,lenL,r_neq,r_cond,r_loop,r_liti,r_litb,r_out]
 by_cases hl:(a.getD []).length=(b.getD []).length
 ·rw [l26 n a b hl hn]
  by_cases h:a.getD []=b.getD []
  ·simp [h,allO]
  ·have:¬ (((a.getD []).length:Int)≠((b.getD []).length:Int)):=by omega
   simp only [this,decide_false,Bool.false_eq_true,if_false,h,allO,r_bnd0,r_ld0]
 ·have h1:((a.getD []).length:Int)≠((b.getD []).length:Int):=by omega
  have h2:a.getD []≠b.getD []:=fun e=>hl (by rw [e])
  simp only [h1,ne_eq,not_false_eq_true,decide_true,if_true,h2,decide_false]
end Go.VE
namespace Go.VE
open Go.RowKit Go.Proofs Go.Lib
set_option maxRecDepth 100000
def fdx (p no:Int):List Rec→Option Nat
 | []=>none
 | r::t=>if r.p=p∧r.no=no then some 0 else (fdx p no t).map (·+1)
def fdZ:Option Nat→Int
 | none=>-1
 | some j=>(j:Int)
def fdO (i:Nat):Option Nat→Out
 | none=>some (1,[])
 | some j=>some (0,[.d (il ((i+j:Nat):Int))])
theorem s124 (n:Nat) (o:Option (List Rec)) (p no:Int) (hl:(o.getD []).length≤4611686018427387904):FN (n+1) 124 [dR o,il p,il no]=some (0,[.d (il (fdZ (fdx p no (o.getD []))))]):=by
 rw [F124]
 have:=range_loop (β:=Unit) (o.getD []) hl (L124_0 (RP n)) (fun i _=>[.d (il p),.d (il no),.d (dR o),.d (il (o.getD []).length),.d (il i)]) (fun _ _=>True) (fun i r _=>fdO i (fdx p no r)) ?_ ?_ M0 () trivial (M0_big hl)
 ·have this':loopR [L124_0 (RP n)] M0 0 [.d (il p),.d (il no),.d (dR o),.d (il (o.getD []).length),.d (il 0)]=fdO 0 (fdx p no (o.getD [])):=this
  simp only [G124,lenL,r_loop,r_liti,this']
  cases fdx p no (o.getD []) with
  | none=>rfl
  | some j=>simp [fdO,fdZ]
 ·intro _ k _
  simp only [L124_0,r_ld0,r_lds,r_lss,Int.lt_irrefl,decide_false,Bool.false_eq_true,if_false,r_cond,r_out]
  rfl
 ·intro i c r _ k hi hd hlt hw _ ih
  have hlt':(i:Int) < ((o.getD []).length:Int):=by omega
  have ih':=ih () trivial
  rw [cast1] at ih'
  simp only [L124_0,r_ld0,r_lds,r_lss,hlt',decide_true,if_true,r_cond,rowR hi,cR0,cR1,r_eqs2,Bool.false_eq_true,if_false,decide_eq_true_eq,r_out,r_liti,r_add,hw,ih',fdx]
  by_cases h:c.p=p∧c.no=no
  ·rw [if_pos h,if_pos h];rfl
  ·rw [if_neg h,if_neg h]
   cases fdx p no r with
   | none=>rfl
   | some j=>simp only [Option.map_some,fdO];congr 5;omega
theorem find_pos {c r:Rec} {t:List Rec} (h:sameI c r=true):(c::t).find? (fun x=>sameI x r)=some c:=List.find?_cons_of_pos (p:=fun x=>sameI x r) h
theorem find_neg {c r:Rec} {t:List Rec} (h:¬ sameI c r=true):(c::t).find? (fun x=>sameI x r)=t.find? fun x=>sameI x r:=List.find?_cons_of_neg (p:=fun x=>sameI x r) h
theorem fdx_find (r:Rec):∀ l:List Rec,match fdx r.p r.no l with
  | none=>l.find? (fun x=>sameI x r)=none
  | some j=>∃ x,l[j]?=some x∧l.find? (fun x=>sameI x r)=some x
 | []=>rfl
 | c::t=>by
  have ih:=fdx_find r t
  unfold fdx
  by_cases h:c.p=r.p∧c.no=r.no
  ·have hs:sameI c r=true:=by simp [sameI,h]
   rw [if_pos h]
   exact ⟨c,rfl,by rw [find_pos hs]⟩
  ·have hs:¬ sameI c r=true:=by simp only [sameI,decide_eq_true_eq];exact h
   rw [if_neg h]
   cases hx:fdx r.p r.no t with
   | none =>
    rw [hx] at ih
    simp only [Option.map_none]
    rw [find_neg hs]
    exact ih
   | some j =>
    rw [hx] at ih
    simp only [Option.map_some]
    obtain ⟨x,h1,h2⟩:=ih
    exact ⟨x,by simpa using h1,by rw [find_neg hs];exact h2⟩
section
variable {Fn:Nat→List D→Out} {FnD:D→List Sh→List D→Out} {m:Nat}
theorem eqR (ng:Bool) (s t:Rec) (k:D→Out):(real Fn FnD m).eqs [1,1,1,1,1,1,1,2] ng [il s.p,il s.no,il s.kd,il s.dy,il s.kn,il s.op,il s.on,sD s.tx] [il t.p,il t.no,il t.kd,il t.dy,il t.kn,il t.op,il t.on,sD t.tx] k=k (bl (if ng then !decide (s=t) else decide (s=t))):=r_eqRec ng s t k
end
def adY (x:Bool×Int):List Yr:=[.d (bl x.1),.d (il x.2)]
def scan (r:Rec) (q:List Yr):Option Rec→Out
 | some x=>if x=r then some (0,[.d (bl true),.d (il 0)]) else some (0,[.d (bl false),.d (il 82)])
 | none=>some (1,q)
theorem l81 (n:Nat) (o:Option (List Rec)) (r:Rec) (hl:(o.getD []).length≤4611686018427387904) :
  loopR [L81_0 (RP n)] M0 0 [.d (dR o),.d (il r.p),.d (il r.no),.d (il r.kd),.d (il r.dy),.d (il r.kn),.d (il r.op),.d (il r.on),.d (sD r.tx),.d (dR o),.d (il (o.getD []).length),.d (il 0)] =
   scan r [.d (dR o),.d (il r.p),.d (il r.no),.d (il r.kd),.d (il r.dy),.d (il r.kn),.d (il r.op),.d (il r.on),.d (sD r.tx)] ((o.getD []).find? fun x=>sameI x r):=by
 have:=range_loop (β:=Unit) (o.getD []) hl (L81_0 (RP n)) (fun i _=>[.d (dR o),.d (il r.p),.d (il r.no),.d (il r.kd),.d (il r.dy),.d (il r.kn),.d (il r.op),.d (il r.on),.d (sD r.tx),.d (dR o),.d (il (o.getD []).length),.d (il i)]) (fun _ _=>True)
  (fun _ t _=>scan r [.d (dR o),.d (il r.p),.d (il r.no),.d (il r.kd),.d (il r.dy),.d (il r.kn),.d (il r.op),.d (il r.on),.d (sD r.tx)] (t.find? fun x=>sameI x r)) ?_ ?_ M0 () trivial (M0_big hl)
 ·exact this
 ·intro _ k _
  simp only [L81_0,r_ld0,r_lds,r_lss,Int.lt_irrefl,decide_false,Bool.false_eq_true,if_false,r_cond,r_out]
  rfl
 ·intro i c t _ k hi hd hlt hw _ ih
  have hlt':(i:Int) < ((o.getD []).length:Int):=by omega
  have ih':=ih () trivial
  rw [cast1] at ih'
  simp only [L81_0,r_ld0,r_lds,r_lss,hlt',decide_true,if_true,r_cond,rowR hi,cR0,cR1,cR2,cR3,cR4,cR5,cR6,cR7,eqR,r_eqs2,Bool.false_eq_true,if_false,decide_eq_true_eq,r_out,r_liti,r_litb,r_add,hw,ih']
  by_cases h:c=r
  ·subst h
   rw [if_pos rfl,find_pos (by simp [sameI])]
   simp only [scan,if_true]
  ·rw [if_neg h]
   by_cases h2:c.p=r.p∧c.no=r.no
   ·rw [if_pos h2,find_pos (by simp [sameI,h2])]
    simp only [scan,h,if_false]
   ·have hs:¬ sameI c r=true:=by simp only [sameI,decide_eq_true_eq];exact h2
    rw [if_neg h2,find_neg hs]
theorem s81 (n:Nat) (o:Option (List Rec)) (r:Rec) (hl:(o.getD []).length≤4611686018427387904) (hp:∀ x∈o.getD [],sixP x):FN (n+5) 81 (dR o::recR r)=some (0,adY (addsP (o.getD []) r)):=by
 have h:=s69 n r
 have h2:=s107 (n+3) o hl hp
 have l:=l81 (n+4) o r hl
 have h6:=okR_six (r:=r)
 unfold addsP
 show FN (n+5) 81 [dR o,il r.p,il r.no,il r.kd,il r.dy,il r.kn,il r.op,il r.on,sD r.tx]=_
 rw [F81]
 simp only [recR] at h
 simp only [cnts,List.map_cons,List.map_nil] at h2
 simp only [G81,lenL,r_call,h,r_bnd0,r_ld0,r_not,r_cond,r_liti,r_litb,r_loop,l,r_out]
 by_cases hr:okR r=true
 ·simp only [hr,Bool.not_true,Bool.false_eq_true,if_false,if_true]
  cases hf:(o.getD []).find? fun x=>sameI x r with
  | some x =>
   by_cases hx:x=r
   ·simp only [scan,hx,if_true,r_bnd0,r_ld0,r_lds,adY]
   ·simp only [scan,hx,if_false,r_bnd0,r_ld0,r_lds,adY]
  | none =>
   have hc:=h6 hr
   unfold sixP at hc
   obtain ⟨u,hu⟩:=Int.eq_ofNat_of_zero_le hc.1
   have hu6:u < 6:=by omega
   have ix:∀ k:Nat→Out,(RP (n+4)).inx (il r.p) 6 k=k u:=fun k=>by rw [hu,r_inxg,if_pos (by omega),Int.toNat_natCast]
   have hsel:=sel_cnt (Fn:=FN (n+4)) (FnD:=FnDof Tryz.prog (cf3 tb Tryz.prog) (FN (n+4))) (m:=M0) (o.getD []) hu6
   unfold cnts at hsel
   rw [←show r.p=(u:Int) from hu] at hsel
   simp only [scan,r_bnd1,r_ld0,r_lds,r_call,h2,r_bnd0,r_natN,ix,hsel,r_gtr,r_cond,lenL,r_eql,r_litb,r_liti,r_out,decide_eq_true_eq]
   by_cases g1:(many (o.getD []) r.p:Int) < r.no
   ·simp only [g1,if_true,adY]
   ·have e:(((o.getD []).length:Nat):Int)=60↔(o.getD []).length=60:=by omega
    simp only [g1,if_false,e]
    by_cases g2:(o.getD []).length=60
    ·simp only [g2,if_true,adY]
    ·simp only [g2,if_false,adY]
 ·rw [Bool.not_eq_true] at hr
  simp only [hr,Bool.not_false,if_true,Bool.false_eq_true,if_false,adY]
theorem s84 (n:Nat) (o:Option (List Rec)) (r:Rec) (hl:(o.getD []).length≤4611686018427387904):FN (n+5) 84 (dR o::recR r)=some (0,adY (addsP (o.getD []) r)):=by
 have h:=s35 n r
 have h2:=s124 (n+3) o r.p r.no hl
 have h3:=s98 (n+3) o r.p hl
 have hf:=fdx_find r (o.getD [])
 unfold addsP
 show FN (n+5) 84 [dR o,il r.p,il r.no,il r.kd,il r.dy,il r.kn,il r.op,il r.on,sD r.tx]=_
 rw [F84]
 simp only [recR] at h
 by_cases hr:okR r=true
 ·rw [if_pos hr] at h
  rw [if_pos hr]
  cases hx:fdx r.p r.no (o.getD []) with
  | none =>
   rw [hx] at hf h2
   simp only at hf
   rw [hf]
   simp only [fdZ] at h2
   simp only [G84,lenL,r_call,h,h2,h3,r_bnd0,r_ld0,r_neq,ne_eq,not_true,decide_false,Bool.false_eq_true,if_false,r_cond,r_geq,r_liti,r_litb,show ¬ ((0:Int)≤-1) by decide,r_gtr,r_eql,r_out,decide_eq_true_eq]
   by_cases g1:(many (o.getD []) r.p:Int) < r.no
   ·simp only [g1,if_true,adY]
   ·have e:(((o.getD []).length:Nat):Int)=60↔(o.getD []).length=60:=by omega
    simp only [g1,if_false,e]
    by_cases g2:(o.getD []).length=60
    ·simp only [g2,if_true,adY]
    ·simp only [g2,if_false,adY]
  | some j =>
   rw [hx] at hf h2
   simp only at hf
   obtain ⟨x,hj,hf⟩:=hf
   rw [hf]
   simp only [fdZ] at h2
   simp only [G84,r_call,h,h2,r_bnd0,r_ld0,r_neq,ne_eq,not_true,decide_false,Bool.false_eq_true,if_false,r_cond,r_geq,r_liti,r_litb,show ((0:Int)≤(j:Int)) by omega,decide_true,if_true,rowR hj,cR0,cR1,cR2,cR3,cR4,cR5,cR6,cR7,eqR,r_out]
   by_cases hxr:x=r
   ·simp only [hxr,decide_true,Bool.not_true,Bool.false_eq_true,if_false,if_true,adY]
   ·simp only [hxr,decide_false,Bool.not_false,if_true,if_false,adY]
 ·rw [if_neg hr] at h
  rw [if_neg hr]
  simp only [G84,r_call,h,r_bnd0,r_ld0,r_neq,ne_eq,show ¬ ((80:Int)=0) by decide,not_false_eq_true,decide_true,if_true,r_cond,r_liti,r_litb,r_out,adY]
end Go.VE
namespace Go.VE
open Go.RowKit Go.Proofs Go.Lib
set_option maxRecDepth 100000
theorem s83 (n:Nat) (l:List Rec) (hl:l.length≤1000):FN (n+1) 83 [dR (some l)]=some (0,[.r (l.map recR)]):=by
 show FN (n+1) 83 [.sl 8 (l.map recR)]=_
 rw [F83]
 have hm:(l.map recR).length=l.length:=List.length_map _
 simp only [G83,r_nilE1,r_rowsD,r_natN,r_rows,r_len,List.length_nil,r_eqN,if_true,r_addN,Nat.zero_add,r_fitsg,r_app,List.nil_append,r_leN,Nat.le_refl,r_seg0,r_out,List.take_length]
 rw [if_pos ⟨by omega,by omega⟩]
theorem s83n (n:Nat):FN (n+1) 83 [.lit (.slice none 0 0)]=some (1,[.d (.lit (.slice none 0 0))]):=by
 rw [F83]
 simp only [G83,r_nilE0,r_litNil,r_out]
theorem t121 (n:Nat) (l:List Rec) (hl:l.length≤1000) (hd:diffK l=true):FN (n+2) 121 [dR (some l)]=some (0,[.d (dR (some (insort l)))]):=by
 refine told ?_
 have h:=s83 n l hl
 have h':FN (n+1) 83 [.sl 8 (l.map recR)]=some (0,[.r (l.map recR)]):=h
 show tSorted (FN (n+1)) [.sl 8 (l.map recR)]=_
 have hm:(l.map recR).length≤1000:=by rw [List.length_map];exact hl
 have hnil:dNil (.sl 8 (l.map recR))=false:=rfl
 rw [tSorted]
 simp only [h',hnil,Bool.false_eq_true,if_false,if_pos hm,recsD_of,if_pos hd]
 rfl
theorem t121n (n:Nat):FN (n+2) 121 [dR none]=some (0,[.d (dR none)]):=by
 refine told ?_
 have h:=s83n n
 show tSorted (FN (n+1)) [.lit (.slice none 0 0)]=_
 rw [tSorted]
 simp only [h]
 rfl
theorem log_diff {l:List Rec} (h:isLog l=true):diffK l=true:=by
 unfold diffK
 rw [decide_eq_true_eq]
 refine log_ind (P:=fun l=>l.Pairwise fun x y=>x.p≠y.p∨x.no≠y.no) .nil ?_ l h
 intro l r hl hn ih
 rw [List.pairwise_append]
 refine ⟨ih,List.pairwise_singleton _ _,?_⟩
 intro x hx y hy
 rw [List.mem_singleton.1 hy]
 exact next_new hl hn x hx
def posN (r:Rec):List Rec→Nat
 | []=>0
 | x::t=>if bef x r then posN r t+1 else 0
theorem posN_le (r:Rec):∀ l,posN r l≤l.length
 | []=>Nat.le_refl _
 | x::t=>by
  have:=posN_le r t
  unfold posN
  split<;>simp<;>omega
theorem put_pos (r:Rec):∀ l,put l r=l.take (posN r l)++[r]++l.drop (posN r l)
 | []=>rfl
 | x::t=>by
  unfold put posN
  split
  ·rw [put_pos r t];simp
  ·simp
section
variable {Fn:Nat→List D→Out} {FnD:D→List Sh→List D→Out} {m:Nat}
theorem cutL_hi {o:Option (List Rec)} {k:Nat} (h:k≤(o.getD []).length) (kk:D→Out):(real Fn FnD m).cutD 8 (dR o) none (some (il k)) kk=kk (dR (o.map (·.take k))):=by
 cases o with
 | none =>
  have:k=0:=by simpa using h
  subst this
  rfl
 | some l =>
  have h':k≤(l.map recR).length:=by simpa using h
  show (real Fn FnD m).cutD 8 (.sl 8 (l.map recR)) none (some (il k)) kk=_
  rw [r_cutD_hi _ _ _ _ (by omega)]
  simp only [Int.toNat_natCast,← List.map_take]
  rfl
theorem cutL_lo {o:Option (List Rec)} {k:Nat} (h:k≤(o.getD []).length) (kk:D→Out):(real Fn FnD m).cutD 8 (dR o) (some (il k)) none kk=kk (dR (o.map (·.drop k))):=by
 cases o with
 | none =>
  have:k=0:=by simpa using h
  subst this
  rfl
 | some l =>
  have h':k≤(l.map recR).length:=by simpa using h
  show (real Fn FnD m).cutD 8 (.sl 8 (l.map recR)) (some (il k)) none kk=_
  rw [r_cutD_lo _ _ _ _ (by omega)]
  simp only [Int.toNat_natCast,← List.map_drop]
  rfl
end
theorem l126 (n:Nat) (o:Option (List Rec)) (r:Rec) (hl:(o.getD []).length≤4611686018427387904) (c118:∀ a b,FN n 118 (recR a++recR b)=some (0,[.d (bl (decide (bef a b)))])) :
  loopR [L126_0 (RP n)] M0 0 [.d (dR o),.d (il r.p),.d (il r.no),.d (il r.kd),.d (il r.dy),.d (il r.kn),.d (il r.op),.d (il r.on),.d (sD r.tx),.d (il 0)] =
   some (0,[.d (dR o),.d (il r.p),.d (il r.no),.d (il r.kd),.d (il r.dy),.d (il r.kn),.d (il r.op),.d (il r.on),.d (sD r.tx),.d (il (posN r (o.getD [])))]):=by
 have:=range_loop (β:=Unit) (o.getD []) hl (L126_0 (RP n)) (fun i _=>[.d (dR o),.d (il r.p),.d (il r.no),.d (il r.kd),.d (il r.dy),.d (il r.kn),.d (il r.op),.d (il r.on),.d (sD r.tx),.d (il i)]) (fun _ _=>True)
  (fun i t _=>some (0,[.d (dR o),.d (il r.p),.d (il r.no),.d (il r.kd),.d (il r.dy),.d (il r.kn),.d (il r.op),.d (il r.on),.d (sD r.tx),.d (il ((i+posN r t:Nat):Int))])) ?_ ?_ M0 () trivial (M0_big hl)
 ·simpa using this
 ·intro _ k _
  simp only [L126_0,r_ld0,r_lds,lenL,r_lss,Int.lt_irrefl,decide_false,Bool.false_eq_true,if_false,r_cond,r_out,posN,Nat.add_zero]
 ·intro i c t _ k hi hd hlt hw _ ih
  have hlt':(i:Int) < ((o.getD []).length:Int):=by omega
  have ih':=ih () trivial
  rw [cast1] at ih'
  have cc:=c118 c r
  simp only [recR,List.cons_append,List.nil_append] at cc
  simp only [L126_0,r_ld0,r_lds,lenL,r_lss,hlt',decide_true,if_true,r_cond,rowR hi,cR0,cR1,cR2,cR3,cR4,cR5,cR6,cR7,r_call,cc,r_bnd0,decide_eq_true_eq,r_out,r_liti,r_add,hw,ih',posN]
  by_cases h:bef c r
  ·rw [if_pos h,if_pos h,show i+1+posN r t=i+(posN r t+1) by omega]
  ·rw [if_neg h,if_neg h];rfl
theorem s126 (n:Nat) (o:Option (List Rec)) (r:Rec) (hl:(o.getD []).length≤1000):FN (n+2) 126 (dR o::recR r)=some (0,[.d (dR (some (put (o.getD []) r)))]):=by
 have l:=l126 (n+1) o r (by omega) fun a b=>s118 n a b
 have hk:=posN_le r (o.getD [])
 have hp:=put_pos r (o.getD [])
 generalize posN r (o.getD [])=k at l hk hp
 show FN (n+2) 126 [dR o,il r.p,il r.no,il r.kd,il r.dy,il r.kn,il r.op,il r.on,sD r.tx]=_
 rw [F126]
 have e1:((o.map (·.take k)).getD [])=(o.getD []).take k:=by cases o<;>simp
 have e2:((o.map (·.drop k)).getD [])=(o.getD []).drop k:=by cases o<;>simp
 have hA:(((o.getD []).take k).map recR).length=k:=by rw [List.length_map,List.length_take];omega
 have hB:(((o.getD []).drop k).map recR).length=(o.getD []).length - k:=by rw [List.length_map,List.length_drop]
 have f1:k*72≤140737488355328∧k≤9223372036854775807:=by omega
 have f2:(k+1)*72≤140737488355328∧k+1≤9223372036854775807:=by omega
 have f3:(k+1+((o.getD []).length - k))*72≤140737488355328∧k+1+((o.getD []).length - k)≤9223372036854775807:=by omega
 have ht:(((o.getD []).take k).map recR++[[il r.p,il r.no,il r.kd,il r.dy,il r.kn,il r.op,il r.on,sD r.tx]]++((o.getD []).drop k).map recR).take (k+1+((o.getD []).length - k))=(put (o.getD []) r).map recR:=by
  rw [List.take_of_length_le (by simp only [List.length_append,hA,hB,List.length_singleton];omega),hp,List.map_append,List.map_append]
  rfl
 simp only [G126,r_loop,r_liti,l,r_bnd0,r_ld0,r_lds,cutL_hi hk,cutL_lo hk,rowsL,e1,e2,r_natN,r_rows,r_len,List.length_nil,r_eqN,if_true,r_addN,Nat.zero_add,hA,hB,r_fitsg,if_pos f1,if_pos f2,if_pos f3,List.length_cons,r_app,List.nil_append,r_seg0,List.take_succ_cons,List.take_nil,List.length_append,ht,r_slD,r_out]
 rfl
theorem foldl_len:∀ (l a:List Rec),(l.foldl put a).length=a.length+l.length
 | [],a=>rfl
 | r::t,a=>by
  rw [List.foldl_cons,foldl_len t,(put_perm r a).length_eq]
  simp only [List.length_cons];omega
theorem s125 (n:Nat) (o:Option (List Rec)) (hl:(o.getD []).length≤1000):∃ q,FN (n+3) 125 [dR o]=some (0,[.d (dR q)])∧q.getD []=insort (o.getD []):=by
 have l:=two_loop (o.getD []) (by omega) (L125_0 (RP (n+2))) (L125_1 (RP (n+2))) [.d (dR o),.d (il (o.getD []).length),.d (il 0)] (fun i=>[.d (dR (some (((o.getD []).take i).foldl put []))),.d (dR o),.d (il (o.getD []).length),.d (il i)]) (fun i=>0 < i)
  (fun _ _=>match o.getD [] with
   | []=>some (0,[])
   | c::t=>some (1,[.d (dR (some (insort (c::t))))])) ?_ ?_ ?_ ?_
 ·rw [F125]
  simp only [G125,lenL,r_loop,r_liti,l]
  cases h:o.getD [] with
  | nil=>exact ⟨none,rfl,rfl⟩
  | cons c t=>exact ⟨some (insort (c::t)),rfl,rfl⟩
 ·intro h k
  rw [h]
  simp only [L125_0,r_ld0,r_lds,h,List.length_nil,r_lss,show ¬ ((0:Int) < ((0:Nat):Int)) by decide,decide_false,Bool.false_eq_true,if_false,r_cond,r_out]
 ·intro c r k h ih
  have hi:(o.getD [])[0]?=some c:=by rw [h];rfl
  have hlt:(0:Int) < (((o.getD []).length:Nat):Int):=by rw [h];simp only [List.length_cons];omega
  have rr:∀ k:List D→Out,(RP (n+2)).rowD 8 (dR o) (il 0) k=k (recR c):=fun k=>rowR (i:=0) hi k
  have w1:IntKind.i64.wrap (0+1)=1:=by decide
  have cc:FN (n+2) 126 [.lit (.slice none 0 0),il c.p,il c.no,il c.kd,il c.dy,il c.kn,il c.op,il c.on,sD c.tx]=some (0,[.d (dR (some [c]))]):=s126 n none c (by simp)
  have ih':=ih (by decide)
  rw [take_one h] at ih'
  simp only [L125_0,r_ld0,r_lds,r_lss,hlt,decide_true,if_true,r_cond,rr,r_litNil,cR0,cR1,cR2,cR3,cR4,cR5,cR6,cR7,r_call,cc,r_bnd0,r_liti,r_add,w1]
  exact ih'
 ·intro h0 k
  simp only [L125_1,r_ld0,r_lds,r_lss,Int.lt_irrefl,decide_false,Bool.false_eq_true,if_false,r_cond,r_out,List.take_length]
  cases h:o.getD [] with
  | nil=>rw [h] at h0;exact absurd h0 (by decide)
  | cons c t=>rfl
 ·intro i c r k hi0 hi hd hlt hw _ ih
  have hlt':(i:Int) < (((o.getD []).length:Nat):Int):=by omega
  have cc:=s126 n (some (((o.getD []).take i).foldl put [])) c (by
   simp only [Option.getD_some,foldl_len,List.length_nil,List.length_take];omega)
  simp only [recR,Option.getD_some] at cc
  have e:put (((o.getD []).take i).foldl put []) c=((o.getD []).take (i+1)).foldl put []:=by
   rw [take_snoc hi,List.foldl_append];rfl
  rw [e] at cc
  have ih':=ih (Nat.succ_pos i)
  rw [cast1] at ih'
  simp only [L125_1,r_ld0,r_lds,r_lss,hlt',decide_true,if_true,r_cond,rowR hi,cR0,cR1,cR2,cR3,cR4,cR5,cR6,cR7,r_call,cc,r_bnd0,r_liti,r_add,hw]
  exact ih'
end Go.VE
