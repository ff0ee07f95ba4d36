/- Family: Leads, Families, Gleans, For (program). -/
import Derived.Test.YtobeabinccohlaaGreatMg3
import Derived.Test.YtobeabinccohlaaGreatMi
import Derived.Test.YtobeabinccohlaaGreatMt
import Derived.KernelRfl
import Derived.Test.YtobeabinccohlaaGreatMh
import Derived.Test.YtobeabinccohlaaGreatRows
namespace Go.VE
open Go.RowKit Go.Proofs
attribute [local simp] r_asM r_mpD
theorem okKin_parts {a b c:List E9} {o:List E5} (h:okKin a b c o=true):(∀ e∈a,okStay e)∧(∀ e∈b,okBond e)∧(∀ e∈c,okAway e)∧(∀ e∈o,okOff e):=by
 unfold okKin at h
 simp only [Bool.and_eq_true] at h
 obtain ⟨⟨⟨⟨_,h1⟩,h2⟩,h3⟩,h4⟩:=h
 exact ⟨fun e he=>of_decide_eq_true (okL_mem h1 e he),fun e he=>of_decide_eq_true (okL_mem h2 e he),fun e he=>of_decide_eq_true (okL_mem h3 e he),fun e he=>of_decide_eq_true (okL_mem h4 e he)⟩
theorem mem_cnt9 {k:Int} {l:List E9} {e:E9} (h:e∈cnt9 k l):e∈l:=(List.mem_filter.1 h).1
structure GoodK (a b c:List E9) (o:List E5):Prop where
 fam:Fam1 a
 less:Less b
 by0:By0 c
 la:a.length≤60
 lb:b.length≤60
 lc:c.length≤60
 lo:o.length≤60
theorem good_of {a b c:List E9} {o:List E5} (h:okKin a b c o=true):GoodK a b c o:=by
 obtain ⟨p1,p2,p3,_⟩:=okKin_parts h
 obtain ⟨l1,l2,l3,l4⟩:=okKin_len h
 exact ⟨fun e he=>(p1 e he).2.2.1,fun e he=>⟨(p2 e he).2.2.1.1,by have:=(p2 e he).2.2.1.2;omega,(p2 e he).2.1.2⟩,fun e he=>(p3 e he).2.2.1.1,l1,l2,l3,l4⟩
theorem len_cnt9 (k:Int) (l:List E9):(cnt9 k l).length≤l.length:=List.length_filter_le _ _
theorem len_cnt5 (k:Int) (l:List E5):(cnt5 k l).length≤l.length:=List.length_filter_le _ _
theorem GoodK.cnt {a b c:List E9} {o:List E5} (h:GoodK a b c o) (k:Int):GoodK (cnt9 k a) (cnt9 k b) (cnt9 k c) (cnt5 k o) :=
 ⟨fun e he=>h.fam e (mem_cnt9 he),fun e he=>h.less e (mem_cnt9 he),fun e he=>h.by0 e (mem_cnt9 he),Nat.le_trans (len_cnt9 ..) h.la,Nat.le_trans (len_cnt9 ..) h.lb,Nat.le_trans (len_cnt9 ..) h.lc,Nat.le_trans (len_cnt5 ..) h.lo⟩
theorem s199 (n:Nat) (o:Option (List Int)) (x:Int) (hl:(o.getD []).length≤4611686018427387904):FN (n+1) 199 [dI o,il x]=some (0,[.d (il (idxO (fun y=>decide (x=y)) (o.getD [])))]):=by
 rw [F199]
 simp only [G199,lenI,r_liti,r_loop]
 have:=range_loop (β:=Unit) (o.getD []) hl (L199_0 (RP n)) (fun i _=>[.d (dI o),.d (il x),.d (il (o.getD []).length),.d (il i)]) (fun _ _=>True)
  (fun i r _=>match fnd (fun y=>decide (x=y)) r with
   | some j=>some (0,[.d (il ((i+j:Nat):Int))])
   | none=>some (1,[]))
  (fun _ k _=>by simp [L199_0,fnd]) ?_ M0 () trivial (M0_big hl)
 ·simp only [Int.natCast_zero,Nat.zero_add] at this
  rw [this]
  unfold idxO
  cases fnd (fun y=>decide (x=y)) (o.getD [])<;>simp
 ·intro i e r _ k hi hd hlt hw _ ih
  have ih':=ih () trivial
  have hlt':(i:Int) < ((o.getD []).length:Int):=by omega
  simp only [L199_0,r_ld0,r_lds,r_lss,r_cond,hlt',decide_true,if_true,rowI hi,rI,r_cell0,r_eql,r_liti,r_add,hw,r_out,decide_eq_true_eq]
  by_cases h:x=e
  ·subst h;simp [fnd]
  ·rw [if_neg h]
   have h':fnd (fun y=>decide (x=y)) (e::r)=(fnd (fun y=>decide (x=y)) r).map (·+1):=by simp [fnd,h]
   rw [h']
   refine Eq.trans ih' ?_
   cases fnd (fun y=>decide (x=y)) r with
   | none=>rfl
   | some j=>simp [Nat.add_assoc,Nat.add_comm 1 j]
theorem s149 (n:Nat) (o:Option (List Int)) (x:Int) (hl:(o.getD []).length≤4611686018427387904):FN (n+2) 149 [dI o,il x]=some (0,[.d (bl (decide (x∈o.getD [])))]):=by
 rw [F149]
 simp only [G149,r_call,s199 n o x hl,r_bnd0,r_ld0,r_liti,r_geq,r_out,idx_any]
 have:((o.getD []).any fun y=>decide (x=y))=decide (x∈o.getD []):=by
  rw [Bool.eq_iff_iff,any_iff,decide_eq_true_iff]
  constructor
  ·rintro ⟨y,hy,h⟩;have:=of_decide_eq_true h;subst this;exact hy
  ·intro h;exact ⟨x,h,by simp⟩
 rw [this]
def famL (k:Int) (a b c:Option (List E9)) (o:Option (List E5)) (d p:Int):List Int:=famP (cnt9 k (a.getD [])) (cnt9 k (b.getD [])) (cnt9 k (c.getD [])) (cnt5 k (o.getD [])) d p
section
variable {a b c:Option (List E9)} {o:Option (List E5)}
theorem k82 (n:Nat) (d who:Int) (hd:0≤d∧d≤4166) (g:GoodK (a.getD []) (b.getD []) (c.getD []) (o.getD [])) :
  FN (n+105) 82 [d9 a,d9 b,d9 c,d5 o,il who,il d]=some (0,[.d (dI (some (famP (a.getD []) (b.getD []) (c.getD []) (o.getD []) d who)))]) :=
 s82 n a b c o d who hd g.fam g.less (by have:=g.la;omega) (by have:=g.lb;omega) (by have:=g.lc;omega) (by have:=g.lo;omega)
theorem len_fam (d p:Int) (g:GoodK (a.getD []) (b.getD []) (c.getD []) (o.getD [])):(famP (a.getD []) (b.getD []) (c.getD []) (o.getD []) d p).length≤100 :=
 acc_len0 (up_famP ..) fun _ hz=>fam_range g.fam g.less hz
theorem k86 (n:Nat) (d who f:Int) (hd:0≤d∧d≤4166) (g:GoodK (a.getD []) (b.getD []) (c.getD []) (o.getD [])) :
  FN (n+106) 86 [d9 a,d9 b,d9 c,d5 o,il who,il f,il d]=some (0,[.d (il (forI (famP (a.getD []) (b.getD []) (c.getD []) (o.getD []) d who) f))]):=by
 rw [F86]
 have hlen:=len_fam d who g
 obtain ⟨x,r,hx,_⟩:=up_head (up_famP (a.getD []) (b.getD []) (c.getD []) (o.getD []) d who) (fun z hz=>(fam_range g.fam g.less hz).1) (fam_ne g.fam g.less)
 simp only [G86,r_call,k82 n d who hd g,r_bnd0,r_ld0]
 rw [←forP _ f x r hx]
 have h149:=s149 (n+103) (some (famP (a.getD []) (b.getD []) (c.getD []) (o.getD []) d who)) f (by simp only [Option.getD_some];omega)
 have hrow:∀ q:List D→Out,(RP (n+105)).rowD 1 (dI (some (famP (a.getD []) (b.getD []) (c.getD []) (o.getD []) d who))) (il 0) q=q (rI x):=fun q=>rowI (i:=0) (by rw [hx];rfl) q
 simp only [Option.getD_some] at h149
 simp only [h149,r_bnd0,r_ld0,lenI,Option.getD_some,r_liti,r_gtr,r_cond,r_litb,s84,r_out,decide_eq_true_eq,hrow,rI,r_cell0,r_neq]
 generalize famP (a.getD []) (b.getD []) (c.getD []) (o.getD []) d who=l at hx ⊢
 by_cases h:1 < l.length
 ·rw [if_pos (by omega)];simp [h]
 ·rw [if_neg (by omega)];simp [h]
end
theorem good_kn {a b c:Option (List E9)} {o:Option (List E5)} {ps fs:Bool} {p f:Int} {ds:List Int} (k:Int) (h:askE (okKin (a.getD []) (b.getD []) (c.getD []) (o.getD [])) ps fs p f ds=0):GoodK ((kn9 k a).getD []) ((kn9 k b).getD []) ((kn9 k c).getD []) ((kn5 k o).getD []):=by
 rw [kn9_getD,kn9_getD,kn9_getD,kn5_getD]
 exact (good_of (askE_ok h)).cnt k
section
variable (n:Nat) (p f d k:Int) (a b c:Option (List E9)) (o:Option (List E5)) (ha:(a.getD []).length*72≤140737488351232) (hb:(b.getD []).length*72≤140737488351232) (hc:(c.getD []).length*72≤140737488351232) (ho:(o.getD []).length*40≤140737488351232)
include ha hb hc ho
theorem ask73 (ps fs:Bool):FN (n+10) 73 [il p,il f,bl ps,bl fs,d9 a,d9 b,d9 c,d5 o,.sl 1 [[il d],[il k]]]=askR (askE (okKin (a.getD []) (b.getD []) (c.getD []) (o.getD [])) ps fs p f [d,k]) (dKin (kn9 k a) (kn9 k b) (kn9 k c) (kn5 k o)):=by
 have h73:=s73 n p f ps fs a b c o [d] k (by simp) ha hb hc ho
 rw [show dI (some ([d]++[k]))=.sl 1 [[il d],[il k]] from rfl] at h73
 exact h73
set_option maxRecDepth 20000 in
theorem s14:FN (n+105) 14 [d9 a,d9 b,d9 c,d5 o,il f,il d,il k]=if askE (okKin (a.getD []) (b.getD []) (c.getD []) (o.getD [])) false true 0 f [d,k]=0 then some (0,[.d (dI (some (leadsL d (cnt9 k (b.getD [])) f))),.d (il 0)]) else some (0,[.d (dI none),.d (il (askE (okKin (a.getD []) (b.getD []) (c.getD []) (o.getD [])) false true 0 f [d,k]))]):=by
 rw [F14]
 simp only [G14,r_call,s79,r_bnd0,r_ld0,r_lds,r_rows,r_slD,ask73 (n+94) 0 f d k a b c o ha hb hc ho false true]
 by_cases he:askE (okKin (a.getD []) (b.getD []) (c.getD []) (o.getD [])) false true 0 f [d,k]=0
 ·have g:=good_kn k he
  have hf:1≤f∧f≤99:=by
   unfold askE at he
   split at he
   ·simp at he
   ·split at he
    ·simp at he
    ·split at he
     ·simp at he
     ·rename_i h2;simpa using h2
  have hlb:=g.lb
  obtain ⟨q',_,h161⟩:=s161 (kn9 k a) (kn9 k b) (kn9 k c) (kn5 k o) d g.less (by omega) 99 n f ([],[]) hf.1 (by omega) hf.2 (memo_emp _ _)
  rw [if_pos he]
  simp only [askR,he,if_true,r_bnd0,r_ld0,r_lds,r_liti,r_neq,ne_eq,not_true_eq_false,decide_false,r_cond,Bool.false_eq_true,if_false,r_emp,r_mpD,h161,r_asM,r_out]
  rw [kn9_getD]
 ·rw [if_neg he]
  simp only [askR,if_neg he,r_bnd0,r_ld0,r_lds,r_liti,r_neq,r_cond]
  rw [if_pos (by simpa using he)]
  simp [dI,dSl]
set_option maxRecDepth 20000 in
theorem s16:FN (n+106) 16 [d9 a,d9 b,d9 c,d5 o,il p,il d,il k]=if askE (okKin (a.getD []) (b.getD []) (c.getD []) (o.getD [])) true false p 0 [d,k]=0 then some (0,[.d (dI (some (famL k a b c o d p))),.d (il 0)]) else some (0,[.d (dI none),.d (il (askE (okKin (a.getD []) (b.getD []) (c.getD []) (o.getD [])) true false p 0 [d,k]))]):=by
 rw [F16]
 simp only [G16,r_call,s72,r_bnd0,r_ld0,r_lds,r_rows,r_slD,ask73 (n+95) p 0 d k a b c o ha hb hc ho true false]
 by_cases he:askE (okKin (a.getD []) (b.getD []) (c.getD []) (o.getD [])) true false p 0 [d,k]=0
 ·have g:=good_kn k he
  rw [if_pos he]
  have hp:∀ q:List D→Out,(RP (n+105)).ptrW 4 (dKin (kn9 k a) (kn9 k b) (kn9 k c) (kn5 k o)) q=q [d9 (kn9 k a),d9 (kn9 k b),d9 (kn9 k c),d5 (kn5 k o)]:=fun q=>r_ptrW _ 4 q rfl
  simp only [askR,he,if_true,r_bnd0,r_ld0,r_lds,r_liti,r_neq,ne_eq,not_true_eq_false,decide_false,r_cond,Bool.false_eq_true,if_false,hp,r_cell0,r_cells,k82 n d p (askE_days he).1 g,r_out]
  rw [kn9_getD,kn9_getD,kn9_getD,kn5_getD];rfl
 ·rw [if_neg he]
  simp only [askR,if_neg he,r_bnd0,r_ld0,r_lds,r_liti,r_neq,r_cond]
  rw [if_pos (by simpa using he)]
  simp [dI,dSl]
set_option maxRecDepth 20000 in
theorem s18:FN (n+107) 18 [d9 a,d9 b,d9 c,d5 o,il p,il d,il k]=if askE (okKin (a.getD []) (b.getD []) (c.getD []) (o.getD [])) true false p 0 [d,k]=0 then some (0,[.d (il (gleansI (cnt9 k (a.getD [])) (cnt9 k (c.getD [])) (cnt5 k (o.getD [])) d p)),.d (il 0)]) else some (0,[.d (il 0),.d (il (askE (okKin (a.getD []) (b.getD []) (c.getD []) (o.getD [])) true false p 0 [d,k]))]):=by
 rw [F18]
 simp only [G18,r_call,s16 n p d k a b c o ha hb hc ho]
 by_cases he:askE (okKin (a.getD []) (b.getD []) (c.getD []) (o.getD [])) true false p 0 [d,k]=0
 ·have g:=(good_of (askE_ok he)).cnt k
  rw [if_pos he,if_pos he]
  have hr:∀ z∈famL k a b c o d p,0≤z:=fun z hz=>(fam_range g.fam g.less hz).1
  obtain ⟨x,r,hx,_⟩:=up_head (up_famP _ _ _ _ d p) hr (fam_ne g.fam g.less)
  have hlen:(famL k a b c o d p).length≤100:=acc_len0 (up_famP ..) fun z hz=>fam_range g.fam g.less hz
  have hpos:0 < (famL k a b c o d p).length:=by rw [show famL k a b c o d p=x::r from hx];simp
  obtain ⟨y,hy⟩:∃ y,(famL k a b c o d p)[(famL k a b c o d p).length - 1]?=some y:=⟨_,List.getElem?_eq_getElem (by omega)⟩
  have hgl:=gleansP g.fam g.less g.by0 hx hy
  have hw:IntKind.i64.wrap (((famL k a b c o d p).length:Int) - 1)=(((famL k a b c o d p).length - 1:Nat):Int):=by rw [wrap_id (by omega) (by omega)];omega
  have h0:∀ q:List D→Out,(RP (n+106)).rowD 1 (dI (some (famL k a b c o d p))) (il 0) q=q (rI x):=fun q=>rowI (i:=0) (by rw [show famL k a b c o d p=x::r from hx];rfl) q
  have h1:∀ q:List D→Out,(RP (n+106)).rowD 1 (dI (some (famL k a b c o d p))) (il (((famL k a b c o d p).length - 1:Nat):Int)) q=q (rI y):=fun q=>rowI (o:=some (famL k a b c o d p)) hy q
  simp only [r_bnd0,r_ld0,r_lds,r_liti,r_neq,ne_eq,not_true_eq_false,decide_false,r_cond,Bool.false_eq_true,if_false,lenI,Option.getD_some,r_sub,hw,h0,h1,rI,r_cell0,r_eql,s84,r_out]
  rw [←hgl]
 ·rw [if_neg he,if_neg he]
  simp only [r_bnd0,r_ld0,r_lds,r_liti,r_neq,r_cond]
  rw [if_pos (by simpa using he)]
  simp
set_option maxRecDepth 20000 in
theorem s20:FN (n+107) 20 [d9 a,d9 b,d9 c,d5 o,il p,il f,il d,il k]=if askE (okKin (a.getD []) (b.getD []) (c.getD []) (o.getD [])) true true p f [d,k]=0 then some (0,[.d (il (forI (famL k a b c o d p) f)),.d (il 0)]) else some (0,[.d (il 0),.d (il (askE (okKin (a.getD []) (b.getD []) (c.getD []) (o.getD [])) true true p f [d,k]))]):=by
 rw [F20]
 simp only [G20,r_call,r_litb,r_rows,r_slD,ask73 (n+96) p f d k a b c o ha hb hc ho true true]
 by_cases he:askE (okKin (a.getD []) (b.getD []) (c.getD []) (o.getD [])) true true p f [d,k]=0
 ·have g:=good_kn k he
  rw [if_pos he]
  have hp:∀ q:List D→Out,(RP (n+106)).ptrW 4 (dKin (kn9 k a) (kn9 k b) (kn9 k c) (kn5 k o)) q=q [d9 (kn9 k a),d9 (kn9 k b),d9 (kn9 k c),d5 (kn5 k o)]:=fun q=>r_ptrW _ 4 q rfl
  simp only [askR,he,if_true,r_bnd0,r_ld0,r_lds,r_liti,r_neq,ne_eq,not_true_eq_false,decide_false,r_cond,Bool.false_eq_true,if_false,hp,r_cell0,r_cells,k86 n d p f (askE_days he).1 g,r_out]
  rw [kn9_getD,kn9_getD,kn9_getD,kn5_getD];rfl
 ·rw [if_neg he]
  simp only [askR,if_neg he,r_bnd0,r_ld0,r_lds,r_liti,r_neq,r_cond]
  rw [if_pos (by simpa using he)]
  simp
end
end Go.VE
namespace Go.VE
open Go.RowKit Go.Proofs
theorem nzO_ne {l:List Int} (h:l≠[]):nzO l=some l:=by
 cases l with
 | nil=>exact absurd rfl h
 | cons _ _=>rfl
theorem nzO_ins (x:Int) (l:List Int):nzO (ins x l)=some (ins x l):=nzO_ne (ins_ne x l)
set_option maxRecDepth 20000 in
theorem l83_0 (n:Nat) (L:List Int) (hL:L.length≤1000000) (x0 x1 x2 x3 x4 x6 x7 x8:D) (acc:List Int) (hu:Up acc) (ha:acc.length≤1000) :
  loopR [L83_0 (RP (n+1))] M0 0 [.d x0,.d x1,.d x2,.d x3,.d x4,.d (dI (nzO acc)),.d x6,.d x7,.d x8,.d (dI (some L)),.d (il L.length),.d (il 0)]=some (0,[.d x0,.d x1,.d x2,.d x3,.d x4,.d (dI (nzO (insAll acc L))),.d x6,.d x7,.d x8]):=by
 refine ins_own L hL _ (fun i acc=>[.d x0,.d x1,.d x2,.d x3,.d x4,.d (dI (nzO acc)),.d x6,.d x7,.d x8,.d (dI (some L)),.d (il L.length),.d (il (i:Nat))])
  (fun acc=>some (0,[.d x0,.d x1,.d x2,.d x3,.d x4,.d (dI (nzO acc)),.d x6,.d x7,.d x8])) 1000 ?_ ?_ acc hu ha
 ·intro acc k;simp [L83_0]
 ·intro i c acc k hi hlt hw hu hl
  have hi':((some L).getD [])[i]?=some c:=hi
  have hput:=s92 n (nzO acc) c (by rw [nzO_getD];omega) (by rw [nzO_getD];exact hu)
  rw [nzO_getD] at hput
  simp only [L83_0,r_ld0,r_lds,r_lss,r_cond,hlt,decide_true,if_true,rowI hi',rI,r_cell0,r_call,hput,r_bnd0,r_liti,r_add,hw,nzO_ins]
set_option maxRecDepth 20000 in
theorem l83_1 (n:Nat) (a c:D) (b:Option (List E9)) (o:D) (d:Int) (hb:Less (b.getD [])) (hl:(b.getD []).length≤1000000) (H:List Int) (hH:H.length≤1000) (hr:∀ h∈H,0≤h∧h≤99) (acc:List Int) (hu:Up acc) (ha:∀ z∈acc,0≤z∧z≤99) :
  loopR [L83_1 (RP (n+2))] M0 0 [.d (il d),.d a,.d (d9 b),.d c,.d o,.d (dI (nzO acc)),.d (dI (some H)),.d (il H.length),.d (il 0)]=some (0,[.d (dI (nzO (famRB (leadsL d (b.getD [])) H acc)))]):=by
 refine range_loop (β:=List Int) H (by omega) (L83_1 (RP (n+2))) (fun i acc=>[.d (il d),.d a,.d (d9 b),.d c,.d o,.d (dI (nzO acc)),.d (dI (some H)),.d (il H.length),.d (il i)]) (fun _ acc=>Up acc∧∀ z∈acc,0≤z∧z≤99)
  (fun _ r acc=>some (0,[.d (dI (nzO (famRB (leadsL d (b.getD [])) r acc)))])) (fun acc k _=>by simp [L83_1,famRB]) ?_ M0 acc ⟨hu,ha⟩ (M0_big (by omega))
 intro i h r acc k hi hd hlt hw hI ih
 obtain ⟨g1,g2⟩:=hI
 have gl:=acc_len0 g1 g2
 have hlt':(i:Int) < (H.length:Int):=by omega
 have hi':((some H).getD [])[i]?=some h:=hi
 have hh:=hr h (List.mem_of_getElem? hi)
 simp only [L83_1,r_ld0,r_lds,r_lss,r_cond,hlt',decide_true,if_true,rowI hi',rI,r_cell0,r_eql,r_liti,r_add,hw,decide_eq_true_eq,famRB]
 by_cases h0:h=0
 ·rw [if_pos h0,if_pos h0]
  exact ih acc ⟨g1,g2⟩
 ·rw [if_neg h0,if_neg h0]
  have hlen:=len_leadsL (d:=d) hb (f:=h) (by omega)
  simp only [r_call,s81 n b a c o h d (by omega) hh.2 hb hl,r_bnd0,r_ld0,lenI,Option.getD_some,r_loop]
  rw [l83_0 (n+1) _ (by omega) _ _ _ _ _ _ _ _ acc g1 (by omega)]
  simp only [r_bnd0,r_ld0,r_lds,r_add,hw]
  exact ih _ ⟨up_insAll _ g1,fun z hz=>by
   rcases (mem_insAll z _ _).1 hz with hz | hz
   ·exact g2 z hz
   ·have:=leadsL_range hb _ h z (Nat.le_refl _) (by omega) hz;omega⟩
set_option maxRecDepth 20000 in
theorem s83 (n:Nat) (a b c:Option (List E9)) (o:Option (List E5)) (d who:Int) (hd:0≤d∧d≤4166) (g:GoodK (a.getD []) (b.getD []) (c.getD []) (o.getD [])) :
  FN (n+8) 83 [d9 a,d9 b,d9 c,d5 o,il who,il d]=some (0,[.d (dI (nzO (famR (a.getD []) (b.getD []) (c.getD []) (o.getD []) d who)))]):=by
 rw [F83]
 have hla:=g.la;have hlb:=g.lb;have hlc:=g.lc;have hlo:=g.lo
 have hh:=len_homes d who (a.getD [])
 have hloop:=fun acc hu ha=>l83_1 (n+5) (d9 a) (d9 c) b (d5 o) d g.less (by omega) (homesL d who (a.getD [])) (by omega) (fun h hh=>homes_range g.fam hh) acc hu ha
 simp only [G83,r_call,s85 n a c o (d9 b) d who hd (by omega) (by omega) (by omega),r_bnd0,r_ld0,r_liti,r_neq,r_cond,r_litNil,nil92,r_out]
 unfold famR
 have h78:=s78 (n+2) a (d9 b) (d9 c) (d5 o) d who (by omega)
 by_cases h1:gleansI (a.getD []) (c.getD []) (o.getD []) d who=1
 ·rw [if_neg (by simp [h1])]
  simp only [r_bnd0,r_ld0,r_lds,r_eql,r_cond,h1]
  rw [if_neg (by simp),if_neg (by simp)]
  simp only [h78,r_bnd0,r_ld0,lenI,Option.getD_some,r_loop]
  have:=hloop [] (by simp) (by simp)
  rw [show dI (nzO ([]:List Int))=.lit (.slice none 0 0) from rfl] at this
  rw [this]
  simp
 ·rw [if_pos (by simp [h1])]
  simp only [r_bnd0,r_ld0,r_lds,r_eql,r_cond,decide_eq_true_eq]
  by_cases h0:gleansI (a.getD []) (c.getD []) (o.getD []) d who=0
  ·rw [if_pos h0,if_pos h0];rfl
  ·rw [if_neg h0,if_neg h0,if_neg h1]
   simp only [h78,r_bnd0,r_ld0,lenI,Option.getD_some,r_loop]
   have:=hloop (ins 0 []) (by simp [ins]) (by simp [ins])
   rw [show dI (nzO (ins 0 []))=dI (some [0]) from rfl] at this
   rw [this]
   simp
theorem s87 (n:Nat) (l:Option (List Int)) (f:Int) (hl:(l.getD []).length≤4611686018427387904):FN (n+2) 87 [dI l,il f]=some (0,[.d (il (forI (l.getD []) f))]):=by
 rw [F87]
 simp only [G87,r_call,s41 n l f hl,r_bnd0,r_ld0,r_not,r_cond,r_liti,r_out,lenI,r_gtr,forI,decide_eq_true_eq]
 by_cases h:f∈l.getD []
 ·rw [if_neg (by simp [h]),if_pos h]
  by_cases h2:1 < (l.getD []).length
  ·rw [if_pos (by omega),if_pos h2]
  ·rw [if_neg (by omega),if_neg h2]
 ·rw [if_pos (by simp [h]),if_neg h]
section
variable (n:Nat) (p f d k:Int) (a b c:Option (List E9)) (o:Option (List E5)) (ha:(a.getD []).length*72≤140737488351232) (hb:(b.getD []).length*72≤140737488351232) (hc:(c.getD []).length*72≤140737488351232) (ho:(o.getD []).length*40≤140737488351232)
theorem good_nz {a b c:Option (List E9)} {o:Option (List E5)} {ps fs:Bool} {p f:Int} {ds:List Int} (k:Int) (h:askE (okKin (a.getD []) (b.getD []) (c.getD []) (o.getD [])) ps fs p f ds=0):GoodK ((nzO (cnt9 k (a.getD []))).getD []) ((nzO (cnt9 k (b.getD []))).getD []) ((nzO (cnt9 k (c.getD []))).getD []) ((nzO (cnt5 k (o.getD []))).getD []):=by
 rw [nzO_getD,nzO_getD,nzO_getD,nzO_getD]
 exact (good_of (askE_ok h)).cnt k
theorem fam_ref {a b c:List E9} {o:List E5} (d p:Int) (g:GoodK a b c o):nzO (famR a b c o d p)=some (famP a b c o d p):=by
 rw [←fam_eq a b c o d p g.by0]
 obtain ⟨z,hz⟩:=fam_ne (c:=c) (o:=o) (d:=d) (p:=p) g.fam g.less
 exact nzO_ne fun h=>by rw [h] at hz;simp at hz
theorem k83 (n:Nat) {a b c:Option (List E9)} {o:Option (List E5)} (d who:Int) (hd:0≤d∧d≤4166) (g:GoodK (a.getD []) (b.getD []) (c.getD []) (o.getD [])) :
  FN (n+8) 83 [d9 a,d9 b,d9 c,d5 o,il who,il d]=some (0,[.d (dI (some (famP (a.getD []) (b.getD []) (c.getD []) (o.getD []) d who)))]):=by
 rw [s83 n a b c o d who hd g,fam_ref d who g]
theorem k83z (n:Nat) {a b c:List E9} {o:List E5} (d who:Int) (hd:0≤d∧d≤4166) (g:GoodK a b c o) :
  FN (n+8) 83 [d9 (nzO a),d9 (nzO b),d9 (nzO c),d5 (nzO o),il who,il d]=some (0,[.d (dI (some (famP a b c o d who)))]):=by
 have:=k83 n (a:=nzO a) (b:=nzO b) (c:=nzO c) (o:=nzO o) d who hd (by rw [nzO_getD,nzO_getD,nzO_getD,nzO_getD];exact g)
 rwa [nzO_getD,nzO_getD,nzO_getD,nzO_getD] at this
include ha hb hc ho
set_option maxRecDepth 20000 in
theorem s15:FN (n+7) 15 [d9 a,d9 b,d9 c,d5 o,il p,il f,il d,il k]=if askE (okKin (a.getD []) (b.getD []) (c.getD []) (o.getD [])) true true 1 f [d,k]=0 then some (0,[.d (dI (some (leadsL d (cnt9 k (b.getD [])) f))),.d (il 0)]) else some (0,[.d (dI none),.d (il (askE (okKin (a.getD []) (b.getD []) (c.getD []) (o.getD [])) true true 1 f [d,k]))]):=by
 rw [F15]
 have h76:=s76 n 1 f d k a b c o ha hb hc ho
 simp only [G15,r_call,r_litb,s77,r_bnd0,r_ld0,r_lds,if_true,Bool.false_eq_true,if_false,h76,r_liti]
 by_cases he:askE (okKin (a.getD []) (b.getD []) (c.getD []) (o.getD [])) true true 1 f [d,k]=0
 ·rw [if_pos he,if_pos he]
  have g:=good_nz k he
  have hlb:=g.lb
  have hf:1≤f∧f≤99:=by
   unfold askE at he
   split at he
   ·simp at he
   ·split at he
    ·simp at he
    ·split at he
     ·simp at he
     ·rename_i h2;simpa using h2
  simp only [r_bnd0,r_ld0,r_lds,r_neq,ne_eq,not_true_eq_false,decide_false,r_cond,Bool.false_eq_true,if_false,s81 (n+4) _ _ _ _ f d hf.1 hf.2 g.less (by omega),nzO_getD,r_out]
 ·rw [if_neg he,if_neg he]
  simp only [nil5,r_bnd0,r_ld0,r_lds,r_neq,r_cond]
  rw [if_pos (by simpa using he)]
  simp [dI,dSl]
set_option maxRecDepth 20000 in
theorem s17:FN (n+9) 17 [d9 a,d9 b,d9 c,d5 o,il p,il f,il d,il k]=if askE (okKin (a.getD []) (b.getD []) (c.getD []) (o.getD [])) true true p 1 [d,k]=0 then some (0,[.d (dI (some (famL k a b c o d p))),.d (il 0)]) else some (0,[.d (dI none),.d (il (askE (okKin (a.getD []) (b.getD []) (c.getD []) (o.getD [])) true true p 1 [d,k]))]):=by
 rw [F17]
 have h76:=s76 (n+2) p 1 d k a b c o ha hb hc ho
 simp only [G17,r_call,r_litb,s77,r_bnd0,r_ld0,r_lds,if_true,Bool.false_eq_true,if_false,h76,r_liti]
 by_cases he:askE (okKin (a.getD []) (b.getD []) (c.getD []) (o.getD [])) true true p 1 [d,k]=0
 ·rw [if_pos he,if_pos he]
  have g:=(good_of (askE_ok he)).cnt k
  simp only [r_bnd0,r_ld0,r_lds,r_neq,ne_eq,not_true_eq_false,decide_false,r_cond,Bool.false_eq_true,if_false,k83z n d p (askE_days he).1 g,r_out]
  rfl
 ·rw [if_neg he,if_neg he]
  simp only [nil5,r_bnd0,r_ld0,r_lds,r_neq,r_cond]
  rw [if_pos (by simpa using he)]
  simp [dI,dSl]
set_option maxRecDepth 20000 in
theorem s21:FN (n+9) 21 [d9 a,d9 b,d9 c,d5 o,il p,il f,il d,il k]=if askE (okKin (a.getD []) (b.getD []) (c.getD []) (o.getD [])) true true p f [d,k]=0 then some (0,[.d (il (forI (famL k a b c o d p) f)),.d (il 0)]) else some (0,[.d (il 0),.d (il (askE (okKin (a.getD []) (b.getD []) (c.getD []) (o.getD [])) true true p f [d,k]))]):=by
 rw [F21]
 have h76:=s76 (n+2) p f d k a b c o ha hb hc ho
 simp only [G21,r_call,h76,r_liti]
 by_cases he:askE (okKin (a.getD []) (b.getD []) (c.getD []) (o.getD [])) true true p f [d,k]=0
 ·rw [if_pos he,if_pos he]
  have g:=(good_of (askE_ok he)).cnt k
  have hlen:(famP (cnt9 k (a.getD [])) (cnt9 k (b.getD [])) (cnt9 k (c.getD [])) (cnt5 k (o.getD [])) d p).length≤100:=acc_len0 (up_famP ..) fun z hz=>fam_range g.fam g.less hz
  have h87:=s87 (n+6) (some (famP (cnt9 k (a.getD [])) (cnt9 k (b.getD [])) (cnt9 k (c.getD [])) (cnt5 k (o.getD [])) d p)) f (by simp only [Option.getD_some];omega)
  simp only [r_bnd0,r_ld0,r_lds,r_neq,ne_eq,not_true_eq_false,decide_false,r_cond,Bool.false_eq_true,if_false,k83z n d p (askE_days he).1 g,h87,r_out]
  rfl
 ·rw [if_neg he,if_neg he]
  simp only [nil5,r_bnd0,r_ld0,r_lds,r_neq,r_cond]
  rw [if_pos (by simpa using he)]
  simp
end
end Go.VE
namespace Go.VE
open Go.RowKit Go.Proofs
def persL (l:List E9):List Int:=insAll [] (l.map (·.a))
theorem len_persL (l:List E9):(persL l).length≤l.length:=by
 have:=len_insAll (l.map (·.a)) []
 simpa [persL] using this
theorem persL_ne {l:List E9} (h:l≠[]):persL l≠[]:=insAll_ne [] (by simpa using h)
set_option maxRecDepth 20000 in
theorem s111 (n:Nat) (a:Option (List E9)) (b c o:D) (hl:(a.getD []).length≤1000000):FN (n+5) 111 [d9 a,b,c,o]=match persL (a.getD []) with
  | []=>some (1,[.d (dI none)])
  | y::r=>some (0,[.r ((y::r).map rI)]):=by
 rw [F111]
 simp only [G111,len9,r_liti,r_loop]
 by_cases hne:a.getD []=[]
 ·rw [hne]
  have h0:loopR [L111_0 (RP (n+4)),L111_1 (RP (n+4))] M0 0 [.d (d9 a),.d (il (([]:List E9).length:Int)),.d (il 0)]=some (0,[]) :=
   loop_ms (σ:=Unit) [L111_0 (RP (n+4)),L111_1 (RP (n+4))] (fun _=>(0,[.d (d9 a),.d (il (([]:List E9).length:Int)),.d (il 0)])) (fun _=>0) (fun _=>True) (fun _=>some (0,[])) (fun s k _ _=>⟨_,rfl,by simp [L111_0]⟩) M0 () trivial (by unfold M0;omega)
  rw [h0]
  rfl
 ·have hL:((a.getD []).map (·.a)).length=(a.getD []).length:=by simp
  have:=ins_nil ((a.getD []).map (·.a)) (by simpa using hl) (by simpa using hne) (L111_0 (RP (n+4))) (L111_1 (RP (n+4))) (fun i=>[.d (d9 a),.d (il (a.getD []).length),.d (il (i:Nat))])
   (fun i acc=>[.n acc.length,.n acc.length,.d (d9 a),.d (il (a.getD []).length),.d (il (i:Nat)),.r (acc.map rI)]) (fun acc=>some (1,[.n acc.length,.n acc.length,.r (acc.map rI)])) ?_ ?_ ?_
  ·rw [show il 0=il ((0:Nat):Int) from rfl,this]
   rw [show insAll [] ((a.getD []).map (·.a))=persL (a.getD []) from rfl]
   have hp:=persL_ne hne
   cases hq:persL (a.getD []) with
   | nil=>exact absurd hq hp
   | cons y r=>simp;exact segmap r
  ·intro acc k
   rw [hL]
   simp [L111_1]
  ·intro x k hi hlt
   rw [hL] at hlt
   obtain ⟨e,he,rfl⟩:∃ e,(a.getD [])[0]?=some e∧e.a=x:=by
    rw [List.getElem?_map] at hi
    cases h0:(a.getD [])[0]? with
    | none=>rw [h0] at hi;simp at hi
    | some e=>rw [h0] at hi;exact ⟨e,rfl,by simpa using hi⟩
   have h9:=row9 (Fn:=FN (n+4)) (FnD:=FnDof Tryz.prog (cf3 tb Tryz.prog) (FN (n+4))) (m:=M0) he
   simp only [L111_0,r_ld0,r_lds,r_lss,r_cond,Int.natCast_zero,hlt,decide_true,if_true]
   rw [show ((il 0):D)=il ((0:Nat):Int) from rfl,h9]
   simp only [r9,r_cell0,r_cells,r_call,r_litNil,nilI,r_bnd0,r_ld0,r_lds,r_cond,Bool.false_eq_true,if_false]
   rw [put0]
   simp only [r_liti,r_add,r_natN,r_rows,r_len,r_seg0,List.length_cons,List.length_nil,List.take_succ_cons,List.take_zero,Int.natCast_zero]
   rw [show IntKind.i64.wrap (0+1)=((1:Nat):Int) from rfl]
  ·intro i x acc k hi hlt hw hu hal
   rw [hL] at hlt
   obtain ⟨e,he,rfl⟩:∃ e,(a.getD [])[i]?=some e∧e.a=x:=by
    rw [List.getElem?_map] at hi
    cases h0:(a.getD [])[i]? with
    | none=>rw [h0] at hi;simp at hi
    | some e=>rw [h0] at hi;exact ⟨e,rfl,by simpa using hi⟩
   have hput:=s1000075 n acc e.a (by omega) hu
   simp only [L111_1,r_ld0,r_lds,r_ln0,r_lns,r_lr0,r_lrs,r_lss,r_cond,hlt,decide_true,if_true,row9 he,r9,r_cell0,r_cells,r_len,r_eqN,List.length_map,r_slD,r_call]
   simp only [hput,r_bnd0,r_ld0,r_rowsD,r_liti,r_add,hw,List.length_map]
theorem s90 (n:Nat) (z:Int):FN (n+1) 90 [il z]=some (0,[.d (bl (decide (z=1)))]):=by rw [F90];simp [G90]
theorem s91 (n:Nat) (z:Int):FN (n+1) 91 [il z]=some (0,[.d (bl (decide (z≠0)))]):=by rw [F91];simp only [G91,r_liti,r_neq,r_out]
theorem d90 (n:Nat) (z:Int):FD (n+1) (.fn 90 []) [.one] (rI z)=some (0,[.d (bl (decide (z=1)))]) :=
 FD_fn [.one] [.one (il z)] (by decide) rfl (by kernel_rfl) rfl (by kernel_rfl) (s90 n z)
theorem d91 (n:Nat) (z:Int):FD (n+1) (.fn 91 []) [.one] (rI z)=some (0,[.d (bl (decide (z≠0)))]) :=
 FD_fn [.one] [.one (il z)] (by decide) rfl (by kernel_rfl) rfl (by kernel_rfl) (s91 n z)
section
variable {a b c:Option (List E9)} {o:Option (List E5)}
theorem s169 (n:Nat) (d f p:Int) (is:D) (q:Int→Bool) (hq:∀ z,FD (n+106) is [.one] (rI z)=some (0,[.d (bl (q z))])) (hd:0≤d∧d≤4166) (g:GoodK (a.getD []) (b.getD []) (c.getD []) (o.getD [])) :
  FN (n+107) 169 [il p,is,dKin a b c o,il f,il d]=some (0,[.d (bl (!q (forI (famP (a.getD []) (b.getD []) (c.getD []) (o.getD []) d p) f)))]):=by
 rw [F169]
 have hp:∀ k:List D→Out,(RP (n+106)).ptrW 4 (dKin a b c o) k=k [d9 a,d9 b,d9 c,d5 o]:=fun k=>r_ptrW _ 4 k rfl
 have hz:∀ z,FnDof Tryz.prog (cf3 tb Tryz.prog) (FN (n+106)) is [.one] [il z]=some (0,[.d (bl (q z))]):=hq
 simp only [G169,hp,r_cell0,r_cells,r_call,k86 n d p f hd g,r_bnd0,r_ld0,r_callD,hz,r_not,r_out]
theorem d169 (n:Nat) (d f p:Int) (is:D) (q:Int→Bool) (hq:∀ z,FD (n+106) is [.one] (rI z)=some (0,[.d (bl (q z))])) (hd:0≤d∧d≤4166) (g:GoodK (a.getD []) (b.getD []) (c.getD []) (o.getD [])) :
  FD (n+107) (.fn 169 [.dp [is] 0,.dp [dKin a b c o] 0,.dp [il f] 0,.dp [il d] 0]) [.one] (rI p)=some (0,[.d (bl (!q (forI (famP (a.getD []) (b.getD []) (c.getD []) (o.getD []) d p) f)))]) :=
 FD_fn [.one,.ptr 1,.ptr 1,.ptr 1,.ptr 1] [.one (il p)] (by decide) rfl (by kernel_rfl) rfl (by kernel_rfl) (s169 n d f p is q hq hd g)
end
end Go.VE
namespace Go.VE
open Go.RowKit Go.Proofs
theorem FnV_one {Fn:Nat→List D→Out} {f:Nat} (sh':List Sh) {vs:List VD} {xs:List D} {z:D} (hlt:f < 1000000) (hash:tb.ash f=some sh') (hx:flatV sh' vs=some xs)
  (hr:tb.rsk f=[[(false,[.d])]]) (hf:Fn f xs=some (0,[.d z])):FnV (cf3 tb Tryz.prog) Fn f vs=some (0,[.d z]):=by
 have h1:(cf3 tb Tryz.prog).ash f=some sh':=by simp only [cf3,if_pos hlt,hash]
 have h2:isOneD ((cf3 tb Tryz.prog).rsk f)=true:=by simp only [cf3,hr];rfl
 simp only [FnV,h1,hx,h2,if_true,hf]
theorem own_eq (y:Int) (r:List Int):(.sl 1 (((y::r).map rI).take ((y::r).map rI).length):D)=dI (some (y::r)):=by rw [List.take_length];rfl
section
variable {a b c:Option (List E9)} {o:Option (List E5)}
set_option maxRecDepth 20000 in
theorem l89 (n:Nat) (d f:Int) (is:D) (q:Int→Bool) (hq:∀ z,FD (n+107) is [.one] (rI z)=some (0,[.d (bl (q z))])) (hd:0≤d∧d≤4166) (g:GoodK (a.getD []) (b.getD []) (c.getD []) (o.getD []))
  (l:List Int) (hl:l.length≤4611686018427387904) (i0:Nat) (h0:i0 < l.length) (h1:(l.take (i0+1)).filter (fun p=>!(!q (forI (famP (a.getD []) (b.getD []) (c.getD []) (o.getD []) d p) f)))=l.take i0) :
  ∃ (i:Nat) (ks:List Int),loopR [L89_0 (RP (n+108))] M0 0 [.n l.length,.n l.length,.d is,.d (dKin a b c o),.d (il f),.d (il d),.d (il i0),.d (il ((i0+1:Nat):Int)),.r (l.map rI)]=some (0,[.n l.length,.n l.length,.d (il (i:Int)),.r (ks.map rI)])∧i < l.length∧ks.length=l.length∧ks.take i=l.filter (fun p=>!(!q (forI (famP (a.getD []) (b.getD []) (c.getD []) (o.getD []) d p) f))):=by
 refine del_loop l hl (fun p=>!q (forI (famP (a.getD []) (b.getD []) (c.getD []) (o.getD []) d p) f)) (L89_0 (RP (n+108))) (fun i j ks=>[.n l.length,.n l.length,.d is,.d (dKin a b c o),.d (il f),.d (il d),.d (il (i:Nat)),.d (il (j:Nat)),.r (ks.map rI)])
  (fun i ks=>some (0,[.n l.length,.n l.length,.d (il ((i:Nat):Int)),.r (ks.map rI)])) ?_ ?_ i0 h0 h1
 ·intro i ks k hk
  simp [L89_0]
 ·intro i j ks e e2 k _ hj hi hij hjl hil hks hwj hwi
  have hkr:(ks.map rI)[j]?=some (rI e):=by rw [List.getElem?_map,hj];rfl
  have hkr2:(ks.map rI)[i]?=some (rI e2):=by rw [List.getElem?_map,hi];rfl
  have h169:=s169 (n+1) d f e is q hq hd g
  simp only [L89_0,r_ld0,r_lds,r_ln0,r_lns,r_lr0,r_lrs,r_natD,r_lss,r_cond,hjl,decide_true,if_true,r_len,List.length_map,r_eqN,hks]
  rw [r_inx _ _ _ ⟨by omega,hjl⟩,Int.toNat_natCast,r_rowAt 1 _ _ _ _ hkr rfl]
  simp only [rI,r_cell0,r_call,h169,r_bnd0,r_ld0,r_not,r_cond,r_liti,r_add,hwj,hwi]
  cases hqv:q (forI (famP (a.getD []) (b.getD []) (c.getD []) (o.getD []) d e) f) with
  | true =>
   simp only [Bool.not_true,Bool.not_false,if_true,Bool.false_eq_true,if_false]
   rw [r_inx _ _ _ ⟨by omega,hil⟩,Int.toNat_natCast,r_rowAt 1 _ _ _ _ hkr2 rfl]
   simp only [r_setR,List.map_set,rI]
  | false =>
   simp only [Bool.not_true,Bool.not_false,if_true,Bool.false_eq_true,if_false]
set_option maxRecDepth 20000 in
theorem k89 (n:Nat) (d f:Int) (is:D) (q:Int→Bool) (hq0:∀ z,FD (n+106) is [.one] (rI z)=some (0,[.d (bl (q z))])) (hq:∀ z,FD (n+107) is [.one] (rI z)=some (0,[.d (bl (q z))])) (hd:0≤d∧d≤4166) (g:GoodK (a.getD []) (b.getD []) (c.getD []) (o.getD [])) :
  FN (n+109) 89 [d9 a,d9 b,d9 c,d5 o,il f,il d,is]=some (0,[.d (dI ((nzO (persL (a.getD []))).map (List.filter fun p=>q (forI (famP (a.getD []) (b.getD []) (c.getD []) (o.getD []) d p) f))))]):=by
 rw [F89]
 have hla:=g.la
 have hlp:=len_persL (a.getD [])
 have hp:∀ k:List D→Out,(RP (n+108)).ptrW 4 (.dp [d9 a,d9 b,d9 c,d5 o] 0) k=k [d9 a,d9 b,d9 c,d5 o]:=fun k=>r_ptrW _ 4 k rfl
 have h111:=s111 (n+103) a (d9 b) (d9 c) (d5 o) (by omega)
 have hdk:(.dp [d9 a,d9 b,d9 c,d5 o] 0:D)=dKin a b c o:=rfl
 simp only [G89,r_dpD,r_isPtr,hp,r_cell0,r_cells,r_call,h111]
 have hi:=fun l hl=>s186 (n+107) l hl (.fn 169 [.dp [is] 0,.dp [dKin a b c o] 0,.dp [il f] 0,.dp [il d] 0]) (fun p=>!q (forI (famP (a.getD []) (b.getD []) (c.getD []) (o.getD []) d p) f)) (fun e _=>d169 n d f e is q hq0 hd g)
 generalize hl:persL (a.getD [])=l at hlp ⊢
 cases l with
 | nil =>
  have:=hi none (by simp)
  simp only [r_bndg,r_bnd0,r_ld0,r_fnD,hdk,this,idxO,fnd,r_liti,r_eql,r_cond,Option.getD_none]
  simp [nzO,dI,dSl]
 | cons y r =>
  have h2:=hi (some (y::r)) (by simp only [Option.getD_some];omega)
  simp only [Option.getD_some] at h2
  have el:((y::r).map rI).take ((y::r).map rI).length=(y::r).map rI:=List.take_length
  simp only [r_bnd0,r_lr0,r_len,r_eqN,if_true,r_seg0,r_slD,r_fnD,hdk,own_eq,h2,r_ld0,r_litsg,List.all_cons,List.all_nil,yl_i,Bool.and_true,r_liti,r_eql,r_cond,decide_eq_true_eq,r_out]
  have hres:dI ((nzO (y::r)).map (List.filter fun p=>q (forI (famP (a.getD []) (b.getD []) (c.getD []) (o.getD []) d p) f)))=dI (some ((y::r).filter fun p=>q (forI (famP (a.getD []) (b.getD []) (c.getD []) (o.getD []) d p) f))):=rfl
  rw [hres]
  generalize hy:(y::r)=l at *
  unfold idxO
  cases hf:fnd (fun p=>!q (forI (famP (a.getD []) (b.getD []) (c.getD []) (o.getD []) d p) f)) l with
  | none =>
   simp only [if_true]
   have:=fnd_none hf
   simp only [Bool.not_not] at this
   rw [this]
  | some i0 =>
   obtain ⟨h0,h1⟩:=fnd_some hf
   simp only
   rw [if_neg (by omega),r_add,wrap_id (by omega) (by omega),r_loop,List.length_map]
   obtain ⟨i,ks,e1,e2,e3,e4⟩:=l89 n d f is q hq hd g l (by omega) i0 h0 h1
   rw [show ((i0:Nat):Int)+1=((i0+1:Nat):Int) by simp,e1]
   have ek:(ks.map rI).length=l.length:=by simp [e3]
   simp only [r_bnd0,r_ld0,r_lds,r_ln0,r_lns,r_lr0,r_lrs,ek,if_true]
   rw [r_cutLo _ _ _ _ e2]
   have ea:i+(l.length - i)=l.length:=by omega
   have et:((ks.map rI).take i++List.replicate (l.length - i) [il 0]).length=l.length:=by
    simp [e3];omega
   simp only [r_addN,ea,r_app,r_repl,et,if_true]
   rw [r_cutHi _ _ _ _ (by omega)]
   simp only [Bool.not_not] at e4
   have er:((ks.map rI).take i++List.replicate (l.length - i) [il 0]).take i=(l.filter fun p=>q (forI (famP (a.getD []) (b.getD []) (c.getD []) (o.getD []) d p) f)).map rI:=by
    rw [List.take_append_of_le_length (by simp [e3];omega),List.take_take,Nat.min_self,← List.map_take,e4]
   rw [er]
   rfl
theorem d82 (n:Nat) (d p:Int) (hd:0≤d∧d≤4166) (g:GoodK (a.getD []) (b.getD []) (c.getD []) (o.getD [])) :
  FD (n+105) (.fn 2000082 [dKin a b c o]) [.one,.one] [il p,il d]=some (0,[.d (dI (some (famP (a.getD []) (b.getD []) (c.getD []) (o.getD []) d p)))]):=by
 have h:FnV (cf3 tb Tryz.prog) (FN (n+105)) 82 [.one (dKin a b c o),.one (il p),.one (il d)]=some (0,[.d (dI (some (famP (a.getD []) (b.getD []) (c.getD []) (o.getD []) d p)))]) :=
  FnV_one [.ptr 4,.one,.one] (by decide) rfl (by kernel_rfl) (by kernel_rfl) (k82 n d p hd g)
 have h2:FnDof Tryz.prog (cf3 tb Tryz.prog) (FN (n+105)) (.fn 2000082 [dKin a b c o]) [.one,.one] [il p,il d]=if 2000082 < 2000000 then FnV (cf3 tb Tryz.prog) (FN (n+105)) 2000082 ([.one (il p),.one (il d)]++[.one (dKin a b c o)]) else FnV (cf3 tb Tryz.prog) (FN (n+105)) 82 [.one (dKin a b c o),.one (il p),.one (il d)]:=by kernel_rfl
 show FnDof Tryz.prog (cf3 tb Tryz.prog) (FN (n+105)) (.fn 2000082 [dKin a b c o]) [.one,.one] [il p,il d]=_
 rw [h2,if_neg (by decide),h]
end
set_option maxRecDepth 20000 in
theorem s171 (n:Nat) (a b:List Int) (ha:a.length≤4611686018427387904):FN (n+1) 171 [dI (some a),dI (some b)]=some (0,[.d (bl (decide (a=b)))]):=by
 rw [F171]
 simp only [G171,lenI,Option.getD_some,r_neq,r_cond,decide_eq_true_eq,r_litb,r_out,r_liti,r_loop]
 by_cases hlen:a.length=b.length
 ·rw [if_neg (by simp [hlen])]
  have:=range_loop (β:=Unit) a ha (L171_0 (RP n)) (fun i _=>[.d (dI (some a)),.d (dI (some b)),.d (il a.length),.d (il i)]) (fun _ _=>True)
   (fun i r _=>if r=b.drop i then some (1,[]) else some (0,[.d (bl false)]))
   (fun _ k _=>by rw [hlen,List.drop_length];simp [L171_0]) ?_ M0 () trivial (M0_big ha)
  ·simp only [Int.natCast_zero,List.drop_zero] at this
   rw [this]
   by_cases h:a=b<;>simp [h]
  ·intro i e r _ k hi hd hlt hw _ ih
   have ih':=ih () trivial
   have hlt':(i:Int) < (a.length:Int):=by omega
   have hlb:i < b.length:=by omega
   have hb:b[i]?=some (b[i]'hlb):=List.getElem?_eq_getElem hlb
   have hdb:b.drop i=b[i]'hlb::b.drop (i+1):=List.drop_eq_getElem_cons hlb
   have hi1:((some a).getD [])[i]?=some e:=hi
   have hi2:((some b).getD [])[i]?=some (b[i]'hlb):=hb
   simp only [L171_0,r_ld0,r_lds,r_lss,r_cond,hlt',decide_true,if_true,rowI hi1,rowI hi2,rI,r_cell0,r_neq,r_liti,r_add,hw,r_litb,r_out,decide_eq_true_eq]
   rw [hdb]
   generalize b[i]'hlb=f
   generalize b.drop (i+1)=t at ih' ⊢
   by_cases h:e=f
   ·subst h
    rw [if_neg (by simp)]
    refine Eq.trans ih' ?_
    simp
   ·rw [if_pos h,if_neg (by simp [h])]
 ·rw [if_pos (by omega)]
  have:¬ a=b:=fun e=>hlen (by rw [e])
  simp [this]
end Go.VE
namespace Go.VE
open Go.RowKit Go.Proofs
def difB (x y:Int→List Int) (p:Int):Bool:=!decide (x p=y p)
section
variable {a b c:Option (List E9)} {o:Option (List E5)} {a' b' c':Option (List E9)} {o':Option (List E5)}
abbrev fo (a b c:Option (List E9)) (o:Option (List E5)) (d:Int):Int→List Int:=famP (a.getD []) (b.getD []) (c.getD []) (o.getD []) d
theorem s170 (n:Nat) (d p:Int) (hd:0≤d∧d≤4166) (g:GoodK (a.getD []) (b.getD []) (c.getD []) (o.getD [])) (g':GoodK (a'.getD []) (b'.getD []) (c'.getD []) (o'.getD [])) :
  FN (n+106) 170 [il p,.fn 2000082 [dKin a b c o],il d,dKin a' b' c' o']=some (0,[.d (bl (!difB (fo a b c o d) (fo a' b' c' o' d) p))]):=by
 rw [F170]
 have hp:∀ k:List D→Out,(RP (n+105)).ptrW 4 (dKin a' b' c' o') k=k [d9 a',d9 b',d9 c',d5 o']:=fun k=>r_ptrW _ 4 k rfl
 have hz:FnDof Tryz.prog (cf3 tb Tryz.prog) (FN (n+105)) (.fn 2000082 [dKin a b c o]) [.one,.one] [il p,il d]=_:=d82 n d p hd g
 have hlen:=len_fam d p g
 simp only [G170,r_callD,hz,r_bnd0,hp,r_cell0,r_cells,r_call,k82 n d p hd g',r_ld0,s171 (n+104) _ _ (by omega:(famP (a.getD []) (b.getD []) (c.getD []) (o.getD []) d p).length≤4611686018427387904),r_out]
 simp [difB]
theorem d170 (n:Nat) (d p:Int) (hd:0≤d∧d≤4166) (g:GoodK (a.getD []) (b.getD []) (c.getD []) (o.getD [])) (g':GoodK (a'.getD []) (b'.getD []) (c'.getD []) (o'.getD [])) :
  FD (n+106) (.fn 170 [.dp [.fn 2000082 [dKin a b c o]] 0,.dp [il d] 0,.dp [dKin a' b' c' o'] 0]) [.one] (rI p)=some (0,[.d (bl (!difB (fo a b c o d) (fo a' b' c' o' d) p))]) :=
 FD_fn [.one,.ptr 1,.ptr 1,.ptr 1] [.one (il p)] (by decide) rfl (by kernel_rfl) rfl (by kernel_rfl) (s170 n d p hd g g')
set_option maxRecDepth 20000 in
theorem l93 (n:Nat) (d:Int) (hd:0≤d∧d≤4166) (g:GoodK (a.getD []) (b.getD []) (c.getD []) (o.getD [])) (g':GoodK (a'.getD []) (b'.getD []) (c'.getD []) (o'.getD []))
  (l:List Int) (hl:l.length≤4611686018427387904) (i0:Nat) (h0:i0 < l.length) (h1:(l.take (i0+1)).filter (fun p=>!(!difB (fo a b c o d) (fo a' b' c' o' d) p))=l.take i0) :
  ∃ (i:Nat) (ks:List Int),loopR [L93_0 (RP (n+107))] M0 0 [.n l.length,.n l.length,.d (il d),.d (dKin a' b' c' o'),.d (il i0),.d (il ((i0+1:Nat):Int)),.d (d9 a),.d (d9 b),.d (d9 c),.d (d5 o),.r (l.map rI)]=some (0,[.n l.length,.n l.length,.d (il (i:Int)),.d (d9 a),.d (d9 b),.d (d9 c),.d (d5 o),.r (ks.map rI)])∧i < l.length∧ks.length=l.length∧ks.take i=l.filter (fun p=>!(!difB (fo a b c o d) (fo a' b' c' o' d) p)):=by
 refine del_loop l hl (fun p=>!difB (fo a b c o d) (fo a' b' c' o' d) p) (L93_0 (RP (n+107))) (fun i j ks=>[.n l.length,.n l.length,.d (il d),.d (dKin a' b' c' o'),.d (il (i:Nat)),.d (il (j:Nat)),.d (d9 a),.d (d9 b),.d (d9 c),.d (d5 o),.r (ks.map rI)])
  (fun i ks=>some (0,[.n l.length,.n l.length,.d (il ((i:Nat):Int)),.d (d9 a),.d (d9 b),.d (d9 c),.d (d5 o),.r (ks.map rI)])) ?_ ?_ i0 h0 h1
 ·intro i ks k hk
  simp [L93_0]
 ·intro i j ks e e2 k _ hj hi hij hjl hil hks hwj hwi
  have hkr:(ks.map rI)[j]?=some (rI e):=by rw [List.getElem?_map,hj];rfl
  have hkr2:(ks.map rI)[i]?=some (rI e2):=by rw [List.getElem?_map,hi];rfl
  have h170:=s170 (n+1) d e hd g g'
  simp only [dKin] at h170
  simp only [L93_0,r_ld0,r_lds,r_ln0,r_lns,r_lr0,r_lrs,r_natD,r_lss,r_cond,hjl,decide_true,if_true,r_len,List.length_map,r_eqN,hks,r_fnD,r_dpD,dKin]
  rw [r_inx _ _ _ ⟨by omega,hjl⟩,Int.toNat_natCast,r_rowAt 1 _ _ _ _ hkr rfl]
  simp only [rI,r_cell0,r_call,h170,r_bnd0,r_ld0,r_litsg,List.all_cons,List.all_nil,yl_b,Bool.and_true,if_true,r_not,r_cond,r_liti,r_add,hwj,hwi]
  cases hqv:difB (fo a b c o d) (fo a' b' c' o' d) e with
  | true =>
   simp only [Bool.not_true,Bool.not_false,if_true,Bool.false_eq_true,if_false]
   rw [r_inx _ _ _ ⟨by omega,hil⟩,Int.toNat_natCast,r_rowAt 1 _ _ _ _ hkr2 rfl]
   simp only [r_setR,List.map_set,rI]
  | false =>
   simp only [Bool.not_true,Bool.not_false,if_true,Bool.false_eq_true,if_false]
set_option maxRecDepth 20000 in
theorem k93 (n:Nat) (z:Option (List E9)) (x1 x2 x3:D) (d:Int) (hz:(z.getD []).length≤1000000) (hd:0≤d∧d≤4166) (g:GoodK (a.getD []) (b.getD []) (c.getD []) (o.getD [])) (g':GoodK (a'.getD []) (b'.getD []) (c'.getD []) (o'.getD [])) :
  FN (n+108) 93 [d9 z,x1,x2,x3,d9 a,d9 b,d9 c,d5 o,d9 a',d9 b',d9 c',d5 o',il d]=some (0,[.d (dI ((nzO (persL (z.getD []))).map (List.filter (difB (fo a b c o d) (fo a' b' c' o' d)))))]):=by
 rw [F93]
 have hlp:=len_persL (z.getD [])
 have h111:=s111 (n+102) z x1 x2 x3 hz
 simp only [G93,r_call,h111]
 have hi:=fun l hl=>s186 (n+106) l hl (.fn 170 [.dp [.fn 2000082 [dKin a b c o]] 0,.dp [il d] 0,.dp [dKin a' b' c' o'] 0]) (fun p=>!difB (fo a b c o d) (fo a' b' c' o' d) p) (fun e _=>d170 n d e hd g g')
 have hdk:(.dp [d9 a,d9 b,d9 c,d5 o] 0:D)=dKin a b c o:=rfl
 have hdk':(.dp [d9 a',d9 b',d9 c',d5 o'] 0:D)=dKin a' b' c' o':=rfl
 generalize hl:persL (z.getD [])=l at hlp ⊢
 cases l with
 | nil =>
  have:=hi none (by simp)
  simp only [r_bndg,r_bnd0,r_ld0,r_fnD,r_dpD,hdk,hdk',this,idxO,fnd,r_litsg,List.all_cons,List.all_nil,yl_i,Bool.and_true,if_true,r_liti,r_eql,r_cond,Option.getD_none]
  simp [nzO,dI,dSl]
 | cons y r =>
  have h2:=hi (some (y::r)) (by simp only [Option.getD_some];omega)
  simp only [Option.getD_some] at h2
  simp only [r_bnd0,r_lr0,r_len,r_eqN,if_true,r_seg0,r_slD,r_fnD,r_dpD,hdk,hdk',own_eq,h2,r_ld0,r_litsg,List.all_cons,List.all_nil,yl_i,Bool.and_true,r_liti,r_eql,r_cond,decide_eq_true_eq,r_out]
  have hres:dI ((nzO (y::r)).map (List.filter (difB (fo a b c o d) (fo a' b' c' o' d))))=dI (some ((y::r).filter (difB (fo a b c o d) (fo a' b' c' o' d)))):=rfl
  rw [hres]
  generalize hy:(y::r)=l at *
  unfold idxO
  cases hf:fnd (fun p=>!difB (fo a b c o d) (fo a' b' c' o' d) p) l with
  | none =>
   simp only [if_true]
   have:=fnd_none hf
   simp only [Bool.not_not] at this
   rw [show (l.filter (difB (fo a b c o d) (fo a' b' c' o' d)))=l.filter (fun p=>difB (fo a b c o d) (fo a' b' c' o' d) p) from rfl,this]
  | some i0 =>
   obtain ⟨h0,h1⟩:=fnd_some hf
   simp only
   rw [if_neg (by omega),r_add,wrap_id (by omega) (by omega),r_loop,List.length_map]
   obtain ⟨i,ks,e1,e2,e3,e4⟩:=l93 n d hd g g' l (by omega) i0 h0 h1
   rw [show ((i0:Nat):Int)+1=((i0+1:Nat):Int) by simp,e1]
   have ek:(ks.map rI).length=l.length:=by simp [e3]
   simp only [r_bnd0,r_ld0,r_lds,r_ln0,r_lns,r_lr0,r_lrs,ek,if_true]
   rw [r_cutLo _ _ _ _ e2]
   have ea:i+(l.length - i)=l.length:=by omega
   have et:((ks.map rI).take i++List.replicate (l.length - i) [il 0]).length=l.length:=by
    simp [e3];omega
   simp only [r_addN,ea,r_app,r_repl,et,if_true]
   rw [r_cutHi _ _ _ _ (by omega)]
   simp only [Bool.not_not] at e4
   have er:((ks.map rI).take i++List.replicate (l.length - i) [il 0]).take i=(l.filter (difB (fo a b c o d) (fo a' b' c' o' d))).map rI:=by
    rw [List.take_append_of_le_length (by simp [e3];omega),List.take_take,Nat.min_self,← List.map_take,e4]
   rw [er]
   rfl
end
theorem askE_3 {ok ps fs:Bool} {p f d k l:Int} (h:askE ok ps fs p f [d,k,l]=0):(0≤d∧d≤4166)∧(0≤k∧k≤4166)∧0≤l∧l≤4166:=by
 unfold askE at h
 split at h
 ·simp at h
 ·split at h
  ·simp at h
  ·split at h
   ·simp at h
   ·split at h
    ·simp at h
    ·rename_i hh
     simp only [List.any_cons,List.any_nil,Bool.or_false,Bool.or_eq_true,Bool.not_eq_true',decide_eq_false_iff_not,not_or,Decidable.not_not] at hh
     exact hh
def fk (k:Int) (a b c:Option (List E9)) (o:Option (List E5)) (d:Int):Int→List Int:=famL k a b c o d
theorem fo_kn (k:Int) (a b c:Option (List E9)) (o:Option (List E5)) (d:Int):fo (kn9 k a) (kn9 k b) (kn9 k c) (kn5 k o) d=fk k a b c o d:=by
 funext p;unfold fo fk famL;rw [kn9_getD,kn9_getD,kn9_getD,kn5_getD]
section
variable (n:Nat) (p f d k l:Int) (a b c:Option (List E9)) (o:Option (List E5)) (ha:(a.getD []).length*72≤140737488351232) (hb:(b.getD []).length*72≤140737488351232) (hc:(c.getD []).length*72≤140737488351232) (ho:(o.getD []).length*40≤140737488351232)
include ha hb hc ho
set_option maxRecDepth 20000 in
theorem s37:FN (n+109) 37 [d9 a,d9 b,d9 c,d5 o,il d,il k,il l]=if askE (okKin (a.getD []) (b.getD []) (c.getD []) (o.getD [])) false false 0 0 [d,k,l]=0 then some (0,[.d (dI ((nzO (persL (a.getD []))).map (List.filter (difB (fk k a b c o d) (fk l a b c o d))))),.d (il 0)]) else some (0,[.d (dI none),.d (il (askE (okKin (a.getD []) (b.getD []) (c.getD []) (o.getD [])) false false 0 0 [d,k,l]))]):=by
 rw [F37]
 have h73:=s73 (n+98) 0 0 false false a b c o [d,k] l (by simp) ha hb hc ho
 rw [show dI (some ([d,k]++[l]))=.sl 1 [[il d],[il k],[il l]] from rfl,show [d,k]++[l]=[d,k,l] from rfl] at h73
 have h94:=s94 (n+103) k a b c o ha hb hc ho
 simp only [G37,r_call,r_liti,r_litb,r_rows,r_slD,h73]
 by_cases he:askE (okKin (a.getD []) (b.getD []) (c.getD []) (o.getD [])) false false 0 0 [d,k,l]=0
 ·have g:=good_kn k he
  have g':=good_kn l he
  have hl:=(okKin_len (askE_ok he)).1
  rw [if_pos he]
  have hp:∀ (k:Int) (q:List D→Out),(RP (n+108)).ptrW 4 (dKin (kn9 k a) (kn9 k b) (kn9 k c) (kn5 k o)) q=q [d9 (kn9 k a),d9 (kn9 k b),d9 (kn9 k c),d5 (kn5 k o)]:=fun k q=>r_ptrW _ 4 q rfl
  simp only [askR,he,if_true,r_bnd0,r_ld0,r_lds,r_neq,ne_eq,not_true_eq_false,decide_false,r_cond,Bool.false_eq_true,if_false,h94,hp,r_cell0,r_cells,k93 n a (d9 b) (d9 c) (d5 o) d (by omega) (askE_3 he).1 g g',r_out,fo_kn]
 ·rw [if_neg he]
  simp only [askR,if_neg he,r_bnd0,r_ld0,r_lds,r_neq,r_cond]
  rw [if_pos (by simpa using he)]
  simp [dI,dSl]
def sureL (k:Int) (a b c:Option (List E9)) (o:Option (List E5)) (d f:Int):Option (List Int):=(nzO (persL (cnt9 k (a.getD [])))).map (List.filter fun p=>decide (forI (famL k a b c o d p) f=1))
def mayL (k:Int) (a b c:Option (List E9)) (o:Option (List E5)) (d f:Int):Option (List Int):=(nzO (persL (cnt9 k (a.getD [])))).map (List.filter fun p=>decide (forI (famL k a b c o d p) f≠0))
omit ha hb hc ho in
theorem k89s (he:askE (okKin (a.getD []) (b.getD []) (c.getD []) (o.getD [])) false true 0 f [d,k]=0):FN (n+109) 89 [d9 (kn9 k a),d9 (kn9 k b),d9 (kn9 k c),d5 (kn5 k o),il f,il d,.fn 90 []]=some (0,[.d (dI (sureL k a b c o d f))]):=by
 rw [k89 n d f (.fn 90 []) (fun z=>decide (z=1)) (fun z=>d90 (n+105) z) (fun z=>d90 (n+106) z) (askE_days he).1 (good_kn k he)]
 unfold sureL famL
 rw [kn9_getD,kn9_getD,kn9_getD,kn5_getD]
omit ha hb hc ho in
theorem k89m (he:askE (okKin (a.getD []) (b.getD []) (c.getD []) (o.getD [])) false true 0 f [d,k]=0):FN (n+109) 89 [d9 (kn9 k a),d9 (kn9 k b),d9 (kn9 k c),d5 (kn5 k o),il f,il d,.fn 91 []]=some (0,[.d (dI (mayL k a b c o d f))]):=by
 rw [k89 n d f (.fn 91 []) (fun z=>decide (z≠0)) (fun z=>d91 (n+105) z) (fun z=>d91 (n+106) z) (askE_days he).1 (good_kn k he)]
 unfold mayL famL
 rw [kn9_getD,kn9_getD,kn9_getD,kn5_getD]
set_option maxRecDepth 20000 in
theorem s32:FN (n+110) 32 [d9 a,d9 b,d9 c,d5 o,il f,il d,il k]=if askE (okKin (a.getD []) (b.getD []) (c.getD []) (o.getD [])) false true 0 f [d,k]=0 then some (0,[.d (dI (sureL k a b c o d f)),.d (il 0)]) else some (0,[.d (dI none),.d (il (askE (okKin (a.getD []) (b.getD []) (c.getD []) (o.getD [])) false true 0 f [d,k]))]):=by
 rw [F32]
 simp only [G32,r_call,s79,r_bnd0,r_ld0,r_lds,r_rows,r_slD,ask73 (n+99) 0 f d k a b c o ha hb hc ho false true]
 by_cases he:askE (okKin (a.getD []) (b.getD []) (c.getD []) (o.getD [])) false true 0 f [d,k]=0
 ·rw [if_pos he]
  have hp:∀ q:List D→Out,(RP (n+109)).ptrW 4 (dKin (kn9 k a) (kn9 k b) (kn9 k c) (kn5 k o)) q=q [d9 (kn9 k a),d9 (kn9 k b),d9 (kn9 k c),d5 (kn5 k o)]:=fun q=>r_ptrW _ 4 q rfl
  simp only [askR,he,if_true,r_bnd0,r_ld0,r_lds,r_liti,r_neq,ne_eq,not_true_eq_false,decide_false,r_cond,Bool.false_eq_true,if_false,hp,r_cell0,r_cells,r_fnD,k89s n f d k a b c o he,r_out]
 ·rw [if_neg he]
  simp only [askR,if_neg he,r_bnd0,r_ld0,r_lds,r_liti,r_neq,r_cond]
  rw [if_pos (by simpa using he)]
  simp [dI,dSl]
set_option maxRecDepth 20000 in
theorem s29:FN (n+110) 29 [d9 a,d9 b,d9 c,d5 o,il f,il d,il k]=if askE (okKin (a.getD []) (b.getD []) (c.getD []) (o.getD [])) false true 0 f [d,k]=0 then some (0,[.d (il (((sureL k a b c o d f).getD []).length:Int)),.d (il (((mayL k a b c o d f).getD []).length:Int)),.d (il 0)]) else some (0,[.d (il 0),.d (il 0),.d (il (askE (okKin (a.getD []) (b.getD []) (c.getD []) (o.getD [])) false true 0 f [d,k]))]):=by
 rw [F29]
 simp only [G29,r_call,s79,r_bnd0,r_ld0,r_lds,r_rows,r_slD,ask73 (n+99) 0 f d k a b c o ha hb hc ho false true]
 by_cases he:askE (okKin (a.getD []) (b.getD []) (c.getD []) (o.getD [])) false true 0 f [d,k]=0
 ·rw [if_pos he]
  have hp:∀ q:List D→Out,(RP (n+109)).ptrW 4 (dKin (kn9 k a) (kn9 k b) (kn9 k c) (kn5 k o)) q=q [d9 (kn9 k a),d9 (kn9 k b),d9 (kn9 k c),d5 (kn5 k o)]:=fun q=>r_ptrW _ 4 q rfl
  simp only [askR,he,if_true,r_bnd0,r_ld0,r_lds,r_liti,r_neq,ne_eq,not_true_eq_false,decide_false,r_cond,Bool.false_eq_true,if_false,hp,r_cell0,r_cells,r_fnD,k89s n f d k a b c o he,k89m n f d k a b c o he,lenI,r_out]
 ·rw [if_neg he]
  simp only [askR,if_neg he,r_bnd0,r_ld0,r_lds,r_liti,r_neq,r_cond]
  rw [if_pos (by simpa using he)]
  simp
end
end Go.VE
namespace Go.VE
open Go.RowKit Go.Proofs
def wo9 (s:Int) (l:List E9):List E9:=l.filter fun e=>!decide (e.src=s)
def wo5 (s:Int) (l:List E5):List E5:=l.filter fun e=>!decide (e.src=s)
def wk9 (s:Int) (o:Option (List E9)):Option (List E9):=o.map (wo9 s)
def wk5 (s:Int) (o:Option (List E5)):Option (List E5):=o.map (wo5 s)
theorem wk9_none (s:Int):wk9 s none=none:=rfl
theorem wk5_none (s:Int):wk5 s none=none:=rfl
theorem wk9_getD (s:Int) (o:Option (List E9)):(wk9 s o).getD []=wo9 s (o.getD []):=by cases o<;>rfl
theorem wk5_getD (s:Int) (o:Option (List E5)):(wk5 s o).getD []=wo5 s (o.getD []):=by cases o<;>rfl
theorem len_wo9 (s:Int) (l:List E9):(wo9 s l).length≤l.length:=List.length_filter_le _ _
theorem len_wo5 (s:Int) (l:List E5):(wo5 s l).length≤l.length:=List.length_filter_le _ _
theorem mem_wo9 {s:Int} {l:List E9} {e:E9} (h:e∈wo9 s l):e∈l:=(List.mem_filter.1 h).1
theorem GoodK.wo {a b c:List E9} {o:List E5} (h:GoodK a b c o) (s:Int):GoodK (wo9 s a) (wo9 s b) (wo9 s c) (wo5 s o) :=
 ⟨fun e he=>h.fam e (mem_wo9 he),fun e he=>h.less e (mem_wo9 he),fun e he=>h.by0 e (mem_wo9 he),Nat.le_trans (len_wo9 ..) h.la,Nat.le_trans (len_wo9 ..) h.lb,Nat.le_trans (len_wo9 ..) h.lc,Nat.le_trans (len_wo5 ..) h.lo⟩
theorem s98 (n:Nat) (e:E9) (s:Int):FN (n+1) 98 (r9 e++[il s])=some (0,[.d (bl (decide (e.src=s)))]):=by
 rw [r9]
 simp only [List.cons_append,List.nil_append]
 rw [F98]
 simp only [G98,r_eql,r_out]
theorem d98 (n:Nat) (e:E9) (s:Int):FD (n+1) (.fn 98 [.dp [il s] 0]) [.agg 9] (r9 e)=some (0,[.d (bl (decide (e.src=s)))]) :=
 FD_fn [.agg 9,.ptr 1] [.agg (r9 e)] (by decide) rfl (by kernel_rfl) rfl (by kernel_rfl) (s98 n e s)
theorem s100 (n:Nat) (e:E9) (s:Int):FN (n+1) 100 (r9 e++[il s])=some (0,[.d (bl (decide (e.src=s)))]):=by
 rw [r9]
 simp only [List.cons_append,List.nil_append]
 rw [F100]
 simp only [G100,r_eql,r_out]
theorem d100 (n:Nat) (e:E9) (s:Int):FD (n+1) (.fn 100 [.dp [il s] 0]) [.agg 9] (r9 e)=some (0,[.d (bl (decide (e.src=s)))]) :=
 FD_fn [.agg 9,.ptr 1] [.agg (r9 e)] (by decide) rfl (by kernel_rfl) rfl (by kernel_rfl) (s100 n e s)
theorem s102 (n:Nat) (e:E9) (s:Int):FN (n+1) 102 (r9 e++[il s])=some (0,[.d (bl (decide (e.src=s)))]):=by
 rw [r9]
 simp only [List.cons_append,List.nil_append]
 rw [F102]
 simp only [G102,r_eql,r_out]
theorem d102 (n:Nat) (e:E9) (s:Int):FD (n+1) (.fn 102 [.dp [il s] 0]) [.agg 9] (r9 e)=some (0,[.d (bl (decide (e.src=s)))]) :=
 FD_fn [.agg 9,.ptr 1] [.agg (r9 e)] (by decide) rfl (by kernel_rfl) rfl (by kernel_rfl) (s102 n e s)
theorem s104 (n:Nat) (e:E5) (s:Int):FN (n+1) 104 (r5 e++[il s])=some (0,[.d (bl (decide (e.src=s)))]):=by
 rw [r5]
 simp only [List.cons_append,List.nil_append]
 rw [F104]
 simp only [G104,r_eql,r_out]
theorem d104 (n:Nat) (e:E5) (s:Int):FD (n+1) (.fn 104 [.dp [il s] 0]) [.agg 5] (r5 e)=some (0,[.d (bl (decide (e.src=s)))]) :=
 FD_fn [.agg 5,.ptr 1] [.agg (r5 e)] (by decide) rfl (by kernel_rfl) rfl (by kernel_rfl) (s104 n e s)
theorem w1000097 (n:Nat) (s:Int) (l:List E9) (hl:l.length*72≤140737488351232):∃ rest:Rr,FN (n+3) 1000097 [.sl 9 (l.map r9),.fn 98 [.dp [il s] 0]]=some (0,[.d (d9 (wk9 s (some l))),.d (.sl 9 rest)]):=by
 obtain ⟨rest,h⟩:=s1000097 (n+1) (.fn 98 [.dp [il s] 0]) (fun e=>decide (e.src=s)) l (by omega) (fun e _=>d98 n e s) (fun e _=>d98 (n+1) e s)
 refine ⟨rest,h.trans ?_⟩
 simp only [d9,wk9,wo9,Option.map_some,dSl]
theorem w1000099 (n:Nat) (s:Int) (l:List E9) (hl:l.length*72≤140737488351232):∃ rest:Rr,FN (n+3) 1000099 [.sl 9 (l.map r9),.fn 100 [.dp [il s] 0]]=some (0,[.d (d9 (wk9 s (some l))),.d (.sl 9 rest)]):=by
 obtain ⟨rest,h⟩:=s1000099 (n+1) (.fn 100 [.dp [il s] 0]) (fun e=>decide (e.src=s)) l (by omega) (fun e _=>d100 n e s) (fun e _=>d100 (n+1) e s)
 refine ⟨rest,h.trans ?_⟩
 simp only [d9,wk9,wo9,Option.map_some,dSl]
theorem w1000101 (n:Nat) (s:Int) (l:List E9) (hl:l.length*72≤140737488351232):∃ rest:Rr,FN (n+3) 1000101 [.sl 9 (l.map r9),.fn 102 [.dp [il s] 0]]=some (0,[.d (d9 (wk9 s (some l))),.d (.sl 9 rest)]):=by
 obtain ⟨rest,h⟩:=s1000101 (n+1) (.fn 102 [.dp [il s] 0]) (fun e=>decide (e.src=s)) l (by omega) (fun e _=>d102 n e s) (fun e _=>d102 (n+1) e s)
 refine ⟨rest,h.trans ?_⟩
 simp only [d9,wk9,wo9,Option.map_some,dSl]
theorem w1000103 (n:Nat) (s:Int) (l:List E5) (hl:l.length*40≤140737488351232):∃ rest:Rr,FN (n+3) 1000103 [.sl 5 (l.map r5),.fn 104 [.dp [il s] 0]]=some (0,[.d (d5 (wk5 s (some l))),.d (.sl 5 rest)]):=by
 obtain ⟨rest,h⟩:=s1000103 (n+1) (.fn 104 [.dp [il s] 0]) (fun e=>decide (e.src=s)) l (by omega) (fun e _=>d104 n e s) (fun e _=>d104 (n+1) e s)
 refine ⟨rest,h.trans ?_⟩
 simp only [d5,wk5,wo5,Option.map_some,dSl]
theorem if2 {α:Type} (p q:Prop) [Decidable p] [Decidable q] (x y:α):(if p then (if q then x else y) else y)=if p∧q then x else y:=by
 by_cases h1:p<;>by_cases h2:q<;>simp [h1,h2]
theorem if3 {α:Type} (p q r:Prop) [Decidable p] [Decidable q] [Decidable r] (x y:α):(if p then (if q then (if r then x else y) else y) else y)=if p∧q∧r then x else y:=by
 by_cases h1:p<;>by_cases h2:q<;>by_cases h3:r<;>simp [h1,h2,h3]
theorem if4 {α:Type} (p q r s:Prop) [Decidable p] [Decidable q] [Decidable r] [Decidable s] (x y:α):(if p then (if q then (if r then (if s then x else y) else y) else y) else y)=if p∧q∧r∧s then x else y:=by
 by_cases h1:p<;>by_cases h2:q<;>by_cases h3:r<;>by_cases h4:s<;>simp [h1,h2,h3,h4]
def noneHas (s:Int) (a b c:List E9) (o:List E5):Prop:=((wo9 s a).length:Int)=a.length∧((wo9 s b).length:Int)=b.length∧((wo9 s c).length:Int)=c.length∧((wo5 s o).length:Int)=o.length
instance (s:Int) (a b c:List E9) (o:List E5):Decidable (noneHas s a b c o):=by unfold noneHas;infer_instance
def lessF (s k:Int) (a b c:Option (List E9)) (o:Option (List E5)) (d:Int):Int→List Int:=famP (cnt9 k (wo9 s (a.getD []))) (cnt9 k (wo9 s (b.getD []))) (cnt9 k (wo9 s (c.getD []))) (cnt5 k (wo5 s (o.getD []))) d
def movL (s k:Int) (a b c:Option (List E9)) (o:Option (List E5)) (d:Int):Option (List Int):=(nzO (persL (a.getD []))).map (List.filter (difB (fk k a b c o d) (lessF s k a b c o d)))
theorem fo_less (s k:Int) (a b c:Option (List E9)) (o:Option (List E5)) (d:Int):fo (kn9 k (wk9 s a)) (kn9 k (wk9 s b)) (kn9 k (wk9 s c)) (kn5 k (wk5 s o)) d=lessF s k a b c o d:=by
 funext p;unfold fo lessF;rw [kn9_getD,kn9_getD,kn9_getD,kn5_getD,wk9_getD,wk9_getD,wk9_getD,wk5_getD]
set_option maxRecDepth 20000 in
set_option maxHeartbeats 4000000 in
theorem s39 (n:Nat) (s d k:Int) (a b c:Option (List E9)) (o:Option (List E5)) (ha:(a.getD []).length*72≤140737488351232) (hb:(b.getD []).length*72≤140737488351232) (hc:(c.getD []).length*72≤140737488351232) (ho:(o.getD []).length*40≤140737488351232) :
  FN (n+109) 39 [d9 a,d9 b,d9 c,d5 o,il s,il d,il k]=if askE (okKin (a.getD []) (b.getD []) (c.getD []) (o.getD [])) false false 0 0 [d,k]=0 then (if noneHas s (a.getD []) (b.getD []) (c.getD []) (o.getD []) then some (0,[.d (dI none),.d (il 3)]) else some (0,[.d (dI (movL s k a b c o d)),.d (il 0)])) else some (0,[.d (dI none),.d (il (askE (okKin (a.getD []) (b.getD []) (c.getD []) (o.getD [])) false false 0 0 [d,k]))]):=by
 rw [F39]
 have h73:=ask73 (n+98) 0 0 d k a b c o ha hb hc ho false false
 by_cases he:askE (okKin (a.getD []) (b.getD []) (c.getD []) (o.getD [])) false false 0 0 [d,k]=0
 ·rw [if_pos he]
  have g:=good_kn k he
  have gw:GoodK ((kn9 k (wk9 s a)).getD []) ((kn9 k (wk9 s b)).getD []) ((kn9 k (wk9 s c)).getD []) ((kn5 k (wk5 s o)).getD []):=by
   rw [kn9_getD,kn9_getD,kn9_getD,kn5_getD,wk9_getD,wk9_getD,wk9_getD,wk5_getD]
   exact ((good_of (askE_ok he)).wo s).cnt k
  have hla:=(okKin_len (askE_ok he)).1
  have h93:=k93 n a (d9 b) (d9 c) (d5 o) d (by omega) (askE_days he).1 g gw
  rw [fo_kn,fo_less] at h93
  have h94:=s94 (n+103) k (wk9 s a) (wk9 s b) (wk9 s c) (wk5 s o) (by rw [wk9_getD];have:=len_wo9 s (a.getD []);omega) (by rw [wk9_getD];have:=len_wo9 s (b.getD []);omega) (by rw [wk9_getD];have:=len_wo9 s (c.getD []);omega) (by rw [wk5_getD];have:=len_wo5 s (o.getD []);omega)
  have hp:∀ (a b c:Option (List E9)) (o:Option (List E5)) (q:List D→Out),(RP (n+108)).ptrW 4 (dKin a b c o) q=q [d9 a,d9 b,d9 c,d5 o]:=fun a b c o q=>r_ptrW _ 4 q rfl
  have hx:(nzO (persL (a.getD []))).map (List.filter (difB (fk k a b c o d) (lessF s k a b c o d)))=movL s k a b c o d:=rfl
  rw [hx] at h93
  generalize movL s k a b c o d=M at h93 ⊢
  have h96:=s96 (n+106) a b c o ha hb hc ho
  have hN:noneHas s (a.getD []) (b.getD []) (c.getD []) (o.getD [])=((((wk9 s a).getD []).length:Int)=(a.getD []).length∧(((wk9 s b).getD []).length:Int)=(b.getD []).length∧(((wk9 s c).getD []).length:Int)=(c.getD []).length∧(((wk5 s o).getD []).length:Int)=(o.getD []).length):=by
   rw [wk9_getD,wk9_getD,wk9_getD,wk5_getD];rfl
  simp only [hN]
  clear hN hx
  simp only [r_liti,r_litb,G39,r_call,r_rows,r_slD,h73,askR,he,if_true,r_bnd0,r_ld0,r_lds,r_neq,ne_eq,not_true_eq_false,decide_false,r_cond,Bool.false_eq_true,if_false,h96]
  clear h73 he g gw hla
  obtain ⟨_,ka⟩:=sk (w1000097 (n+105) s)
  obtain ⟨_,kb⟩:=sk (w1000099 (n+105) s)
  obtain ⟨_,kc⟩:=sk (w1000101 (n+105) s)
  obtain ⟨_,ko⟩:=sk (w1000103 (n+105) s)
  cases a<;>cases b<;>cases c<;>cases o<;>try simp only [wk9_none,wk5_none] at h94 h93
  all_goals
   try simp only [Option.getD_some] at ha hb hc ho
   simp only [Option.isSome_none,Option.isSome_some,ix96,↓r_bnd0,↓r_bndg,lv9,lv5]
   simp (disch:=first | exact ha | exact hb | exact hc | exact ho) only [r_call,s97n,s99n,s101n,s103n,ka,kb,kc,ko,wk9_none,wk5_none,r_bnd0,r_ld0,r_lds,r_lr0,r_lrs,r_len,r_eqN,if_true,r_out,r_fnD,r_dpD,r_rowsD,C39_0,len9,len5,r_eql,r_cond,decide_eq_true_eq,h94,hp,r_cell0,r_cells,h93,r_liti,r_litNil,true_and,and_true]
   first | rfl | exact if2 _ _ _ _ | exact if3 _ _ _ _ _ | exact if4 _ _ _ _ _ _
 ·rw [if_neg he]
  simp only [G39,r_call,r_liti,r_litb,r_rows,r_slD,h73,askR,if_neg he,r_bnd0,r_ld0,r_lds,r_neq,r_cond]
  rw [if_pos (by simpa using he)]
  simp [dI,dSl]
end Go.VE
namespace Go.VE
open Go.RowKit Go.Proofs
def kinA:Option (List E9):=some [⟨1,10,3,0,0,100,100,0,0⟩,⟨2,11,3,0,0,100,100,0,0⟩,⟨3,12,5,0,10,90,100,0,0⟩,⟨4,11,7,40,50,60,60,0,0⟩]
def kinB:Option (List E9):=some [⟨20,5,3,20,30,70,70,8,0⟩]
def kinC:Option (List E9):=some [⟨30,10,0,50,50,52,55,0,0⟩,⟨31,12,10,0,0,100,100,0,0⟩]
def kinO:Option (List E5):=some [⟨40,11,9,5,0⟩]
theorem s168 (n:Nat) (x:Int):FN (n+1) 168 [il x]=some (0,[.d (il x),.d (il x)]):=by rw [F168];simp [G168]
theorem s88 (n:Nat):FN (n+2) 88 []=some (0,[.d (d9 kinA),.d (d9 kinB),.d (d9 kinC),.d (d5 kinO)]):=by
 rw [F88]
 simp only [G88,r_call,r_liti,s168,r_bnd0,r_ld0,r_lds,r_natN,r_rows,r_len,List.length_cons,List.length_nil,r_eqN,if_true,r_seg0,r_slD,r_out,List.take_succ_cons,List.take_zero]
 simp [kinA,kinB,kinC,kinO,d9,d5,r9,r5,dSl]
theorem kA:(kinA.getD []).length*72≤140737488351232:=by decide
theorem kB:(kinB.getD []).length*72≤140737488351232:=by decide
theorem kC:(kinC.getD []).length*72≤140737488351232:=by decide
theorem kO:(kinO.getD []).length*40≤140737488351232:=by decide
theorem x1 (n:Nat):FN (n+110) 12 [d9 kinA,d9 kinB,d9 kinC,d5 kinO,il 11,il 45,il 9]=some (0,[.d (dI (some [3,7])),.d (il 0)]):=by
 rw [s12 (n+99) 11 45 9 kinA kinB kinC kinO kA kB kC kO,if_pos (by decide +kernel),show homesL 45 11 (cnt9 9 (kinA.getD []))=[3,7] by decide +kernel]
theorem x2 (n:Nat):FN (n+110) 14 [d9 kinA,d9 kinB,d9 kinC,d5 kinO,il 5,il 25,il 9]=some (0,[.d (dI (some [3,5])),.d (il 0)]):=by
 rw [s14 (n+5) 5 25 9 kinA kinB kinC kinO kA kB kC kO,if_pos (by decide +kernel),show leadsL 25 (cnt9 9 (kinB.getD [])) 5=[3,5] by decide +kernel]
theorem x3 (n:Nat):FN (n+110) 16 [d9 kinA,d9 kinB,d9 kinC,d5 kinO,il 12,il 51,il 9]=some (0,[.d (dI (some [0])),.d (il 0)]):=by
 rw [s16 (n+4) 12 51 9 kinA kinB kinC kinO kA kB kC kO,if_pos (by decide +kernel),show famL 9 kinA kinB kinC kinO 51 12=[0] by decide +kernel]
theorem x4 (n:Nat):FN (n+110) 18 [d9 kinA,d9 kinB,d9 kinC,d5 kinO,il 12,il 53,il 9]=some (0,[.d (il 2),.d (il 0)]):=by
 rw [s18 (n+3) 12 53 9 kinA kinB kinC kinO kA kB kC kO,if_pos (by decide +kernel),show gleansI (cnt9 9 (kinA.getD [])) (cnt9 9 (kinC.getD [])) (cnt5 9 (kinO.getD [])) 53 12=2 by decide +kernel]
theorem x5 (n:Nat):FN (n+110) 20 [d9 kinA,d9 kinB,d9 kinC,d5 kinO,il 11,il 7,il 55,il 9]=some (0,[.d (il 1),.d (il 0)]):=by
 rw [s20 (n+3) 11 7 55 9 kinA kinB kinC kinO kA kB kC kO,if_pos (by decide +kernel),show forI (famL 9 kinA kinB kinC kinO 55 11) 7=1 by decide +kernel]
theorem x6 (n:Nat):FN (n+110) 32 [d9 kinA,d9 kinB,d9 kinC,d5 kinO,il 3,il 35,il 9]=some (0,[.d (dI (some [10,11,12])),.d (il 0)]):=by
 rw [s32 n 3 35 9 kinA kinB kinC kinO kA kB kC kO,if_pos (by decide +kernel),show sureL 9 kinA kinB kinC kinO 35 3=some [10,11,12] by decide +kernel]
theorem x7 (n:Nat):FN (n+110) 29 [d9 kinA,d9 kinB,d9 kinC,d5 kinO,il 3,il 53,il 9]=some (0,[.d (il 0),.d (il 2),.d (il 0)]):=by
 rw [s29 n 3 53 9 kinA kinB kinC kinO kA kB kC kO,if_pos (by decide +kernel),show (((sureL 9 kinA kinB kinC kinO 53 3).getD []).length:Int)=0 by decide +kernel,show (((mayL 9 kinA kinB kinC kinO 53 3).getD []).length:Int)=2 by decide +kernel]
theorem x8 (n:Nat):FN (n+110) 39 [d9 kinA,d9 kinB,d9 kinC,d5 kinO,il 30,il 53,il 9]=some (0,[.d (dI (some [10,12])),.d (il 0)]):=by
 rw [s39 (n+1) 30 53 9 kinA kinB kinC kinO kA kB kC kO,if_pos (by decide +kernel),if_neg (by decide +kernel),show movL 30 9 kinA kinB kinC kinO 53=some [10,12] by decide +kernel]
theorem x9 (n:Nat):FN (n+110) 37 [d9 kinA,d9 kinB,d9 kinC,d5 kinO,il 10,il 4,il 9]=some (0,[.d (dI (some [11])),.d (il 0)]):=by
 rw [s37 (n+1) 10 4 9 kinA kinB kinC kinO kA kB kC kO,if_pos (by decide +kernel),show (nzO (persL (kinA.getD []))).map (List.filter (difB (fk 4 kinA kinB kinC kinO 10) (fk 9 kinA kinB kinC kinO 10)))=some [11] by decide +kernel]
theorem x10 (n:Nat):FN (n+110) 18 [d9 kinA,d9 kinB,d9 kinC,d5 kinO,il 11,il 10,il 9]=some (0,[.d (il 0),.d (il 0)]):=by
 rw [s18 (n+3) 11 10 9 kinA kinB kinC kinO kA kB kC kO,if_pos (by decide +kernel),show gleansI (cnt9 9 (kinA.getD [])) (cnt9 9 (kinC.getD [])) (cnt5 9 (kinO.getD [])) 10 11=0 by decide +kernel]
theorem same22 (n:Nat) (l:List Int) (hl:l.length≤100):FN (n+1) 22 [dI (some l),dI (some l)]=some (0,[.d (bl true)]):=by
 rw [s22 n (some l) (some l) (by simp only [Option.getD_some];omega)];simp
theorem a23 {Fn:Nat→List D→Out} {FnD:D→List Sh→List D→Out} {m:Nat} (A B C O L1 L2 L3 L6 L8 L9:D) (h88:Fn 88 []=some (0,[.d A,.d B,.d C,.d O]))
  (h1:Fn 12 [A,B,C,O,il 11,il 45,il 9]=some (0,[.d L1,.d (il 0)])) (h2:Fn 14 [A,B,C,O,il 5,il 25,il 9]=some (0,[.d L2,.d (il 0)])) (h3:Fn 16 [A,B,C,O,il 12,il 51,il 9]=some (0,[.d L3,.d (il 0)]))
  (h4:Fn 18 [A,B,C,O,il 12,il 53,il 9]=some (0,[.d (il 2),.d (il 0)])) (h5:Fn 20 [A,B,C,O,il 11,il 7,il 55,il 9]=some (0,[.d (il 1),.d (il 0)])) (h6:Fn 32 [A,B,C,O,il 3,il 35,il 9]=some (0,[.d L6,.d (il 0)]))
  (h7:Fn 29 [A,B,C,O,il 3,il 53,il 9]=some (0,[.d (il 0),.d (il 2),.d (il 0)])) (h8:Fn 39 [A,B,C,O,il 30,il 53,il 9]=some (0,[.d L8,.d (il 0)])) (h9:Fn 37 [A,B,C,O,il 10,il 4,il 9]=some (0,[.d L9,.d (il 0)]))
  (h10:Fn 18 [A,B,C,O,il 11,il 10,il 9]=some (0,[.d (il 0),.d (il 0)]))
  (q1:Fn 22 [L1,.sl 1 [[il 3],[il 7]]]=some (0,[.d (bl true)])) (q2:Fn 22 [L2,.sl 1 [[il 3],[il 5]]]=some (0,[.d (bl true)])) (q3:Fn 22 [L3,.sl 1 [[il 0]]]=some (0,[.d (bl true)])) (q6:Fn 22 [L6,.sl 1 [[il 10],[il 11],[il 12]]]=some (0,[.d (bl true)]))
  (q8:Fn 22 [L8,.sl 1 [[il 10],[il 12]]]=some (0,[.d (bl true)])) (q9:Fn 22 [L9,.sl 1 [[il 11]]]=some (0,[.d (bl true)])):G23 (real Fn FnD m)=some (0,[.d (bl true)]):=by
 simp only [G23,r_call,r_liti,h88,r_bnd0,r_ld0,r_lds,h1,h2,h3,h4,h5,h6,h7,h8,h9,h10,r_eql,decide_true,r_cond,if_true,r_rows,r_slD,r_eqs2,r_out,q1,q2,q3,q6,q8,q9,Bool.false_eq_true,if_false,and_self]
theorem s23 (n:Nat):FN (n+111) 23 []=some (0,[.d (bl true)]):=by
 rw [F23]
 exact a23 (d9 kinA) (d9 kinB) (d9 kinC) (d5 kinO) (dI (some [3,7])) (dI (some [3,5])) (dI (some [0])) (dI (some [10,11,12])) (dI (some [10,12])) (dI (some [11])) (s88 (n+108)) (x1 n) (x2 n) (x3 n) (x4 n) (x5 n) (x6 n) (x7 n) (x8 n) (x9 n) (x10 n)
  (same22 (n+109) [3,7] (by decide)) (same22 (n+109) [3,5] (by decide)) (same22 (n+109) [0] (by decide)) (same22 (n+109) [10,11,12] (by decide)) (same22 (n+109) [10,12] (by decide)) (same22 (n+109) [11] (by decide))
end Go.VE
namespace Go.VE
open Go.RowKit Go.Proofs
end Go.VE
namespace Go.VE
open Go.RowKit Go.Proofs
section
variable {a b c:List E9} {o:List E5} (n:Nat) (f d x3 p:Int) (hd:0≤d∧d≤4166) (g:GoodK a b c o) (P:List Int) (hP:P.length≤1000000)
include hd g hP
end
end Go.VE
namespace Go.VE
open Go.RowKit Go.Proofs
section
variable {a b c a' b' c':List E9} {o o':List E5} (n:Nat) (d:Int) (hd:0≤d∧d≤4166) (g:GoodK a b c o) (g':GoodK a' b' c' o') (P:List Int) (hP:P.length≤1000000)
include hd g g' hP
end
section
variable (n:Nat) (p f d k l:Int) (a b c:Option (List E9)) (o:Option (List E5)) (ha:(a.getD []).length*72≤140737488351232) (hb:(b.getD []).length*72≤140737488351232) (hc:(c.getD []).length*72≤140737488351232) (ho:(o.getD []).length*40≤140737488351232)
include ha hb hc ho
end
end Go.VE
namespace Go.VE
open Go.RowKit Go.Shelf Go.Proofs
set_option maxRecDepth 100000
def rho:Ren:=⟨fun x=>if x=21 then 159 else if x=27 then 212 else if x=28 then 213 else if x=35 then 217 else if x=39 then 220 else 0,fun x=>if x=22 then 30 else x,fun x=>x⟩
theorem lays21:Lays2.n21 Tryz.prog rho where
 mixed:=by kernel_rfl
 f21:=by kernel_rfl
 f27:=by kernel_rfl
 f28:=by kernel_rfl
 f35:=by kernel_rfl
 f39:=by kernel_rfl
 t0:=by kernel_rfl
 a0:=fun w=>by kernel_rfl
 z0:=fun w=>by kernel_rfl
 v0:=fun w=>by kernel_rfl
 t3:=by kernel_rfl
 a3:=fun w=>by kernel_rfl
 z3:=fun w=>by kernel_rfl
 v3:=fun w=>by kernel_rfl
 t4:=by kernel_rfl
 a4:=fun w=>by kernel_rfl
 z4:=fun w=>by kernel_rfl
 v4:=fun w=>by kernel_rfl
 t22:=by kernel_rfl
 a22:=fun w=>by kernel_rfl
 z22:=fun w=>by kernel_rfl
 v22:=fun w=>by kernel_rfl
 i3:=by kernel_rfl
theorem spOK:SpOK Tryz.prog (cf3 tb Tryz.prog):=by
 intro f p h
 by_cases hf:f=159
 ·subst hf
  have e:(cf3 tb Tryz.prog).sp 159=some (1,3,8):=by kernel_rfl
  rw [e] at h
  cases h
  exact insC_int lays21
 ·exfalso
  have e:(cf3 tb Tryz.prog).sp f=none:=by
   show spT f=none
   unfold spT
   split
   ·exact absurd rfl hf
   ·rfl
  rw [e] at h
  cases h
end Go.VE
namespace Go.VE
open Go.RowKit Go.Proofs Go.Proofs.YtobeabinccohlaaGreat
set_option maxRecDepth 100000
theorem mixP:Tryz.prog.follows .mixedOrders=true:=lays21.mixed
theorem FN_ok (n:Nat):FnOK Tryz.prog (cf3 tb Tryz.prog) (FN n):=FnT_ok mixP spOK n
theorem FN_okM (n:Nat):FmOK Tryz.prog (cf3 tb Tryz.prog) (FN n):=FnT_okM mixP spOK n
theorem own:ownKnob Tryz.prog.godebug=none:=by kernel_rfl
theorem laidOut:laidOutB Tryz.prog=true:=by kernel_rfl
theorem o3 {n:Nat} {ds:List D} (h:HasT Tryz.prog (n+1) 3 ds):∃ z,ds=[il z]∧-9223372036854775808≤z∧z≤9223372036854775807:=h.int Tryz.underlying3
theorem o47 {n:Nat} {ds:List D} (h:HasT Tryz.prog (n+2) 47 ds):∃ a b,ds=[il a,il b]:=by
 obtain ⟨a,b,rfl,h1,c,d,rfl,h2,rfl⟩:=h.struct Tryz.underlying47 rfl
 obtain ⟨x,rfl,_⟩:=o3 h1
 obtain ⟨y,rfl,_⟩:=o3 h2
 exact ⟨x,y,rfl⟩
theorem oE9 {n:Nat} {ds:List D} (h:HasAll (HasT Tryz.prog (n+2)) [3,3,3,47,47,3,3] ds):∃ e:E9,ds=r9 e:=by
 obtain ⟨a1,b1,rfl,h1,a2,b2,rfl,h2,a3,b3,rfl,h3,a4,b4,rfl,h4,a5,b5,rfl,h5,a6,b6,rfl,h6,a7,b7,rfl,h7,rfl⟩:=h
 obtain ⟨x1,rfl,_⟩:=o3 h1
 obtain ⟨x2,rfl,_⟩:=o3 h2
 obtain ⟨x3,rfl,_⟩:=o3 h3
 obtain ⟨y1,y2,rfl⟩:=o47 h4
 obtain ⟨z1,z2,rfl⟩:=o47 h5
 obtain ⟨x6,rfl,_⟩:=o3 h6
 obtain ⟨x7,rfl,_⟩:=o3 h7
 exact ⟨⟨x1,x2,x3,y1,y2,z1,z2,x6,x7⟩,rfl⟩
theorem o82 {n:Nat} {ds:List D} (h:HasT Tryz.prog (n+3) 82 ds):∃ e:E5,ds=r5 e:=by
 obtain ⟨a1,b1,rfl,h1,a2,b2,rfl,h2,a3,b3,rfl,h3,a4,b4,rfl,h4,a5,b5,rfl,h5,rfl⟩:=h.struct Tryz.underlying82 rfl
 obtain ⟨x1,rfl,_⟩:=o3 h1
 obtain ⟨x2,rfl,_⟩:=o3 h2
 obtain ⟨x3,rfl,_⟩:=o3 h3
 obtain ⟨x4,rfl,_⟩:=o3 h4
 obtain ⟨x5,rfl,_⟩:=o3 h5
 exact ⟨⟨x1,x2,x3,x4,x5⟩,rfl⟩
theorem opt_rows {α:Type} {f:α→List D}:∀ {o:Option Rr},(∀ r∈o.getD [],∃ c,r=f c)→∃ q:Option (List α),o=q.map (·.map f)
 | none,_=>⟨none,rfl⟩
 | some rows,h=>by
  obtain ⟨l,hl⟩:=rows_map (f:=f) (rows:=rows) h
  exact ⟨some l,by rw [hl];rfl⟩
theorem oList9 {n t e:Nat} {ds:List D} (hu:Tryz.prog.underlying t=some (.slice e)) (hc:Tryz.prog.cellsOf e=9) (hb:Tryz.prog.bytesOf e=72) (he:∀ r,HasT Tryz.prog (n+3) e r→∃ x:E9,r=r9 x) (h:HasT Tryz.prog (n+4) t ds):∃ o:Option (List E9),ds=[d9 o]∧(o.getD []).length*72≤140737488351232:=by
 obtain ⟨o,rfl,h1,h2⟩:=h.sl hu hc hb
 obtain ⟨q,rfl⟩:=opt_rows (f:=r9) fun r hr=>he r (h2 r hr)
 refine ⟨q,rfl,?_⟩
 cases q with
 | none=>simp
 | some l=>simpa using h1
theorem o50 {n:Nat} {r:List D} (h:HasT Tryz.prog (n+3) 50 r):∃ x:E9,r=r9 x:=oE9 (h.struct Tryz.underlying50 rfl)
theorem o52 {n:Nat} {r:List D} (h:HasT Tryz.prog (n+3) 52 r):∃ x:E9,r=r9 x:=oE9 (h.struct Tryz.underlying52 rfl)
theorem o54 {n:Nat} {r:List D} (h:HasT Tryz.prog (n+3) 54 r):∃ x:E9,r=r9 x:=oE9 (h.struct Tryz.underlying54 rfl)
theorem o25 {n:Nat} {ds:List D} (h:HasT Tryz.prog (n+4) 25 ds):∃ o:Option (List E5),ds=[d5 o]∧(o.getD []).length*40≤140737488351232:=by
 obtain ⟨o,rfl,h1,h2⟩:=h.sl (c:=5) (b:=40) Tryz.underlying25 (by kernel_rfl) (by kernel_rfl)
 obtain ⟨q,rfl⟩:=opt_rows (f:=r5) fun r hr=>o82 (h2 r hr)
 refine ⟨q,rfl,?_⟩
 cases q with
 | none=>simp
 | some l=>simpa using h1
theorem o27 {n:Nat} {ds:List D} (h:HasT Tryz.prog (n+5) 27 ds):∃ (a b c:Option (List E9)) (o:Option (List E5)),ds=[d9 a,d9 b,d9 c,d5 o]∧(a.getD []).length*72≤140737488351232∧(b.getD []).length*72≤140737488351232∧(c.getD []).length*72≤140737488351232∧(o.getD []).length*40≤140737488351232:=by
 obtain ⟨a1,b1,rfl,h1,a2,b2,rfl,h2,a3,b3,rfl,h3,a4,b4,rfl,h4,rfl⟩:=h.struct Tryz.underlying27 rfl
 obtain ⟨a,rfl,ha⟩:=oList9 Tryz.underlying22 (by kernel_rfl) (by kernel_rfl) (fun r hr=>o50 hr) h1
 obtain ⟨b,rfl,hb⟩:=oList9 Tryz.underlying23 (by kernel_rfl) (by kernel_rfl) (fun r hr=>o52 hr) h2
 obtain ⟨c,rfl,hc⟩:=oList9 Tryz.underlying24 (by kernel_rfl) (by kernel_rfl) (fun r hr=>o54 hr) h3
 obtain ⟨o,rfl,ho⟩:=o25 h4
 exact ⟨a,b,c,o,rfl,ha,hb,hc,ho⟩
theorem o29 {n:Nat} {ds:List D} (h:HasT Tryz.prog (n+2) 29 ds):∃ p f d k,ds=[il p,il f,il d,il k]:=by
 obtain ⟨a1,b1,rfl,h1,a2,b2,rfl,h2,a3,b3,rfl,h3,a4,b4,rfl,h4,rfl⟩:=h.struct Tryz.underlying29 rfl
 obtain ⟨x1,rfl,_⟩:=o3 h1
 obtain ⟨x2,rfl,_⟩:=o3 h2
 obtain ⟨x3,rfl,_⟩:=o3 h3
 obtain ⟨x4,rfl,_⟩:=o3 h4
 exact ⟨x1,x2,x3,x4,rfl⟩
theorem askE_per (ok:Bool) (f:Int) (ds:List Int):askE ok true true 1 f ds=askE ok false true 0 f ds:=by
 unfold askE;simp
end Go.VE
