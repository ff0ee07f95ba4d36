/- Bell: Recopy, by the program. -/
import Derived.Test.YtaagapoglhndjaaDoorMg2
import Derived.Test.YtaagapoglhndjaaDoorChecked
import Derived.Test.YtaagapoglhndjaaDoorMh
import Derived.KernelRfl
import Derived.WalkKit
import Derived.LoopN
import Derived.Shelf.Strings.BuilderF
import Derived.Test.YtaagapoglhndjaaDoorMt
import Derived.Test.YtaagapoglhndjaaDoorMg0
namespace Go.VE
open Go.RowKit Go.Proofs
set_option maxRecDepth 100000
theorem fstep_no {me P:Int} {f g:Fld} {s:Stk} (h:fstep me P f s=some g) (hf:∀ o:Nat,f.no o≠0→P.toNat.testBit o=true):∀ o:Nat,g.no o≠0→P.toNat.testBit o=true:=by
 unfold fstep at h
 repeat' split at h
 all_goals first
  | (cases h;done)
  | (simp only [Option.some.injEq] at h;subst h;exact hf)
  | skip
 ·rename_i hc
  simp only [Option.some.injEq] at h
  subst h
  intro o ho
  simp only [upN] at ho
  by_cases he:o=s.2.2.1.toNat
  ·have hp:hasP P s.2.2.1=true:=by
    cases hh:hasP P s.2.2.1 with
    | true=>rfl
    | false=>simp [hh] at hc
   have:=par_iff.1 (hasP_par hp)
   rw [he,← hasP_nat (P:=P) (par_lt (hasP_par hp)),Int.toNat_of_nonneg this.1]
   exact hp
  ·rw [if_neg (fun h=>he h.symm)] at ho
   exact hf o ho
theorem fread_no (me:Int) (b:Brd):∀ (ss:List Stk) (f:Fld),(∀ o:Nat,f.no o≠0→b.2.toNat.testBit o=true)→∀ o:Nat,(fread me b f ss).1.no o≠0→b.2.toNat.testBit o=true
 | [],_,hf=>hf
 | s::r,f,hf=>by
  unfold fread
  split
  ·cases hs:fstep me b.2 f s with
   | none=>exact hf
   | some g=>exact fread_no me b r g (fstep_no hs hf)
  ·exact fread_no me b r f hf
theorem l53_5 (n:Nat) {me h:Int} (b:Option (List Brd)) {ss:List Stk} (h1:okP me (b.getD []) ss h=true) (R:Rr) (n1 n2:Nat) (ch z1 z2:D) :
  loopR [L53_5 (RP (n+3))] M0 0 [.d (dB b),.d (il (b.getD []).length),.d (il 0),.m (mapM (b.getD []) (pg me (b.getD []) ss)),.r R,.r [],.n 0,.d (il me),.d (dB b),.n n1,.n n2,.d ch,.d z1,.d z2] =
   some (0,[.m (mapM (b.getD []) (pg me (b.getD []) ss)),.r R,.r ((recX me (b.getD []) ss).map rS),.n (recX me (b.getD []) ss).length,.d (il me),.d (dB b),.n n1,.n n2,.d ch,.d z1,.d z2]):=by
 have hb4:=okP_b4 h1
 have hr:=okP_rise h1
 have h66:=okP_six h1
 have:=range_loop (β:=List Stk) (b.getD []) (by omega) (L53_5 (RP (n+3))) (fun i g=>[.d (dB b),.d (il (b.getD []).length),.d (il i),.m (mapM (b.getD []) (pg me (b.getD []) ss)),.r R,.r (g.map rS),.n g.length,.d (il me),.d (dB b),.n n1,.n n2,.d ch,.d z1,.d z2])
  (fun i g=>g.length≤20*i)
  (fun i r g=>some (0,[.m (mapM (b.getD []) (pg me (b.getD []) ss)),.r R,.r ((g++recX me r ss).map rS),.n (g++recX me r ss).length,.d (il me),.d (dB b),.n n1,.n n2,.d ch,.d z1,.d z2])) ?_ ?_ M0 [] (by simp) (M0_big (by omega))
 ·simpa using this
 ·intro g k _
  simp [L53_5,recX]
 ·intro i e r g k hi hd hlt hw hg ih
  have hlt':(i:Int) < ((b.getD []).length:Int):=by omega
  have h6:=h66 e (List.mem_of_getElem? hi)
  have hx:=bix_e hr hi
  have hff:fl me (b.getD []) ss i=(fread me e fd0 ss).1:=by
   simp only [fl]
   rw [getD_at _ hi]
  have hf:(pg me (b.getD []) ss)[i]?=some (fread me e fd0 ss).1:=by rw [pg_at h1 hlt,hff]
  have hno:=fread_no me e ss fd0 (by simp [fd0])
  have hask:=fread_ask me e ss fd0 (by simp [fd0])
  have hal:=anewF_len me e.1 (fread me e fd0 ss).1
  have ih0:=ih (g++anewF me e.1 (fread me e fd0 ss).1) (by rw [List.length_append];omega)
  simp only [recX,List.flatMap_cons] at ih0 ⊢
  rw [←List.append_assoc,← ih0]
  unfold anewF
  generalize (fread me e fd0 ss).1=f at hf hno hask
  have a1:=flt_len 0 (isDirty me f) (talK e.1 f)
  have a2:=flt_len 0 (isClean me f) (talK e.1 f)
  have a3:=flt_len 0 (isAsked me f) (askK e.1 f)
  change (dirtyL me e.1 f 0).length≤6 at a1
  change (cleanL me e.1 f 0).length≤6 at a2
  change (askedL me e.1 f 0).length≤6 at a3
  have fit1:=fitC (a:=(g++dirtyL me e.1 f 0).length) (b:=1) (c:=32) (by rw [List.length_append];omega) (by omega) (by omega)
  simp only [L53_5,r_ld0,r_lds,r_lm0,r_lms,r_ln0,r_lns,r_lr0,r_lrs,r_lss,hlt',decide_true,r_cond,if_true,rowB hi,cB0,cB1,r_findM,hx,r_loop,r_liti,r_natN]
  rw [l53_1 n me hx hf h6 hno R i 0 g.length n1 n2 (il e.1) (il e.2) (dB b) ch z1 z2 g (by omega)]
  simp only [r_bnd0,r_ld0,r_lds,r_lm0,r_lms,r_ln0,r_lns,r_lr0,r_lrs,r_mrowsM,r_row20 hf,r_addN,r_leN,Nat.zero_add,Nat.reduceAdd,Nat.reduceLeDiff,if_true,r_cellN,get_wants,r_neq,r_cond]
  by_cases h0:f.wants=0
  ·simp only [h0,ne_eq,not_true,decide_false,Bool.false_eq_true,if_false,r_out,r_bnd0,r_ld0,r_lds,r_lm0,r_lms,r_ln0,r_lns,r_lr0,r_lrs,List.nil_append]
   rw [l53_2 n me hx hf h6 hno R _ rfl i 0 _ n1 n2 (il e.1) (il e.2) (dB b) ch z1 z2 (g++dirtyL me e.1 f 0) (by simp only [List.length_append];omega)]
   simp only [r_bnd0,r_ld0,r_lds,r_lm0,r_lms,r_ln0,r_lns,r_lr0,r_lrs]
   rw [l53_3 n me hx hf h6 hask R n1 n2 z1 z2 (dB b) ch (il e.2) (il e.2) ((g++dirtyL me e.1 f 0)++cleanL me e.1 f 0) (by simp only [List.length_append];omega)]
   have g4l:(((g++dirtyL me e.1 f 0)++cleanL me e.1 f 0)++askedL me e.1 f 0).length≤1000:=by simp only [List.length_append];omega
   generalize hg4:(((g++dirtyL me e.1 f 0)++cleanL me e.1 f 0)++askedL me e.1 f 0)=G at g4l
   have fit2:=fitC (a:=G.length) (b:=1) (c:=32) (by omega) (by omega) (by omega)
   have hN:G.length≤9223372036854775806:=by omega
   rcases Bool.eq_false_or_eq_true f.opn with ho | ho
   all_goals
    simp only [ho,Bool.false_eq_true,if_false,r_bnd0,r_ld0,r_lds,r_lm0,r_lms,r_ln0,r_lns,r_lr0,r_lrs,r_mrowsM,r_row20 hf,Nat.zero_add,Nat.reduceAdd,Nat.reduceLeDiff,if_true,get_opn,r_cond,r_add,hw,r_rows,r_len,List.length_cons,List.length_nil,List.length_map,r_eqN,r_seg0,List.take,r_fitsg,fit2.1,hN,and_self,r_app,cast1]
    subst hg4
    simp [rS,Nat.add_assoc,Nat.add_comm,Nat.add_left_comm]
  ·simp only [h0,ne_eq,not_false_eq_true,decide_true,if_true,r_rows,r_len,List.length_cons,List.length_nil,List.length_map,r_eqN,Nat.zero_add,r_seg0,List.take,r_fitsg,fit1,and_self,r_app,r_out,r_bnd0,r_ld0,r_lds,r_lm0,r_lms,r_ln0,r_lns,r_lr0,r_lrs]
   have hap:(g++dirtyL me e.1 f 0).map rS++[[il 2,il e.1,il 0,il f.wants]]=(g++dirtyL me e.1 f 0++[((2,e.1,0,f.wants):Stk)]).map rS:=by simp [rS]
   have hln:(g++dirtyL me e.1 f 0).length+1=(g++dirtyL me e.1 f 0++[((2,e.1,0,f.wants):Stk)]).length:=by simp [Nat.add_assoc]
   rw [hap,hln]
   rw [l53_2 n me hx hf h6 hno R _ rfl i 0 _ n1 n2 (il e.1) (il e.2) (dB b) ch z1 z2 (g++dirtyL me e.1 f 0++[(2,e.1,0,f.wants)]) (by simp only [List.length_append,List.length_cons,List.length_nil];omega)]
   simp only [r_bnd0,r_ld0,r_lds,r_lm0,r_lms,r_ln0,r_lns,r_lr0,r_lrs]
   rw [l53_3 n me hx hf h6 hask R n1 n2 z1 z2 (dB b) ch (il e.2) (il e.2) ((g++dirtyL me e.1 f 0++[(2,e.1,0,f.wants)])++cleanL me e.1 f 0) (by simp only [List.length_append,List.length_cons,List.length_nil];omega)]
   have g4l:(((g++dirtyL me e.1 f 0++[(2,e.1,0,f.wants)])++cleanL me e.1 f 0)++askedL me e.1 f 0).length≤1000:=by simp only [List.length_append,List.length_cons,List.length_nil];omega
   generalize hg4:(((g++dirtyL me e.1 f 0++[(2,e.1,0,f.wants)])++cleanL me e.1 f 0)++askedL me e.1 f 0)=G at g4l
   have fit2:=fitC (a:=G.length) (b:=1) (c:=32) (by omega) (by omega) (by omega)
   have hN:G.length≤9223372036854775806:=by omega
   rcases Bool.eq_false_or_eq_true f.opn with ho | ho
   all_goals
    simp only [ho,Bool.false_eq_true,if_false,r_bnd0,r_ld0,r_lds,r_lm0,r_lms,r_ln0,r_lns,r_lr0,r_lrs,r_mrowsM,r_row20 hf,Nat.zero_add,Nat.reduceAdd,Nat.reduceLeDiff,if_true,get_opn,r_cond,r_add,hw,List.length_map,fit2.1,hN,and_self,cast1]
    subst hg4
    simp [rS,Nat.add_assoc,Nat.add_comm,Nat.add_left_comm]
theorem eL53:@L53_0=@L43_0:=rfl
theorem s53 (n:Nat) (me h:Int) (b:Option (List Brd)) (o:Option (List Stk)) (hl:(o.getD []).length≤4611686018427387904) (hb:(b.getD []).length≤4611686018427387904) :
  FN (n+6) 53 [il me,dB b,dS o,il h]=if okP me (b.getD []) (o.getD []) h=true then some (0,[.d (il me),.d (dB b),.d (dS (opN (recX me (b.getD []) (o.getD [])))),.d (il (recX me (b.getD []) (o.getD [])).length),.d (il 0)]) else noW 92:=by
 rw [F53]
 have hop:opn25 (RP (n+5)) (il me) (dB b) (dS o) (il h)=_:=op25 (n+1) me h b o hl hb
 unfold G53
 rw [eL53]
 refine bnd_eq hop ?_
 by_cases h1:okP me (b.getD []) (o.getD []) h=true
 ·simp only [h1,if_true,r_bnd1,r_ld0,r_lds,r_lm0,r_lms,r_ln0,r_lns,r_lr0,r_lrs,r_liti,r_neq,ne_eq,not_true,decide_false,r_cond,Bool.false_eq_true,if_false,lenL,r_loop,r_rows,r_natN]
  rw [l53_5 (n+2) b h1]
  simp only [r_bnd0,r_ld0,r_lds,r_ln0,r_lns,r_lr0,r_lrs,r_len,List.length_map,r_eqN,if_true,r_slN,r_natD,r_out]
 ·simp [h1,noW,nilS]
end Go.VE
namespace Go.VE
open Go.RowKit Go.Proofs
set_option maxRecDepth 100000
abbrev W4:=Int×Option (List Brd)×Option (List Stk)×Int
def rWt (w:W4):List D:=[il w.1,dB w.2.1,dS w.2.2.1,il w.2.2.2]
def rI (x:Int):List D:=[il x]
abbrev dW (o:Option (List W4)):D:=dL 4 rWt o
def okWt (w:W4):Bool:=okP w.1 (w.2.1.getD []) (w.2.2.1.getD []) w.2.2.2
def smallW (w:W4):Prop:=(w.2.1.getD []).length≤4611686018427387904∧(w.2.2.1.getD []).length≤4611686018427387904
def chk:Option Int→List W4→Bool
 | _,[]=>true
 | q,w::r=>okWt w&&(ltO q w.1&&chk (some w.1) r)
def prevW (l:List W4):Nat→Option Int
 | 0=>none
 | i+1=>(l[i]?).map (·.1)
def opnW (fld:Int) (w:W4):Bool:=match bix fld (w.2.1.getD []) with
 | none=>false
 | some j=>(fl w.1 (w.2.1.getD []) (w.2.2.1.getD []) j).opn
def whoL (fld:Int) (l:List W4):List Int:=(l.filter (opnW fld)).map (·.1)
def whoR (l:List W4) (fld:Int):Out:=if chk none l=true then (if 6 < l.length then badN 98 else if inn fld 1 99=true then some (0,[.d (dL 1 rI (opN (whoL fld l))),.d (il 0)]) else badN 94) else badN 98
section
variable {Fn:Nat→List D→Out} {FnD:D→List Sh→List D→Out} {m:Nat}
theorem rowW {o:Option (List W4)} {i:Nat} {c:W4} (h:(o.getD [])[i]?=some c) (k:List D→Out):(real Fn FnD m).rowD 4 (dW o) (il i) k=k (rWt c):=rowL h rfl k
theorem lenW (o:Option (List W4)) (k:D→Out):(real Fn FnD m).lenD (dW o) k=k (il (o.getD []).length):=lenL 4 rWt o k
theorem cW0 (w:W4):(real Fn FnD m).cell (rWt w) 0=il w.1:=rfl
theorem cW1 (w:W4):(real Fn FnD m).cell (rWt w) 1=dB w.2.1:=rfl
theorem cW2 (w:W4):(real Fn FnD m).cell (rWt w) 2=dS w.2.2.1:=rfl
theorem cW3 (w:W4):(real Fn FnD m).cell (rWt w) 3=il w.2.2.2:=rfl
end
theorem prev_at {l:List W4} {i:Nat} {w:W4} (h:l[i]?=some w):prevW l (i+1)=some w.1:=by simp [prevW,h]
theorem l48_0 (n:Nat) (o:Option (List W4)) (hl:(o.getD []).length≤4611686018427387904) (hs:∀ w∈o.getD [],smallW w) (fld:D) :
  loopR [L48_0 (RP (n+7))] M0 0 [.d (dW o),.d fld,.d (il 0)]=if chk none (o.getD [])=true then some (1,[.d (dW o),.d fld]) else some (0,[.d (il 98)]):=by
 have:=range_loop (β:=Unit) (o.getD []) hl (L48_0 (RP (n+7))) (fun i _=>[.d (dW o),.d fld,.d (il i)]) (fun _ _=>True)
  (fun i r _=>if chk (prevW (o.getD []) i) r=true then some (1,[.d (dW o),.d fld]) else some (0,[.d (il 98)])) ?_ ?_ M0 () trivial (M0_big hl)
 ·exact this
 ·intro _ k _
  simp [L48_0,lenW,chk]
 ·intro i w r _ k hi hd hlt hw _ ih
  have ih':=ih () trivial
  rw [cast1,prev_at hi] at ih'
  have hlt':(i:Int) < ((o.getD []).length:Int):=by omega
  have hsw:=hs w (List.mem_of_getElem? hi)
  have h15:=s15 n w.1 w.2.2.2 w.2.1 w.2.2.1 hsw.2 hsw.1
  rw [←okP_W] at h15
  simp only [L48_0,lenW,r_ld0,r_lds,r_liti,r_lss,hlt',decide_true,r_cond,if_true,rowW hi,cW0,cW1,cW2,cW3,r_call,h15,r_bnd0,r_neq,ite_ne _ 92 (by omega)]
  rw [chk]
  show (if (!okWt w)=true then _ else _)=_
  cases h1:okWt w with
  | false=>simp
  | true =>
   simp only [Bool.not_true,Bool.false_eq_true,if_false,Bool.true_and,r_gtr]
   cases i with
   | zero =>
    simp only [prevW,ltO,Bool.true_and,r_add,hw]
    simp only [Int.natCast_zero,Int.lt_irrefl,decide_false]
    simp only [Int.natCast_zero] at ih'
    exact ih'
   | succ i =>
    have hi1:i < (o.getD []).length:=by omega
    have hv:=List.getElem?_eq_getElem hi1
    have hp:=pred_nat (i:=i+1) (by omega) (by omega)
    simp only [show (0:Int) < ((i+1:Nat):Int) by omega,decide_true,r_sub,hp,Nat.add_sub_cancel,rowW hv,cW0,r_geq,prev_at hv,ltO]
    by_cases h2:(o.getD [])[i].1 < w.1
    ·simp only [h2,show ¬ ((o.getD [])[i].1≥w.1) by omega,decide_false,decide_true,Bool.true_and,r_add,hw]
     exact ih'
    ·simp [h2]
theorem l48_1 (n:Nat) (o:Option (List W4)) (hl:(o.getD []).length≤6) (hs:∀ w∈o.getD [],smallW w) (hok:∀ w∈o.getD [],okWt w=true) (fld:Int) :
  loopR [L48_1 (RP (n+8))] M0 0 [.d (dW o),.d (il fld),.n 0,.d (il 0),.r []]=some (0,[.n (whoL fld (o.getD [])).length,.r ((whoL fld (o.getD [])).map rI)]):=by
 have:=range_loop (β:=List Int) (o.getD []) (by omega) (L48_1 (RP (n+8))) (fun i g=>[.d (dW o),.d (il fld),.n g.length,.d (il i),.r (g.map rI)]) (fun i g=>g.length≤i)
  (fun i r g=>some (0,[.n (g++whoL fld r).length,.r ((g++whoL fld r).map rI)])) ?_ ?_ M0 [] (by simp) (M0_big (by omega))
 ·simpa using this
 ·intro g k _
  simp [L48_1,lenW,whoL]
 ·intro i w r g k hi hd hlt hw hg ih
  have hlt':(i:Int) < ((o.getD []).length:Int):=by omega
  have hsw:=hs w (List.mem_of_getElem? hi)
  have h1:okP w.1 (w.2.1.getD []) (w.2.2.1.getD []) w.2.2.2=true:=hok w (List.mem_of_getElem? hi)
  have h80:=s80 n w.1 w.2.2.2 w.2.1 w.2.2.1 fld hsw.2 hsw.1
  have hfit:=fitC (a:=g.length) (b:=1) (c:=8) (by omega) (by omega) (by omega)
  simp only [L48_1,lenW,r_ld0,r_lds,r_ln0,r_lns,r_lr0,r_lrs,r_liti,r_lss,hlt',decide_true,r_cond,if_true,rowW hi,cW0,cW1,cW2,cW3,r_call,h80,r_add,hw]
  unfold ofR
  simp only [h1,if_true]
  have hskip:opnW fld w=false→k 0 [.d (dW o),.d (il fld),.n g.length,.d (il ((i:Int)+1)),.r (g.map rI)]=some (0,[.n (g++whoL fld (w::r)).length,.r ((g++whoL fld (w::r)).map rI)]):=fun h=>by
   have ih0:=ih g (by omega)
   rw [cast1] at ih0
   rw [show whoL fld (w::r)=whoL fld r by simp [whoL,h],← ih0]
  cases hx:bix fld (w.2.1.getD []) with
  | none =>
   have hf:opnW fld w=false:=by simp [opnW,hx]
   simp only [bad21,z21,List.cons_append,List.nil_append,List.map_cons,List.map_nil,r_bnd0,r_ld0,r_lds,r_eql,show ((94:Int)=0)=False by simp,decide_false,r_cond,Bool.false_eq_true,if_false]
   exact hskip hf
  | some j =>
   simp only [r21,List.cons_append,List.nil_append,List.map_cons,List.map_nil,r_bnd0,r_ld0,r_lds,r_eql,decide_true,r_cond,if_true]
   have hj:opnW fld w=(fl w.1 (w.2.1.getD []) (w.2.2.1.getD []) j).opn:=by simp [opnW,hx]
   rw [←hj]
   cases ho:opnW fld w with
   | false =>
    simp only [Bool.false_eq_true,if_false]
    exact hskip ho
   | true =>
    have ih0:=ih (g++[w.1]) (by simp;omega)
    rw [cast1] at ih0
    rw [show whoL fld (w::r)=[w.1]++whoL fld r by simp [whoL,ho],← List.append_assoc,← ih0]
    simp only [if_true,r_rows,r_natN,r_len,List.length_cons,List.length_nil,List.length_map,List.length_append,r_eqN,Nat.zero_add,r_seg0,List.take,r_addN,r_fitsg,hfit,and_self,r_app,List.map_append,List.map_cons,List.map_nil,rI]
theorem chk_ok:∀ {l:List W4} {q:Option Int},chk q l=true→∀ w∈l,okWt w=true
 | w::r,q,h,x,hx=>by
  simp only [chk,Bool.and_eq_true] at h
  rcases List.mem_cons.1 hx with rfl | hx
  ·exact h.1
  ·exact chk_ok h.2.2 x hx
theorem s48 (n:Nat) (o:Option (List W4)) (hl:(o.getD []).length≤4611686018427387904) (hs:∀ w∈o.getD [],smallW w) (fld:Int):FN (n+9) 48 [dW o,il fld]=whoR (o.getD []) fld:=by
 rw [F48]
 simp only [G48,lenW,r_liti,r_gtr,r_cond,r_loop,whoR]
 by_cases h6:6 < (o.getD []).length
 ·have h6':(6:Int) < ((o.getD []).length:Int):=by omega
  simp [h6',h6,badN,nilS]
 ·have h6':¬ (6:Int) < ((o.getD []).length:Int):=by omega
  simp only [h6',h6,decide_false,Bool.false_eq_true,if_false]
  rw [l48_0 (n+1) o hl hs]
  by_cases hc:chk none (o.getD [])=true
  ·simp only [hc,if_true,r_bnd1,r_ld0,r_lds,r_call,s70,r_bnd0,r_not,r_cond]
   by_cases hf:inn fld 1 99=true
   ·simp only [hf,Bool.not_true,Bool.false_eq_true,if_false,if_true,r_natN,r_rows]
    rw [l48_1 n o (by omega) hs (chk_ok hc)]
    simp only [r_bnd0,r_ln0,r_lr0,r_lrs,r_len,List.length_map,r_eqN,if_true,r_slN,r_out]
   ·simp [hf,badN,nilS]
  ·simp [hc,badN,nilS]
end Go.VE
namespace Go.VE
open Go.RowKit Go.Proofs
set_option maxRecDepth 100000
section
variable {Δ N R W M E Ω:Type} (p:Pr Δ N R W M E Ω)
def opn47 (y1:E) (w3:W):Ω:=(p.bnd (p.call 61 [p.cell w3 0]) [fun y4=>p.un .not (p.ld y4 0) fun x5=>p.cond x5 (p.out 0 [.d (p.ld y1 0),.d (p.ld y1 1),.n (p.ln y1 2),.d (p.ld y1 5),.d (p.lit (.int .i64 92)),.d (p.ld y1 3),.d (p.ld y1 4),.d (p.ld y1 5),.d (p.cell w3 0),.d (p.cell w3 1),.d (p.cell w3 2),.d (p.cell w3 3),.r (p.lr y1 6)]) (p.bnd (p.call 62 [p.cell w3 0,p.cell w3 1]) [fun y6=>p.un .not (p.ld y6 0) fun x7=>p.cond x7 (p.out 0 [.d (p.ld y1 0),.d (p.ld y1 1),.n (p.ln y1 2),.d (p.ld y1 5),.d (p.lit (.int .i64 92)),.d (p.ld y1 3),.d (p.ld y1 4),.d (p.ld y1 5),.d (p.cell w3 0),.d (p.cell w3 1),.d (p.cell w3 2),.d (p.cell w3 3),.r (p.lr y1 6)]) (p.lenD (p.cell w3 2) fun x8=>p.bin .gtr false x8 (p.lit (.int .i64 120)) fun x9=>p.cond x9 (p.out 0 [.d (p.ld y1 0),.d (p.ld y1 1),.n (p.ln y1 2),.d (p.ld y1 5),.d (p.lit (.int .i64 92)),.d (p.ld y1 3),.d (p.ld y1 4),.d (p.ld y1 5),.d (p.cell w3 0),.d (p.cell w3 1),.d (p.cell w3 2),.d (p.cell w3 3),.r (p.lr y1 6)]) (p.lenD (p.cell w3 2) fun x10=>p.bnd (p.call 68 [p.cell w3 3,(p.lit (.int .i64 0)),x10]) [fun y11=>p.un .not (p.ld y11 0) fun x12=>p.cond x12 (p.out 0 [.d (p.ld y1 0),.d (p.ld y1 1),.n (p.ln y1 2),.d (p.ld y1 5),.d (p.lit (.int .i64 92)),.d (p.ld y1 3),.d (p.ld y1 4),.d (p.ld y1 5),.d (p.cell w3 0),.d (p.cell w3 1),.d (p.cell w3 2),.d (p.cell w3 3),.r (p.lr y1 6)]) (p.bnd (p.call 63 [p.cell w3 1]) [fun y13=>p.lenD (p.cell w3 2) fun x14=>p.mkN 32 x14 x14 fun n15=>p.rowsD 4 (p.cell w3 2) fun r16=>p.eqN n15 (p.len (p.repl n15 [(p.lit (.int .i64 0)),(p.lit (.int .i64 0)),(p.lit (.int .i64 0)),(p.lit (.int .i64 0))])) (p.eqN n15 (p.len (p.repl n15 [(p.lit (.int .i64 0)),(p.lit (.int .i64 0)),(p.lit (.int .i64 0)),(p.lit (.int .i64 0))])) (p.lenD (p.ld y13 0) fun x17=>p.bnd (p.loop [(L47_0 p)] 0 [.d (p.ld y13 0),.d x17,.d (p.lit (.int .i64 0)),.m p.emp,.d (p.cell w3 0),.d (p.ld y13 0),.n n15,.n n15,.d (p.cell w3 3),.r (p.lr y1 6),.d (p.cell w3 0),.d (p.cell w3 1),.d (p.cell w3 2),.d (p.cell w3 3),.r (p.app (p.seg r16 none n15) (p.seg (p.repl n15 [(p.lit (.int .i64 0)),(p.lit (.int .i64 0)),(p.lit (.int .i64 0)),(p.lit (.int .i64 0))]) (some (p.len r16)) n15)),.d (p.cell w3 0),.d (p.ld y13 0),.n n15,.n n15,.d (p.cell w3 3)]) [fun y18=>p.eqN n15 (p.len (p.lr y18 11)) (p.eqN n15 (p.len (p.lr y18 11)) (p.bnd (p.call 1000095 [p.ld y18 1,p.ld y18 2,(p.natD (p.ln y18 3)),(p.natD (p.ln y18 4)),p.ld y18 5,(p.slD 4 (p.lr y18 11)),(p.mpD true (p.lm y18 0))]) [fun y19=>p.rowsD 4 (p.ld y19 6) fun r20=>p.asM true (p.ld y19 7) fun q21=>p.un .not (p.ld y19 0) fun x22=>p.cond x22 (p.out 0 [.d (p.ld y1 0),.d (p.ld y1 1),.n (p.ln y1 2),.d (p.ld y1 5),.d (p.lit (.int .i64 92)),.d (p.ld y1 3),.d (p.ld y1 4),.d (p.ld y1 5),.d (p.ld y18 7),.d (p.ld y18 8),.d (p.ld y18 9),.d (p.ld y18 10),.r (p.lr y18 6)]) (p.out 1 [.d (p.ld y1 0),.d (p.ld y1 1),.n (p.ln y1 2),.d (p.ld y1 5),.d (p.lit (.int .i64 0)),.d (p.ld y1 3),.d (p.ld y1 4),.d (p.ld y1 5),.m q21,.r r20,.d (p.ld y19 1),.d (p.ld y19 2),.n (p.dN (p.ld y19 3)),.n (p.dN (p.ld y19 4)),.d (p.ld y19 5),.d (p.ld y18 7),.d (p.ld y18 8),.d (p.ld y18 9),.d (p.ld y18 10),.r (p.lr y18 6)])]))]))])]))])])
def L47x:K N R M E Δ Ω:=fun J1 y1=>p.bin .lss false (p.ld y1 5) (p.ld y1 4) fun x2=>p.cond x2 (p.rowD 4 (p.ld y1 3) (p.ld y1 5) fun w3=>p.bnd (opn47 p y1 w3) [fun y4=>p.bin .neq false (p.ld y4 4) (p.lit (.int .i64 0)) fun x5=>p.cond x5 (p.out 1 [.d (p.lit (.int .i64 98))]) (p.bin .gtr false (p.ld y4 3) (p.lit (.int .i64 0)) fun x6=>p.cond x6 (p.bin .sub false (p.ld y4 3) (p.lit (.int .i64 1)) fun x7=>p.rowD 4 (p.ld y4 0) x7 fun w8=>p.bin .geq false (p.cell w8 0) (p.ld y4 8) fun x9=>p.cond x9 (p.out 1 [.d (p.lit (.int .i64 98))]) p.fail) p.fail),fun y4=>p.bin .neq false (p.ld y4 4) (p.lit (.int .i64 0)) fun x5=>p.cond x5 (p.out 1 [.d (p.lit (.int .i64 98))]) (p.bin .gtr false (p.ld y4 3) (p.lit (.int .i64 0)) fun x6=>p.cond x6 (p.bin .sub false (p.ld y4 3) (p.lit (.int .i64 1)) fun x7=>p.rowD 4 (p.ld y4 0) x7 fun w8=>p.bin .geq false (p.cell w8 0) (p.ld y4 15) fun x9=>p.cond x9 (p.out 1 [.d (p.lit (.int .i64 98))]) (p.find 0 (p.lm y4 8) (p.ld y4 1) (fun n10=>p.rowAt 20 (p.mrows (p.lm y4 8)) n10 fun w11=>p.leN (p.addN (p.addN (p.natN 0) (p.natN 19)) (p.natN 1)) (p.natN 20) (p.cond (p.cellN w11 (p.addN (p.natN 0) (p.natN 19)) 0) (p.eqN (p.natN 1) (p.len (p.rows [[p.ld y4 15]])) (p.eqN (p.ln y4 2) (p.len (p.lr y4 19)) (p.fits 8 (p.addN (p.ln y4 2) (p.len (p.seg (p.rows [[p.ld y4 15]]) none (p.natN 1)))) (p.bin .add false (p.ld y4 7) (p.lit (.int .i64 1)) fun x12=>J1 0 [.d (p.ld y4 0),.d (p.ld y4 1),.n (p.addN (p.ln y4 2) (p.len (p.seg (p.rows [[p.ld y4 15]]) none (p.natN 1)))),.d (p.ld y4 5),.d (p.ld y4 6),.d x12,.r (p.app (p.lr y4 19) (p.seg (p.rows [[p.ld y4 15]]) none (p.natN 1)))])))) (p.bin .add false (p.ld y4 7) (p.lit (.int .i64 1)) fun x12=>J1 0 [.d (p.ld y4 0),.d (p.ld y4 1),.n (p.ln y4 2),.d (p.ld y4 5),.d (p.ld y4 6),.d x12,.r (p.lr y4 19)]))) (p.bin .add false (p.ld y4 7) (p.lit (.int .i64 1)) fun x10=>J1 0 [.d (p.ld y4 0),.d (p.ld y4 1),.n (p.ln y4 2),.d (p.ld y4 5),.d (p.ld y4 6),.d x10,.r (p.lr y4 19)]))) (p.find 0 (p.lm y4 8) (p.ld y4 1) (fun n7=>p.rowAt 20 (p.mrows (p.lm y4 8)) n7 fun w8=>p.leN (p.addN (p.addN (p.natN 0) (p.natN 19)) (p.natN 1)) (p.natN 20) (p.cond (p.cellN w8 (p.addN (p.natN 0) (p.natN 19)) 0) (p.eqN (p.natN 1) (p.len (p.rows [[p.ld y4 15]])) (p.eqN (p.ln y4 2) (p.len (p.lr y4 19)) (p.fits 8 (p.addN (p.ln y4 2) (p.len (p.seg (p.rows [[p.ld y4 15]]) none (p.natN 1)))) (p.bin .add false (p.ld y4 7) (p.lit (.int .i64 1)) fun x9=>J1 0 [.d (p.ld y4 0),.d (p.ld y4 1),.n (p.addN (p.ln y4 2) (p.len (p.seg (p.rows [[p.ld y4 15]]) none (p.natN 1)))),.d (p.ld y4 5),.d (p.ld y4 6),.d x9,.r (p.app (p.lr y4 19) (p.seg (p.rows [[p.ld y4 15]]) none (p.natN 1)))])))) (p.bin .add false (p.ld y4 7) (p.lit (.int .i64 1)) fun x9=>J1 0 [.d (p.ld y4 0),.d (p.ld y4 1),.n (p.ln y4 2),.d (p.ld y4 5),.d (p.ld y4 6),.d x9,.r (p.lr y4 19)]))) (p.bin .add false (p.ld y4 7) (p.lit (.int .i64 1)) fun x7=>J1 0 [.d (p.ld y4 0),.d (p.ld y4 1),.n (p.ln y4 2),.d (p.ld y4 5),.d (p.ld y4 6),.d x7,.r (p.lr y4 19)])))]) (p.out 0 [.d (p.ld y1 0),.d (p.ld y1 1),.n (p.ln y1 2),.r (p.lr y1 6)])
end
theorem eL47:@L47_1=@L47x:=rfl
theorem l47_0 (n:Nat) (o:Option (List Brd)) (hl:(o.getD []).length≤4611686018427387904) (hr:Rise (o.getD [])) (c0:D) (c1:D) (c2:Nat) (c3:Nat) (c4:D) (c5:Rr) (c6:D) (c7:D) (c8:D) (c9:D) (c10:Rr) (c11:D) (c12:D) (c13:Nat) (c14:Nat) (c15:D) :
  loopR [L47_0 (RP n)] M0 0 [.d (dB o),.d (il (o.getD []).length),.d (il 0),.m ([],[]),.d c0,.d c1,.n c2,.n c3,.d c4,.r c5,.d c6,.d c7,.d c8,.d c9,.r c10,.d c11,.d c12,.n c13,.n c14,.d c15] =
   some (0,[.m (mapM (o.getD []) (new (o.getD []))),.d c0,.d c1,.n c2,.n c3,.d c4,.r c5,.d c6,.d c7,.d c8,.d c9,.r c10,.d c11,.d c12,.n c13,.n c14,.d c15]):=by
 have:=range_loop (β:=Unit) (o.getD []) hl (L47_0 (RP n)) (fun i _=>[.d (dB o),.d (il (o.getD []).length),.d (il i),.m (mapM ((o.getD []).take i) (new ((o.getD []).take i))),.d c0,.d c1,.n c2,.n c3,.d c4,.r c5,.d c6,.d c7,.d c8,.d c9,.r c10,.d c11,.d c12,.n c13,.n c14,.d c15]) (fun _ _=>True)
  (fun _ _ _=>some (0,[.m (mapM (o.getD []) (new (o.getD []))),.d c0,.d c1,.n c2,.n c3,.d c4,.r c5,.d c6,.d c7,.d c8,.d c9,.r c10,.d c11,.d c12,.n c13,.n c14,.d c15])) ?_ ?_ M0 () trivial (M0_big hl)
 ·exact this
 ·intro _ k _
  simp [L47_0,List.take_length]
 ·intro i e r _ k hi hd hlt hw _ ih
  have hlt':(i:Int) < ((o.getD []).length:Int):=by omega
  have ih':=ih () trivial
  rw [cast1,take_snoc hi,new_snoc] at ih'
  have hadd:=fun k=>r_addK (Fn:=FN n) (FnD:=FnDof Tryd.prog (cf3 tb Tryd.prog) (FN n)) (m:=M0) (new_len ((o.getD []).take i)) (bix_new hr hi) fd0 k
  have hlen:((o.getD []).take i).length=i:=by simp;omega
  simp only [row20_0,hlen] at hadd
  simp only [L47_0,mapM,r_ld0,r_lds,r_lm0,r_lms,r_ln0,r_lns,r_lr0,r_lrs,r_lss,hlt',decide_true,r_cond,if_true,rowB hi,cB0,r_natN,r_eqN,r_mset,r_app,r_mrows,r_rows,r_liti,r_litb,r_len,List.length_map,new_len,hlen,hadd,r_add,hw]
  exact ih'
theorem op47 (n:Nat) (me h:Int) (b:Option (List Brd)) (o:Option (List Stk)) (hl:(o.getD []).length≤4611686018427387904) (hb:(b.getD []).length≤4611686018427387904) (c0 c1 c3 c4 c5:D) (c2:Nat) (c6:Rr) :
  opn47 (RP (n+4)) [.d c0,.d c1,.n c2,.d c3,.d c4,.d c5,.r c6] (rWt (me,b,o,h))=if okP me (b.getD []) (o.getD []) h=true then some (1,[.d c0,.d c1,.n c2,.d c5,.d (il 0),.d c3,.d c4,.d c5,.m (mapM (b.getD []) (pg me (b.getD []) (o.getD []))),.r ((o.getD []).map rS),.d (il me),.d (dB b),.n (o.getD []).length,.n (o.getD []).length,.d (il h),.d (il me),.d (dB b),.d (dS o),.d (il h),.r c6]) else some (0,[.d c0,.d c1,.n c2,.d c5,.d (il 92),.d c3,.d c4,.d c5,.d (il me),.d (dB b),.d (dS o),.d (il h),.r c6]):=by
 simp only [opn47,cW0,cW1,cW2,cW3,r_call,s61,s62 _ _ _ hb,s68,lenL,r_bnd0,r_ld0,r_lds,r_ln0,r_lns,r_lr0,r_lrs,r_not,r_cond,r_out,r_liti,r_gtr,okP]
 by_cases h1:par me=true
 ·by_cases h2:bords me (b.getD [])=true
  ·have h2':=h2
   simp only [bords,Bool.and_eq_true,decide_eq_true_eq] at h2'
   by_cases h3:(o.getD []).length≤120
   ·have h3':¬ ((120:Int) < (o.getD []).length):=by omega
    by_cases h4:inn h 0 (o.getD []).length=true
    ·have hmk:0≤((o.getD []).length:Int)∧((32:Nat):Int)*((o.getD []).length:Int)≤140737488355328∧((o.getD []).length:Int)≤9223372036854775807:=by omega
     simp only [h1,h2,h3,h3',h4,Bool.not_true,Bool.false_eq_true,if_false,if_true,decide_true,decide_false,Bool.true_and,s63 _ _ h2'.2,r_bnd0,r_ld0,r_mkNg,hmk,and_self,Int.toNat_natCast,rowsL,r_repl,r_len,List.length_replicate,r_eqN,lenL,r_emp,r_app,r_seg0,r_seg1,r_loop,List.length_map]
     have hseg:=seg_copy ((o.getD []).map rS) [il 0,il 0,il 0,il 0]
     rw [List.length_map] at hseg
     rw [hseg,l47_0 _ _ hb (okL_rise h2'.1)]
     simp only [r_bnd0,r_ld0,r_lds,r_lm0,r_ln0,r_lns,r_lr0,r_lrs,List.length_map,if_true,r_natD,r_slD,r_mpD,mapM]
     rw [s1000095 _ _ hb (bords_six h2) _ (by omega) _ _ _ _ _ (new_len _)]
     simp only [r_bnd0,r_ld0,r_lds,r_rowsD,r_not,r_cond,r_dN]
     have ha:∀ (a:List Value) (b:Rr) (k:Mr→Out),(RP (n+4)).asM true (.mp true a b) k=k (a,b):=fun _ _ _=>rfl
     rw [ha]
     simp only [pg]
     rw [show (b.getD []).map (fun _=>fd0)=new (b.getD []) from rfl]
     cases (pread me (b.getD []) (new (b.getD [])) (o.getD [])).2<;>rfl
    ·simp [h1,h2,h3,h3',h4]
   ·have h3':((120:Int) < (o.getD []).length):=by omega
    simp [h1,h2,h3,h3']
  ·simp [h1,h2]
 ·simp [h1]
theorem l47_1 (n:Nat) (o:Option (List W4)) (hl:(o.getD []).length≤2199023255552) (hs:∀ w∈o.getD [],smallW w) (fld:Int) :
  loopR [L47_1 (RP (n+4))] M0 0 [.d (dW o),.d (il fld),.n 0,.d (dW o),.d (il (o.getD []).length),.d (il 0),.r []]=if chk none (o.getD [])=true then some (0,[.d (dW o),.d (il fld),.n (whoL fld (o.getD [])).length,.r ((whoL fld (o.getD [])).map rI)]) else some (1,[.d (il 98)]):=by
 have:=range_loop (β:=List Int) (o.getD []) (by omega) (L47_1 (RP (n+4))) (fun i g=>[.d (dW o),.d (il fld),.n g.length,.d (dW o),.d (il (o.getD []).length),.d (il i),.r (g.map rI)]) (fun i g=>g.length≤i)
  (fun i r g=>if chk (prevW (o.getD []) i) r=true then some (0,[.d (dW o),.d (il fld),.n (g++whoL fld r).length,.r ((g++whoL fld r).map rI)]) else some (1,[.d (il 98)])) ?_ ?_ M0 [] (by simp) (M0_big (by omega))
 ·exact this
 ·intro g k _
  simp [L47_1,chk,whoL]
 ·rintro i ⟨me,b,s,h⟩ r g k hi hd hlt hw hg ih
  have hsw:=hs _ (List.mem_of_getElem? hi)
  have hlt':(i:Int) < ((o.getD []).length:Int):=by omega
  have hfit:(g.length+1)*8≤140737488355328∧g.length+1≤9223372036854775807:=by omega
  have hN:g.length≤9223372036854775806:=by omega
  rw [eL47]
  simp only [L47x,r_ld0,r_lds,r_ln0,r_lns,r_lr0,r_lrs,r_liti,r_lss,hlt',decide_true,r_cond,if_true,rowW hi]
  rw [op47 n me h b s hsw.2 hsw.1]
  rw [chk]
  show _=if (okP me (b.getD []) (s.getD []) h&&_)=true then _ else _
  by_cases h1:okP me (b.getD []) (s.getD []) h=true
  ·have hrow:∀ {j:Nat},bix fld (b.getD [])=some j→(pg me (b.getD []) (s.getD []))[j]?=some (fl me (b.getD []) (s.getD []) j):=fun {j} hx=>by
    obtain ⟨_,_,_,_,hj⟩:=bord_at hx
    exact pg_at h1 hj
   simp only [h1,if_true,Bool.true_and,r_bnd1,r_ld0,r_lds,r_lm0,r_lms,r_ln0,r_lns,r_lr0,r_lrs,r_neq,ne_eq,not_true,decide_false,Bool.false_eq_true,if_false,r_gtr,r_cond,r_add,hw]
   have rest:ltO (prevW (o.getD []) i) me=true→∀ X:Out,X=(match bix fld (b.getD []) with
     | none=>k 0 [.d (dW o),.d (il fld),.n g.length,.d (dW o),.d (il (o.getD []).length),.d (il ((i:Int)+1)),.r (g.map rI)]
     | some j=>if (fl me (b.getD []) (s.getD []) j).opn=true then k 0 [.d (dW o),.d (il fld),.n (g.length+1),.d (dW o),.d (il (o.getD []).length),.d (il ((i:Int)+1)),.r (g.map rI++[[il me]])]
      else k 0 [.d (dW o),.d (il fld),.n g.length,.d (dW o),.d (il (o.getD []).length),.d (il ((i:Int)+1)),.r (g.map rI)]) →
     X=if (ltO (prevW (o.getD []) i) (me,b,s,h).1&&chk (some (me,b,s,h).1) r)=true then some (0,[.d (dW o),.d (il fld),.n (g++whoL fld ((me,b,s,h)::r)).length,.r ((g++whoL fld ((me,b,s,h)::r)).map rI)]) else some (1,[.d (il 98)]):=by
    intro hlt X hX
    rw [hX]
    simp only [hlt,Bool.true_and]
    have ih0:=ih g (by omega)
    rw [cast1,prev_at hi] at ih0
    have ih1:=ih (g++[me]) (by simp;omega)
    rw [cast1,prev_at hi] at ih1
    cases hx:bix fld (b.getD []) with
    | none =>
     simp only
     rw [show whoL fld ((me,b,s,h)::r)=whoL fld r by simp [whoL,opnW,hx]]
     exact ih0
    | some j =>
     simp only
     by_cases ho:(fl me (b.getD []) (s.getD []) j).opn=true
     ·rw [if_pos ho,show whoL fld ((me,b,s,h)::r)=[me]++whoL fld r by simp [whoL,opnW,hx,ho],← List.append_assoc]
      simpa [rI] using ih1
     ·rw [if_neg ho,show whoL fld ((me,b,s,h)::r)=whoL fld r by simp [whoL,opnW,hx,ho]]
      exact ih0
   have fin:∀ X Y:Nat→Out,True:=fun _ _=>trivial
   cases i with
   | zero =>
    refine rest rfl _ ?_
    simp only [Int.natCast_zero,Int.lt_irrefl,decide_false,Bool.false_eq_true,if_false,r_findM]
    cases hx:bix fld (b.getD []) with
    | none=>rfl
    | some j=>simp only [r_natN,r_addN,Nat.zero_add,r_mrowsM,r_row20 (hrow hx),r_leN,Nat.reduceAdd,Nat.reduceLeDiff,if_true,r_cellN,get_opn,r_cond,r_rows,r_len,List.length_cons,List.length_nil,List.length_map,r_eqN,r_seg0,List.take,r_fitsg,hfit.1,hN,and_self,r_app]
   | succ i =>
    have hi1:i < (o.getD []).length:=by omega
    have hv:=List.getElem?_eq_getElem hi1
    have hp:=pred_nat (i:=i+1) (by omega) (by omega)
    simp only [show (0:Int) < ((i+1:Nat):Int) by omega,decide_true,if_true,r_sub,hp,Nat.add_sub_cancel,rowW hv,cW0,r_geq,r_cond]
    by_cases h2:(o.getD [])[i].1 < me
    ·refine rest (by simp [prev_at hv,ltO,h2]) _ ?_
     simp only [show ¬ ((o.getD [])[i].1≥me) by omega,decide_false,Bool.false_eq_true,if_false,r_findM]
     cases hx:bix fld (b.getD []) with
     | none=>rfl
     | some j=>simp only [r_natN,r_addN,Nat.zero_add,r_mrowsM,r_row20 (hrow hx),r_leN,Nat.reduceAdd,Nat.reduceLeDiff,if_true,r_cellN,get_opn,r_cond,r_rows,r_len,List.length_cons,List.length_nil,List.length_map,r_eqN,r_seg0,List.take,r_fitsg,hfit.1,hN,and_self,r_app]
    ·simp only [show ((o.getD [])[i].1≥me) by omega,decide_true,if_true,prev_at hv,ltO,h2,decide_false,Bool.false_and,Bool.false_eq_true,if_false,r_out]
  ·simp [h1]
theorem s47 (n:Nat) (o:Option (List W4)) (hl:(o.getD []).length≤2199023255552) (hs:∀ w∈o.getD [],smallW w) (fld:Int):FN (n+5) 47 [dW o,il fld]=whoR (o.getD []) fld:=by
 rw [F47]
 simp only [G47,lenW,r_liti,r_loop,r_natN,r_rows,whoR]
 rw [l47_1 n o hl hs]
 by_cases hc:chk none (o.getD [])=true
 ·simp only [hc,if_true,r_bnd0,r_ld0,r_lds,lenW,r_gtr,r_cond]
  by_cases h6:6 < (o.getD []).length
  ·have h6':(6:Int) < ((o.getD []).length:Int):=by omega
   simp [h6',h6,badN,nilS]
  ·have h6':¬ (6:Int) < ((o.getD []).length:Int):=by omega
   simp only [h6',h6,decide_false,Bool.false_eq_true,if_false,r_call,s67,r_bnd0,r_ld0,r_not,r_cond]
   by_cases hf:inn fld 1 99=true
   ·simp only [hf,Bool.not_true,Bool.false_eq_true,if_false,if_true,r_ln0,r_lns,r_lr0,r_lrs,r_len,List.length_map,r_eqN,r_slN,r_out]
   ·simp [hf,badN,nilS]
 ·simp [hc,badN,nilS]
end Go.VE
namespace Go.VE
open Go.RowKit Go.Proofs Go.Shelf
set_option maxRecDepth 100000
set_option maxHeartbeats 4000000
theorem itoa1 (w:World):Calls Tryd.prog 117 #[.int .i64 1] w fun e w'=>e=.returned (.string ⟨#[49]⟩)∧w'=w:=by
 go_enter Tryd.func117,Tryd.ntmps117
 go_wp2
 go_ret
 exact ⟨rfl,rfl⟩
theorem itoa0 (w:World):Calls Tryd.prog 117 #[.int .i64 0] w fun e w'=>e=.returned (.string ⟨#[48]⟩)∧w'=w:=by
 go_enter Tryd.func117,Tryd.ntmps117
 go_wp2
 go_ret
 exact ⟨rfl,rfl⟩
theorem itoa7 (w:World):Calls Tryd.prog 117 #[.int .i64 7] w fun e w'=>e=.returned (.string ⟨#[55]⟩)∧w'=w:=by
 go_enter Tryd.func117,Tryd.ntmps117
 go_wp2
 go_ret
 exact ⟨rfl,rfl⟩
theorem row2 (w:World) (b:Nat) (h0:w.cell? ⟨b,0,none⟩=some (.int .i64 7)) (h1:w.cell? ⟨b,1,none⟩=some (.int .i64 1)) :
  Calls Tryd.prog 109 #[.string ⟨#[119,97,110,116,115]⟩,.slice (some ⟨b,0,none⟩) 2 2] w fun e w'=>e=.returned (.string ⟨#[119,97,110,116,115,32,55,32,49,10]⟩)∧w'=w:=by
 go_enter Tryd.func109,Tryd.ntmps109
 go_wp2
 refine wp_loop_rounds 3 ?_
 rw [rounds_succ]
 go_wp2_with (go_at_call 117;refine (itoa7 _).mono ?_;rintro e w' ⟨rfl,rfl⟩)
 rw [rounds_succ]
 go_wp2_with (go_at_call 117;refine (itoa1 _).mono ?_;rintro e w' ⟨rfl,rfl⟩)
 rw [rounds_succ]
 go_wp2
 go_ret
 exact ⟨rfl,rfl⟩
theorem row3 (w:World) (b:Nat) (h0:w.cell? ⟨b,0,none⟩=some (.int .i64 7)) (h1:w.cell? ⟨b,1,none⟩=some (.int .i64 0)) (h2:w.cell? ⟨b,2,none⟩=some (.int .i64 1)) :
  Calls Tryd.prog 109 #[.string ⟨#[116,97,108,108,121]⟩,.slice (some ⟨b,0,none⟩) 3 3] w fun e w'=>e=.returned (.string ⟨#[116,97,108,108,121,32,55,32,48,32,49,10]⟩)∧w'=w:=by
 go_enter Tryd.func109,Tryd.ntmps109
 go_wp2
 refine wp_loop_rounds 4 ?_
 rw [rounds_succ]
 go_wp2_with (go_at_call 117;refine (itoa7 _).mono ?_;rintro e w' ⟨rfl,rfl⟩)
 rw [rounds_succ]
 go_wp2_with (go_at_call 117;refine (itoa0 _).mono ?_;rintro e w' ⟨rfl,rfl⟩)
 rw [rounds_succ]
 go_wp2_with (go_at_call 117;refine (itoa1 _).mono ?_;rintro e w' ⟨rfl,rfl⟩)
 rw [rounds_succ]
 go_wp2
 go_ret
 exact ⟨rfl,rfl⟩
def rhoB:Ren:=⟨fun x=>if x=166 then 108 else if x=240 then 116 else if x=276 then 122 else if x=169 then 110 else 0,fun x=>if x=72 then 141 else if x=70 then 138 else if x=37 then 139 else if x=164 then 155 else if x=75 then 143 else if x=127 then 154 else if x=80 then 147 else x,fun x=>x⟩
theorem lays166:Lays.n166 Tryd.prog rhoB where
 mixed:=by kernel_rfl
 f166:=by kernel_rfl
 f240:=by kernel_rfl
 f276:=by kernel_rfl
 t0:=by kernel_rfl
 a0:=fun w=>by kernel_rfl
 z0:=fun w=>by kernel_rfl
 v0:=fun w=>by kernel_rfl
 t3:=by kernel_rfl
 a3:=fun w=>by kernel_rfl
 z3:=fun w=>by kernel_rfl
 v3:=fun w=>by kernel_rfl
 t4:=by kernel_rfl
 a4:=fun w=>by kernel_rfl
 z4:=fun w=>by kernel_rfl
 v4:=fun w=>by kernel_rfl
 t9:=by kernel_rfl
 a9:=fun w=>by kernel_rfl
 z9:=fun w=>by kernel_rfl
 v9:=fun w=>by kernel_rfl
 t20:=by kernel_rfl
 a20:=fun w=>by kernel_rfl
 z20:=fun w=>by kernel_rfl
 v20:=fun w=>by kernel_rfl
 t37:=by kernel_rfl
 a37:=fun w=>by kernel_rfl
 z37:=fun w=>by kernel_rfl
 v37:=fun w=>by kernel_rfl
 t70:=by kernel_rfl
 a70:=fun w=>by kernel_rfl
 z70:=fun w=>by kernel_rfl
 v70:=fun w=>by kernel_rfl
 t72:=by kernel_rfl
 a72:=fun w=>by kernel_rfl
 z72:=fun w=>by kernel_rfl
 v72:=fun w=>by kernel_rfl
 t75:=by kernel_rfl
 a75:=fun w=>by kernel_rfl
 z75:=fun w=>by kernel_rfl
 v75:=fun w=>by kernel_rfl
 t164:=by kernel_rfl
 a164:=fun w=>by kernel_rfl
 z164:=fun w=>by kernel_rfl
 v164:=fun w=>by kernel_rfl
theorem lays169:Lays.n169 Tryd.prog rhoB where
 mixed:=by kernel_rfl
 f169:=by kernel_rfl
 t0:=by kernel_rfl
 a0:=fun w=>by kernel_rfl
 z0:=fun w=>by kernel_rfl
 v0:=fun w=>by kernel_rfl
 t3:=by kernel_rfl
 a3:=fun w=>by kernel_rfl
 z3:=fun w=>by kernel_rfl
 v3:=fun w=>by kernel_rfl
 t9:=by kernel_rfl
 a9:=fun w=>by kernel_rfl
 z9:=fun w=>by kernel_rfl
 v9:=fun w=>by kernel_rfl
 t37:=by kernel_rfl
 a37:=fun w=>by kernel_rfl
 z37:=fun w=>by kernel_rfl
 v37:=fun w=>by kernel_rfl
 t70:=by kernel_rfl
 a70:=fun w=>by kernel_rfl
 z70:=fun w=>by kernel_rfl
 v70:=fun w=>by kernel_rfl
 t72:=by kernel_rfl
 a72:=fun w=>by kernel_rfl
 z72:=fun w=>by kernel_rfl
 v72:=fun w=>by kernel_rfl
 t127:=by kernel_rfl
 a127:=fun w=>by kernel_rfl
 z127:=fun w=>by kernel_rfl
 v127:=fun w=>by kernel_rfl
theorem extraB:Builder.Extra Tryd.prog rhoB where
 sizeBuilder:=by kernel_rfl
 liesBuilder:=by kernel_rfl
 t5:=by kernel_rfl
 a5:=fun w=>by kernel_rfl
 z5:=fun w=>by kernel_rfl
 v5:=fun w=>by kernel_rfl
 infoByte:=by kernel_rfl
 cellsByte:=by kernel_rfl
 sizeByte:=by kernel_rfl
 neB5:=by decide
theorem wS (B b:Nat) (bs:List Value) (s:ByteArray) (w:World) (h:Lib.IsBuilderF 141 5 B b bs w) (hlen:bs.length+s.size≤140737488355328) (hBw:B≤w.heap.size) :
  Calls Tryd.prog 108 #[.pointer (some ⟨b,0,none⟩),.string s] w fun e w'=>e=.returned (.tuple #[.int .i64 s.size,.nilIface])∧(Lib.BuilderAtF 141 5 B b (.pointer (some ⟨b,0,none⟩)) (bs++Lib.strCells s) w'∧Below B w w'):=Any.Builder_WriteString_f lays166 extraB B b bs s w h hlen hBw
theorem wStr (B b:Nat) (l:List UInt8) (w:World) (h:Lib.IsBuilderF 141 5 B b (Lib.byteCells l) w) (hBw:B≤w.heap.size) :
  Calls Tryd.prog 110 #[.pointer (some ⟨b,0,none⟩)] w fun e w'=>e=.returned (.string ⟨l.toArray⟩)∧(Lib.IsBuilderF 141 5 B b (Lib.byteCells l) w'∧Below B w w'):=Any.Builder_String_any_f lays169 extraB B b l w h hBw
end Go.VE
namespace Go.VE
open Go.RowKit Go.Proofs Go.Shelf
set_option maxRecDepth 100000
set_option maxHeartbeats 4000000
theorem print2 (w:World) (a:Nat) (o c:Nat) (_:2≤c) (h0:w.cell? ⟨a,o,none⟩=some (.int .i64 2)) (h1:w.cell? ⟨a,o+1,none⟩=some (.int .i64 7)) (h2:w.cell? ⟨a,o+2,none⟩=some (.int .i64 0)) (h3:w.cell? ⟨a,o+3,none⟩=some (.int .i64 1))
  (h4:w.cell? ⟨a,o+4,none⟩=some (.int .i64 1)) (h5:w.cell? ⟨a,o+5,none⟩=some (.int .i64 7)) (h6:w.cell? ⟨a,o+6,none⟩=some (.int .i64 0)) (h7:w.cell? ⟨a,o+7,none⟩=some (.int .i64 1))
  (hf:Calls Tryd.prog 105 #[.slice (some ⟨a,o,none⟩) 2 c,(.func (.func 106) #[] #[])] w fun e w'=>e=.returned (.bool false)∧Below w.heap.size w w') :
  Calls Tryd.prog 76 #[.slice (some ⟨a,o,none⟩) 2 c] w fun e w'=>e=.returned (.tuple #[.string ⟨#[119,97,110,116,115,32,55,32,49,10,116,97,108,108,121,32,55,32,48,32,49,10]⟩,.int .i64 0])∧Below w.heap.size w w':=by
 have ha:a < w.heap.size:=by
  unfold World.cell? at h0
  simp only at h0
  rcases Nat.lt_or_ge a w.heap.size with h | h
  ·exact h
  ·rw [Array.getElem?_eq_none h] at h0;cases h0
 go_enter Tryd.func76,Tryd.ntmps76
 go_wp2_with (go_at_call 105;refine hf.mono ?_)
 rintro e w1 ⟨rfl,b1⟩
 have ha1:a < w1.heap.size:=Nat.lt_of_lt_of_le ha b1.size
 have g0:=(b1.cell (p:=⟨a,o,none⟩) ha).trans h0
 have g1:=(b1.cell (p:=⟨a,o+1,none⟩) ha).trans h1
 have g2:=(b1.cell (p:=⟨a,o+2,none⟩) ha).trans h2
 have g3:=(b1.cell (p:=⟨a,o+3,none⟩) ha).trans h3
 have g4:=(b1.cell (p:=⟨a,o+4,none⟩) ha).trans h4
 have g5:=(b1.cell (p:=⟨a,o+5,none⟩) ha).trans h5
 have g6:=(b1.cell (p:=⟨a,o+6,none⟩) ha).trans h6
 have g7:=(b1.cell (p:=⟨a,o+7,none⟩) ha).trans h7
 clear h0 h1 h2 h3 h4 h5 h6 h7 hf
 go_wp2
 refine wp_loop_rounds 3 ?_
 rw [rounds_succ]
 go_wp2_with (go_at_call 109;refine (row2 _ _ (by simp [go_sem]) (by simp [go_sem])).mono ?_)
 rintro e w2 ⟨rfl,rfl⟩
 have k0:Lib.IsBuilderF 141 5 w1.heap.size w1.heap.size [] (w1.alloc (.cells #[.pointer none,.slice none 0 0] 141)):=Lib.IsBuilderF.of (Lib.fresh_isBuilder 141 5 w1)
 have c0:Below w1.heap.size w1 (w1.alloc (.cells #[.pointer none,.slice none 0 0] 141)):=(Below.refl _ w1).alloc (Nat.le_refl _) _
 go_wp2_with (go_at_call 108;refine (wS w1.heap.size w1.heap.size [] _ _ ((k0.imp (·.alloc _) (·.alloc _)).imp (·.alloc _) (·.alloc _)) (by decide) (((c0.alloc c0.size _).alloc (c0.alloc c0.size _).size _).size)).mono ?_)
 rintro e w3 ⟨rfl,k3,d3⟩
 have c3:=((c0.alloc c0.size _).alloc (c0.alloc c0.size _).size _).trans d3
 clear d3 k0 c0
 have ha3:a < w3.heap.size:=Nat.lt_of_lt_of_le ha1 c3.size
 have f4:=(c3.cell (p:=⟨a,o+4,none⟩) ha1).trans g4
 have f5:=(c3.cell (p:=⟨a,o+5,none⟩) ha1).trans g5
 have f6:=(c3.cell (p:=⟨a,o+6,none⟩) ha1).trans g6
 have f7:=(c3.cell (p:=⟨a,o+7,none⟩) ha1).trans g7
 clear g0 g1 g2 g3 g4 g5 g6 g7
 go_wp2
 rw [rounds_succ]
 go_wp2_with (go_at_call 109;refine (row3 _ _ (by simp [go_sem]) (by simp [go_sem]) (by simp [go_sem])).mono ?_)
 rintro e w4 ⟨rfl,rfl⟩
 have c4:=(c3.alloc c3.size (.cells #[.int .i64 1,.int .i64 7,.int .i64 0,.int .i64 1] 87)).alloc ((c3.alloc c3.size (.cells #[.int .i64 1,.int .i64 7,.int .i64 0,.int .i64 1] 87)).size) (.cells #[.int .i64 7,.int .i64 0,.int .i64 1] 3)
 go_wp2_with (go_at_call 108;refine (wS w1.heap.size w1.heap.size _ _ _ (.inr ((k3.alloc _).alloc _)) (by decide) c4.size).mono ?_)
 rintro e w5 ⟨rfl,k5,d5⟩
 have c5:=c4.trans d5
 clear d5 c4 k3 f4 f5 f6 f7
 go_wp2
 rw [rounds_succ]
 have k6:Lib.IsBuilderF 141 5 w1.heap.size w1.heap.size (Lib.byteCells [119,97,110,116,115,32,55,32,49,10,116,97,108,108,121,32,55,32,48,32,49,10]) w5:=.inr k5
 go_wp2_with (go_at_call 110;refine (wStr w1.heap.size w1.heap.size _ _ k6 c5.size).mono ?_)
 rintro e w6 ⟨rfl,_,d6⟩
 go_wp2
 go_ret2
 refine ⟨rfl,?_⟩
 have c6:=c5.trans d6
 exact b1.trans ⟨c6.os,c6.tape,c6.output,c6.size,fun k hk=>c6.block k (Nat.lt_of_lt_of_le hk b1.size)⟩
end Go.VE
namespace Go.VE
open Go.RowKit Go.Proofs
set_option maxRecDepth 100000
set_option maxHeartbeats 0
def ySt (p:Int) (bs:D) (l:D) (h e:Int):Out:=some (0,[.d (il p),.d bs,.d l,.d (il h),.d (il e)])
def eBs:D:=.sl 2 [[il 7,il 11]]
def eRow (a b c d:Int):List D:=[il a,il b,il c,il d]
def eSt (p:Int) (l:D) (h:Int):List D:=[il p,eBs,l,il h]
def eNo:D:=.lit (.slice none 0 0)
theorem e9_0:FN 14 9 [il 0,eBs]=ySt 0 eBs eNo 0 0:=by kernel_rfl
theorem e9_1:FN 14 9 [il 1,eBs]=ySt 1 eBs eNo 0 0:=by kernel_rfl
theorem e9_3:FN 14 9 [il 3,eBs]=ySt 3 eBs eNo 0 0:=by kernel_rfl
theorem e41:FN 14 41 (eSt 3 eNo 0++[il 7])=some (0,[.d (.sl 1 [[il 0],[il 1]]),.d (il 0)]):=by kernel_rfl
theorem e19:FN 14 19 (eSt 1 eNo 0++[il 7])=ySt 1 eBs (.sl 4 [eRow 2 7 0 1]) 0 0:=by kernel_rfl
theorem e43_0:FN 14 43 (eSt 1 (.sl 4 [eRow 2 7 0 1]) 0++[il 0])=some (0,[.d (il 1),.d (il 0),.d (.sl 3 [[il 7,il 0,il 0]]),.d (il 0)]):=by kernel_rfl
theorem e49_1:FN 14 49 (eSt 1 (.sl 4 [eRow 2 7 0 1]) 0)=ySt 1 eBs (.sl 4 [eRow 2 7 0 1]) 1 0:=by kernel_rfl
theorem e43_1:FN 14 43 (eSt 1 (.sl 4 [eRow 2 7 0 1]) 1++[il 0])=some (0,[.d (il 1),.d (il 0),.d (.sl 3 [[il 7,il 0,il 1]]),.d (il 0)]):=by kernel_rfl
theorem e27_0:FN 14 27 (eSt 0 eNo 0++[il 1,il 0,.sl 3 [[il 7,il 0,il 1]]])=ySt 0 eBs (.sl 4 [eRow 3 7 1 1]) 0 0:=by kernel_rfl
theorem e25:FN 14 25 (eSt 0 (.sl 4 [eRow 3 7 1 1]) 0)=ySt 0 eBs (.sl 4 [eRow 3 7 1 1,eRow 1 7 1 1]) 0 0:=by kernel_rfl
theorem e29:FN 14 29 (eSt 0 (.sl 4 [eRow 3 7 1 1,eRow 1 7 1 1]) 0++[il 7,il 1])=some (0,[.d (il 1),.d (il 0)]):=by kernel_rfl
theorem e49_2:FN 14 49 (eSt 0 (.sl 4 [eRow 3 7 1 1,eRow 1 7 1 1]) 0)=ySt 0 eBs (.sl 4 [eRow 3 7 1 1,eRow 1 7 1 1]) 2 0:=by kernel_rfl
theorem e43_2:FN 14 43 (eSt 0 (.sl 4 [eRow 3 7 1 1,eRow 1 7 1 1]) 2++[il 1])=some (0,[.d (il 0),.d (il 1),.d (.sl 3 [[il 7,il 1,il 0]]),.d (il 0)]):=by kernel_rfl
theorem e27_1:FN 14 27 (eSt 1 (.sl 4 [eRow 2 7 0 1]) 1++[il 0,il 1,.sl 3 [[il 7,il 1,il 0]]])=ySt 1 eBs (.sl 4 [eRow 2 7 0 1,eRow 1 7 0 1]) 1 0:=by kernel_rfl
theorem e33:FN 14 33 (eSt 1 (.sl 4 [eRow 2 7 0 1,eRow 1 7 0 1]) 1++[il 7,il 0])=some (0,[.d (bl true),.d (il 0)]):=by kernel_rfl
theorem e21:FN 14 21 (eSt 1 (.sl 4 [eRow 2 7 0 1,eRow 1 7 0 1]) 1++[il 7])=ySt 1 eBs (.sl 4 [eRow 2 7 0 1,eRow 1 7 0 1,eRow 4 7 0 1,eRow 2 7 0 2]) 1 0:=by kernel_rfl
theorem e47:FN 14 47 [.sl 4 [eSt 0 (.sl 4 [eRow 3 7 1 1,eRow 1 7 1 1]) 2,eSt 1 (.sl 4 [eRow 2 7 0 1,eRow 1 7 0 1,eRow 4 7 0 1,eRow 2 7 0 2]) 1,eSt 3 eNo 0],il 7]=some (0,[.d (.sl 1 [[il 1]]),.d (il 0)]):=by kernel_rfl
end Go.VE
namespace Go.VE
open Go.RowKit Go.Proofs
set_option maxRecDepth 100000
set_option maxHeartbeats 0
theorem mixP:Tryd.prog.follows .mixedOrders=true:=by kernel_rfl
theorem spOK:SpOK Tryd.prog (cf3 tb Tryd.prog):=fun f p h=>by
 have:(cf3 tb Tryd.prog).sp f=none:=rfl
 rw [this] at h;cases h
def two:List (List D):=[eRow 2 7 0 1,eRow 1 7 0 1]
def twoS:D:=.lit (.string ⟨#[119,97,110,116,115,32,55,32,49,10,116,97,108,108,121,32,55,32,48,32,49,10]⟩)
theorem e105:FN 8 105 [.sl 4 two,.fn 106 []]=some (0,[.d (bl false)]):=by kernel_rfl
theorem sc105:SC Tryd.prog 105 [.one (.sl 4 two),.one (.fn 106 [])] (.one (.d (bl false))) :=
 FnT_ok (P:=Tryd.prog) (T:=tb) mixP spOK 8 105 [.one,.one] [.sl 4 two,.fn 106 []] _ 0 [.d (bl false)] [(false,[.d])] rfl rfl e105 rfl
theorem print_sc:SC Tryd.prog 76 [.one (.sl 4 two)] (.tup [.one (.d twoS),.one (.d (il 0))]):=by
 refine ⟨fun xs w=>enters_of Tryd.func76 (by kernel_rfl) rfl xs w,?_⟩
 intro w U vs hU hv
 obtain ⟨vs⟩:=vs
 simp only [VDF,VDR,DR] at hv
 obtain ⟨v,_,rfl,⟨a,c,rfl,hc,hm,hb⟩,rfl⟩:=hv
 obtain ⟨b,o,rfl,hb1,hr⟩:=hb (by decide)
 have hr':=hr
 simp only [two,eRow,RR,CR,DR,il,Nat.add_assoc,Nat.reduceAdd] at hr
 obtain ⟨_,⟨⟨_,h0,rfl,_⟩,⟨_,h1,rfl,_⟩,⟨_,h2,rfl,_⟩,⟨_,h3,rfl,_⟩,_⟩,_,⟨⟨_,h4,rfl,_⟩,⟨_,h5,rfl,_⟩,⟨_,h6,rfl,_⟩,⟨_,h7,rfl,_⟩,_⟩,_⟩:=hr
 refine (print2 w b o c hc h0 h1 h2 h3 h4 h5 h6 h7 ?_).mono ?_
 ·refine (sc105.2 w U _ hU ?_).mono ?_
  ·simp only [VDF,VDR,DR]
   exact ⟨_,_,rfl,⟨⟨b,o,none⟩,c,rfl,hc,hm,fun _=>⟨b,o,rfl,hb1,hr'⟩⟩,_,_,rfl,⟨#[],rfl,by simp [FR]⟩,rfl⟩
  ·rintro e w' ⟨v,U',bs,rfl,hbe,_,_,_,_,hrv⟩
   simp only [RvR,RcR,DR,bl] at hrv
   obtain ⟨_,rfl,_⟩:=hrv
   exact ⟨rfl,hbe⟩
 ·rintro e w' ⟨rfl,hbe⟩
  refine ⟨_,U,[],rfl,hbe,fun _ h=>h,fun x hx=>⟨Nat.lt_of_lt_of_le (hU x hx) hbe.size,.inl hx⟩,List.nodup_nil,by simp,?_⟩
  simp only [RvR,RvF,RcR,DR,twoS,il]
  exact ⟨_,rfl,_,_,[],[],rfl,rfl,⟨rfl,rfl,rfl⟩,_,_,[],[],rfl,rfl,⟨rfl,rfl,rfl⟩,rfl,rfl⟩
end Go.VE
