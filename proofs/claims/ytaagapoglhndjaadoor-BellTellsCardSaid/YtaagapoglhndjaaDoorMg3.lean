/- Bell: Number, Holds, Clean, IsOpen and Wanted, by the program. -/
import Derived.Test.YtaagapoglhndjaaDoorMg2
namespace Go.VE
open Go.RowKit Go.Proofs
set_option maxRecDepth 100000
section
variable {Fn:Nat→List D→Out} {FnD:D→List Sh→List D→Out} {m:Nat}
theorem r_findM (bs:List Brd) (fs:List Fld) (f:Int) (k:Nat→Out) (e:Out):(real Fn FnD m).find 0 (mapM bs fs) (il f) k e=match bix f bs with
  | none=>e
  | some j=>k j:=by
 rw [show mapM bs fs=(keysB bs,fs.map row20) from rfl,r_find]
 cases bix f bs<;>rfl
theorem r_mrowsM (bs:List Brd) (fs:List Fld):(real Fn FnD m).mrows (mapM bs fs)=fs.map row20:=rfl
end
theorem s29 (n:Nat) (me h:Int) (b:Option (List Brd)) (o:Option (List Stk)) (fld other:Int) (hl:(o.getD []).length≤4611686018427387904) (hb:(b.getD []).length≤4611686018427387904) :
  FN (n+6) 29 [il me,dB b,dS o,il h,il fld,il other]=ofR me (b.getD []) (o.getD []) h fld badI (withR me (b.getD []) other badI fun j=>some (0,[.d (il ((fl me (b.getD []) (o.getD []) j).no other.toNat)),.d (il 0)])):=by
 rw [F29]
 have hop:opn8 (RP (n+5)) (il me) (dB b) (dS o) (il h) (il fld)=_:=op8 (n+1) me h b o (il fld) hl hb
 unfold G29
 refine bnd_eq hop ?_
 unfold ofR
 by_cases h1:okP me (b.getD []) (o.getD []) h=true
 ·have ho:=h1
  simp only [okP,Bool.and_eq_true] at h1
  simp only [ho,if_true,r_bnd0,r_bnd1,r_ld0,r_lds,r_lm0,r_lms,r_ln0,r_lns,r_lr0,r_lrs,r_liti,r_litb,r_neq,r_eql,r_lss,ne_eq,not_true,decide_false,decide_true,r_cond,Bool.false_eq_true,if_false,if_true,r_out,r_call,r_fnD113,s112 _ _ hb,ixI_neg,decide_eq_true_eq]
  cases hx:bix fld (b.getD []) with
  | none=>simp [badI]
  | some j =>
   obtain ⟨e,he,-,hg,hj⟩:=bord_at hx
   have h6:=bords_six h1.2.1 e (List.mem_of_getElem? he)
   have hf:=pg_at ho hj
   simp only [reduceCtorEq,if_false,ixI_at hx,rowB he,cB0,cB1,withR,hg,s91 _ _ h6,r_bnd0,r_ld0,r_not]
   by_cases h2:other=me
   ·simp [h2,badI]
   ·by_cases h3:hasP e.2 other=true
    ·have hp:par other=true:=hasP_par h3
     have hlt:=par_lt hp
     have hle:3*other.toNat+1≤20:=by omega
     have hle3:3*other.toNat+3≤20:=by omega
     simp only [h2,h3,decide_false,Bool.not_true,Bool.false_eq_true,Bool.or_false,if_false,if_true,r_bnd0,r_ld0,r_lm0,r_lms,decide_false,r_cond,Bool.false_eq_true,if_false,if_true,r_findM,hx,r_inx6 hp,r_mrowsM,r_row20 hf,r_addN,r_mulN,r_natN,r_leN,hle,r_cellN,Nat.zero_add,Nat.add_zero,get_no _ hlt]
    ·simp [h2,h3,badI]
 ·simp [h1,badI]
theorem s31 (n:Nat) (me h:Int) (b:Option (List Brd)) (o:Option (List Stk)) (fld other:Int) (hl:(o.getD []).length≤4611686018427387904) (hb:(b.getD []).length≤4611686018427387904) :
  FN (n+6) 31 [il me,dB b,dS o,il h,il fld,il other]=ofR me (b.getD []) (o.getD []) h fld badB (withR me (b.getD []) other badB fun j=>some (0,[.d (bl (isWith me other ((fl me (b.getD []) (o.getD []) j).no other.toNat))),.d (il 0)])):=by
 rw [F31]
 have hop:opn8 (RP (n+5)) (il me) (dB b) (dS o) (il h) (il fld)=_:=op8 (n+1) me h b o (il fld) hl hb
 unfold G31
 refine bnd_eq hop ?_
 unfold ofR
 by_cases h1:okP me (b.getD []) (o.getD []) h=true
 ·have ho:=h1
  simp only [okP,Bool.and_eq_true] at h1
  simp only [ho,if_true,r_bnd0,r_bnd1,r_ld0,r_lds,r_lm0,r_lms,r_ln0,r_lns,r_lr0,r_lrs,r_liti,r_litb,r_neq,r_eql,r_lss,ne_eq,not_true,decide_false,decide_true,r_cond,Bool.false_eq_true,if_false,if_true,r_out,r_call,r_fnD113,s112 _ _ hb,ixI_neg,decide_eq_true_eq]
  cases hx:bix fld (b.getD []) with
  | none=>simp [badB]
  | some j =>
   obtain ⟨e,he,-,hg,hj⟩:=bord_at hx
   have h6:=bords_six h1.2.1 e (List.mem_of_getElem? he)
   have hf:=pg_at ho hj
   simp only [reduceCtorEq,if_false,ixI_at hx,rowB he,cB0,cB1,withR,hg,s91 _ _ h6,r_bnd0,r_ld0,r_not]
   by_cases h2:other=me
   ·simp [h2,badB]
   ·by_cases h3:hasP e.2 other=true
    ·have hp:par other=true:=hasP_par h3
     have hlt:=par_lt hp
     have hle:3*other.toNat+1≤20:=by omega
     have hle3:3*other.toNat+3≤20:=by omega
     simp only [h2,h3,decide_false,Bool.not_true,Bool.false_eq_true,Bool.or_false,if_false,if_true,r_bnd0,r_ld0,r_lds,r_lm0,r_lms,decide_false,r_cond,Bool.false_eq_true,if_false,if_true,r_findM,hx,r_inx6 hp,r_mrowsM,r_row20 hf,r_addN,r_mulN,r_natN,r_leN,hle,r_cellN,Nat.zero_add,Nat.add_zero,get_no _ hlt,s86]
    ·simp [h2,h3,badB]
 ·simp [h1,badB]
theorem s33 (n:Nat) (me h:Int) (b:Option (List Brd)) (o:Option (List Stk)) (fld other:Int) (hl:(o.getD []).length≤4611686018427387904) (hb:(b.getD []).length≤4611686018427387904) :
  FN (n+6) 33 [il me,dB b,dS o,il h,il fld,il other]=ofR me (b.getD []) (o.getD []) h fld badB (withR me (b.getD []) other badB fun j=>some (0,[.d (bl (cleanF me other (fl me (b.getD []) (o.getD []) j))),.d (il 0)])):=by
 rw [F33]
 have hop:opn8 (RP (n+5)) (il me) (dB b) (dS o) (il h) (il fld)=_:=op8 (n+1) me h b o (il fld) hl hb
 unfold G33
 refine bnd_eq hop ?_
 unfold ofR
 by_cases h1:okP me (b.getD []) (o.getD []) h=true
 ·have ho:=h1
  simp only [okP,Bool.and_eq_true] at h1
  simp only [ho,if_true,r_bnd0,r_bnd1,r_ld0,r_lds,r_lm0,r_lms,r_ln0,r_lns,r_lr0,r_lrs,r_liti,r_litb,r_neq,r_eql,r_lss,ne_eq,not_true,decide_false,decide_true,r_cond,Bool.false_eq_true,if_false,if_true,r_out,r_call,r_fnD113,s112 _ _ hb,ixI_neg,decide_eq_true_eq]
  cases hx:bix fld (b.getD []) with
  | none=>simp [badB]
  | some j =>
   obtain ⟨e,he,-,hg,hj⟩:=bord_at hx
   have h6:=bords_six h1.2.1 e (List.mem_of_getElem? he)
   have hf:=pg_at ho hj
   simp only [reduceCtorEq,if_false,ixI_at hx,rowB he,cB0,cB1,withR,hg,s91 _ _ h6,r_bnd0,r_ld0,r_not]
   by_cases h2:other=me
   ·simp [h2,badB]
   ·by_cases h3:hasP e.2 other=true
    ·have hp:par other=true:=hasP_par h3
     have hlt:=par_lt hp
     have hle:3*other.toNat+1≤20:=by omega
     have hle3:3*other.toNat+3≤20:=by omega
     simp only [h2,h3,decide_false,Bool.not_true,Bool.false_eq_true,Bool.or_false,if_false,if_true,r_bnd0,r_ld0,r_lds,r_lm0,r_lms,r_eql,decide_false,r_cond,Bool.false_eq_true,if_false,if_true,decide_eq_true_eq,r_findM,hx,r_inx6 hp,r_mrowsM,r_row20 hf,r_addN,r_mulN,r_natN,r_leN,hle3,r_cellN,Nat.zero_add,Nat.add_zero,get_no _ hlt,get_af _ hlt,get_wants,s86,r_rem _ _ _ _ (show (2:Int)≠0 by decide)]
     simp only [cleanF,odd]
     cases isWith me other ((fl me (b.getD []) (o.getD []) j).no other.toNat) with
     | false=>simp
     | true=>by_cases h9:(fl me (b.getD []) (o.getD []) j).wants.tmod 2=1<;>simp [h9]
    ·simp [h2,h3,badB]
 ·simp [h1,badB]
theorem s35 (n:Nat) (me h:Int) (b:Option (List Brd)) (o:Option (List Stk)) (fld:Int) (hl:(o.getD []).length≤4611686018427387904) (hb:(b.getD []).length≤4611686018427387904) :
  FN (n+6) 35 [il me,dB b,dS o,il h,il fld]=ofR me (b.getD []) (o.getD []) h fld badB fun j=>some (0,[.d (bl (fl me (b.getD []) (o.getD []) j).opn),.d (il 0)]):=by
 rw [F35]
 have hop:opn4 (RP (n+5)) (il me) (dB b) (dS o) (il h) (il fld)=_:=op4 (n+1) me h b o (il fld) hl hb
 unfold G35
 refine bnd_eq hop ?_
 unfold ofR
 by_cases h1:okP me (b.getD []) (o.getD []) h=true
 ·have ho:=h1
  simp only [okP,Bool.and_eq_true] at h1
  simp only [ho,if_true,r_bnd0,r_bnd1,r_ld0,r_lds,r_lm0,r_lms,r_liti,r_litb,r_neq,r_lss,ne_eq,not_true,decide_false,r_cond,Bool.false_eq_true,if_false,if_true,r_out,r_call,r_fnD113,s112 _ _ hb,ixI_neg,decide_eq_true_eq]
  cases hx:bix fld (b.getD []) with
  | none=>simp [badB]
  | some j =>
   obtain ⟨e,he,-,hg,hj⟩:=bord_at hx
   have h6:=bords_six h1.2.1 e (List.mem_of_getElem? he)
   have hf:=pg_at ho hj
   simp only [reduceCtorEq,if_false,ixI_at hx,rowB he,if_false,if_true,r_findM,hx,r_mrowsM,r_row20 hf,r_addN,r_natN,r_leN,r_cellN,Nat.reduceAdd,Nat.reduceLeDiff,Nat.zero_add,Nat.add_zero,get_opn]
 ·simp [h1,badB]
theorem s37 (n:Nat) (me h:Int) (b:Option (List Brd)) (o:Option (List Stk)) (fld:Int) (hl:(o.getD []).length≤4611686018427387904) (hb:(b.getD []).length≤4611686018427387904) :
  FN (n+6) 37 [il me,dB b,dS o,il h,il fld]=ofR me (b.getD []) (o.getD []) h fld badB fun j=>some (0,[.d (bl (odd (fl me (b.getD []) (o.getD []) j).wants)),.d (il 0)]):=by
 rw [F37]
 have hop:opn4 (RP (n+5)) (il me) (dB b) (dS o) (il h) (il fld)=_:=op4 (n+1) me h b o (il fld) hl hb
 unfold G37
 refine bnd_eq hop ?_
 unfold ofR
 by_cases h1:okP me (b.getD []) (o.getD []) h=true
 ·have ho:=h1
  simp only [okP,Bool.and_eq_true] at h1
  simp only [ho,if_true,r_bnd0,r_bnd1,r_ld0,r_lds,r_lm0,r_lms,r_liti,r_litb,r_neq,r_lss,ne_eq,not_true,decide_false,r_cond,Bool.false_eq_true,if_false,if_true,r_out,r_call,r_fnD113,s112 _ _ hb,ixI_neg,decide_eq_true_eq]
  cases hx:bix fld (b.getD []) with
  | none=>simp [badB]
  | some j =>
   obtain ⟨e,he,-,hg,hj⟩:=bord_at hx
   have h6:=bords_six h1.2.1 e (List.mem_of_getElem? he)
   have hf:=pg_at ho hj
   simp only [reduceCtorEq,if_false,ixI_at hx,rowB he,r_eql,if_false,if_true,r_findM,hx,r_mrowsM,r_row20 hf,r_addN,r_natN,r_leN,r_cellN,Nat.reduceAdd,Nat.reduceLeDiff,Nat.zero_add,Nat.add_zero,get_wants,odd,r_rem _ _ _ _ (show (2:Int)≠0 by decide)]
 ·simp [h1,badB]
end Go.VE
namespace Go.VE
open Go.RowKit Go.Proofs
set_option maxRecDepth 100000
theorem fstep_ask {me P:Int} {f g:Fld} {s:Stk} (h:fstep me P f s=some g) (hf:∀ o:Nat,f.ask o≠0→P.toNat.testBit o=true):∀ o:Nat,g.ask o≠0→P.toNat.testBit o=true:=by
 unfold fstep at h
 repeat' split at h
 all_goals first
  | (cases h;done)
  | (simp only [Option.some.injEq] at h;subst h;exact hf)
  | skip
 ·rename_i hc
  simp only [Option.some.injEq] at h
  subst h
  intro o ho
  simp only [upN] at ho
  by_cases he:o=s.2.2.1.toNat
  ·have hp:hasP P s.2.2.1=true:=by
    cases hh:hasP P s.2.2.1 with
    | true=>rfl
    | false=>simp [hh] at hc
   have:=par_iff.1 (hasP_par hp)
   rw [he,← hasP_nat (P:=P) (par_lt (hasP_par hp)),Int.toNat_of_nonneg this.1]
   exact hp
  ·rw [if_neg (fun h=>he h.symm)] at ho
   exact hf o ho
theorem fread_ask (me:Int) (b:Brd):∀ (ss:List Stk) (f:Fld),(∀ o:Nat,f.ask o≠0→b.2.toNat.testBit o=true)→∀ o:Nat,(fread me b f ss).1.ask o≠0→b.2.toNat.testBit o=true
 | [],_,hf=>hf
 | s::r,f,hf=>by
  unfold fread
  split
  ·cases hs:fstep me b.2 f s with
   | none=>exact hf
   | some g=>exact fread_ask me b r g (fstep_ask hs hf)
  ·exact fread_ask me b r f hf
theorem askR_P {me P:Int} {f:Fld} (hf:∀ o:Nat,f.ask o≠0→P.toNat.testBit o=true):(List.range 6).filter (fun (o:Nat)=>!decide ((o:Int)=me)&&(P.toNat.testBit o&&odd (f.ask o)))=askR me f:=by
 unfold askR
 congr 1
 funext o
 by_cases h1:(o:Int)=me
 ·simp [h1]
 ·simp only [wan,h1,decide_false,Bool.not_false,Bool.true_and,if_false]
  by_cases h2:f.ask o=0
  ·simp [h2,odd]
  ·rw [hf o h2,Bool.true_and]
theorem l39 (n:Nat) {fld:Int} (me:Int) {bs:List Brd} {fs:List Fld} {j:Nat} {f:Fld} (hx:bix fld bs=some j) (hf:fs[j]?=some f) {P:Int} (h6:six P) (c0:D) (c1 c2 cB ch:D) (R:Rr) (n1 n2:Nat) :
  loopR [L39_4 (RP (n+3)) (il fld),L39_5 (RP (n+3)) (il fld)] M0 0 [.d (c0),.d (il P),.d (il 0),.d c1,.d c2,.m (mapM bs fs),.r R,.d (il me),.d cB,.n n1,.n n2,.d ch]=accO (some (0,[.d c1,.d c2,.m (mapM bs fs),.r R,.d (il me),.d cB,.n n1,.n n2,.d ch])) (fun acc=>some (1,[.r acc,.n acc.length,.n acc.length,.d c1,.d c2,.m (mapM bs fs),.r R,.d (il me),.d cB,.n n1,.n n2,.d ch])) (((List.range 6).filter fun (o:Nat)=>!decide ((o:Int)=me)&&(P.toNat.testBit o&&odd (f.ask o))).map rN):=by
 have:=acc_loop 6 (by omega) (rowIf (fun (o:Nat)=>!decide ((o:Int)=me)&&(P.toNat.testBit o&&odd (f.ask o))) rN) (L39_4 (RP (n+3)) (il fld)) (L39_5 (RP (n+3)) (il fld)) (fun i=>[.d (c0),.d (il P),.d (il i),.d c1,.d c2,.m (mapM bs fs),.r R,.d (il me),.d cB,.n n1,.n n2,.d ch])
  (fun i acc=>[.d (c0),.d (il P),.d (il i),.r acc,.n acc.length,.n acc.length,.d c1,.d c2,.m (mapM bs fs),.r R,.d (il me),.d cB,.n n1,.n n2,.d ch]) (some (0,[.d c1,.d c2,.m (mapM bs fs),.r R,.d (il me),.d cB,.n n1,.n n2,.d ch])) (fun acc=>some (1,[.r acc,.n acc.length,.n acc.length,.d c1,.d c2,.m (mapM bs fs),.r R,.d (il me),.d cB,.n n1,.n n2,.d ch])) ?_ ?_ ?_ ?_
 ·rw [filterMap_rowIf] at this
  exact this
 ·intro k;simp [L39_4]
 ·intro k a t _;simp [L39_5]
 ·intro i k hi hw
  have hle:3*i+2+1≤20:=by omega
  simp only [L39_4,show ((i:Int) < 6) by omega,fit0 8 (by decide),hle,get_ask _ hi,r_ld0,r_lds,r_lm0,r_lms,r_ln0,r_lns,r_lr0,r_lrs,r_liti,r_lss,decide_true,r_cond,if_true,r_neq,r_call,r_bnd0,r_natN,r_inx6n hi,r_addN,r_mulN,r_leN,r_mrowsM,r_findM,r_row20 hf,r_cellN,Nat.zero_add,Nat.add_zero,r_rem _ _ _ _ (show (2:Int)≠0 by decide),r_eql,r_rows,r_len,List.length_cons,List.length_nil,r_eqN,r_seg0,List.take,r_isNil1,r_fitsg,and_self,r_add,hw,cast1,hx,rowIf,rN,s91 _ _ h6,hasP_nat hi]
  by_cases h1:(i:Int)=me
  ·simp [h1]
  ·by_cases h2:P.toNat.testBit i=true
   ·by_cases h3:(f.ask i).tmod 2=1<;>simp [h1,h2,h3,odd]
   ·simp [h1,h2]
 ·intro i k a t hi ha hw
  simp only [List.length_cons] at ha
  have hfit:=fit1 (n:=t.length) 8 (by decide) (by omega)
  have hle:3*i+2+1≤20:=by omega
  simp only [L39_5,show ((i:Int) < 6) by omega,hfit,r_app,hle,get_ask _ hi,r_ld0,r_lds,r_lm0,r_lms,r_ln0,r_lns,r_lr0,r_lrs,r_liti,r_lss,decide_true,r_cond,if_true,r_neq,r_call,r_bnd0,r_natN,r_inx6n hi,r_addN,r_mulN,r_leN,r_mrowsM,r_findM,r_row20 hf,r_cellN,Nat.zero_add,Nat.add_zero,r_rem _ _ _ _ (show (2:Int)≠0 by decide),r_eql,r_rows,r_len,List.length_cons,List.length_nil,r_eqN,r_seg0,List.take,r_fitsg,and_self,r_add,hw,cast1,hx,rowIf,rN,s91 _ _ h6,hasP_nat hi]
  by_cases h1:(i:Int)=me
  ·simp [h1]
  ·by_cases h2:P.toNat.testBit i=true
   ·by_cases h3:(f.ask i).tmod 2=1<;>simp [h1,h2,h3,odd]
   ·simp [h1,h2]
theorem s39 (n:Nat) (me h:Int) (b:Option (List Brd)) (o:Option (List Stk)) (fld:Int) (hl:(o.getD []).length≤4611686018427387904) (hb:(b.getD []).length≤4611686018427387904) :
  FN (n+6) 39 [il me,dB b,dS o,il h,il fld]=ofR me (b.getD []) (o.getD []) h fld badN fun j=>some (0,[.d (dN (askR me (fl me (b.getD []) (o.getD []) j))),.d (il 0)]):=by
 rw [F39]
 have hop:opn4 (RP (n+5)) (il me) (dB b) (dS o) (il h) (il fld)=_:=op4 (n+1) me h b o (il fld) hl hb
 unfold G39
 refine bnd_eq hop ?_
 unfold ofR
 by_cases h1:okP me (b.getD []) (o.getD []) h=true
 ·have ho:=h1
  simp only [okP,Bool.and_eq_true] at h1
  simp only [ho,if_true,r_bnd0,r_bnd1,r_ld0,r_lds,r_lm0,r_lms,r_ln0,r_lns,r_lr0,r_lrs,r_liti,r_neq,r_lss,ne_eq,not_true,decide_false,r_cond,Bool.false_eq_true,if_false,if_true,r_out,r_call,r_fnD113,s112 _ _ hb,ixI_neg,decide_eq_true_eq]
  cases hx:bix fld (b.getD []) with
  | none=>simp [badN];rfl
  | some j =>
   obtain ⟨e,he,hfld,hg,hj⟩:=bord_at hx
   have h6:=bords_six h1.2.1 e (List.mem_of_getElem? he)
   have hf:=pg_at ho hj
   have h39:=l39 (n+2) me hx hf h6 (il e.1) (il e.1) (il e.2) (dB b) (il h) ((o.getD []).map rS) (o.getD []).length (o.getD []).length
   have hk:=fread_ask me e (o.getD []) fd0 (fun k hk=>absurd rfl hk)
   have hfe:(fread me e fd0 (o.getD [])).1=fl me (b.getD []) (o.getD []) j:=by rw [←hg];rfl
   rw [hfe] at hk
   rw [askR_P hk] at h39
   simp only [reduceCtorEq,if_false,ixI_at hx,rowB he,cB0,cB1,if_false,r_loop]
   rw [h39]
   cases askR me (fl me (b.getD []) (o.getD []) j) with
   | nil=>rfl
   | cons a t =>
    simp [accO,dN]
    exact List.take_of_length_le (by simp)
 ·simp [h1,badN];rfl
theorem l41 (n:Nat) {e:Brd} (me:Int) {bs:List Brd} {fs:List Fld} {j:Nat} {f:Fld} (hx:bix e.1 bs=some j) (hf:fs[j]?=some f) (h6:six e.2) (c1 c2 cB ch:D) (R:Rr) (n1 n2:Nat) :
  loopR [L41_4 (RP (n+3)) (rB e),L41_5 (RP (n+3)) (rB e)] M0 0 [.d (il e.1),.d (il e.2),.d (il 0),.d c1,.d c2,.m (mapM bs fs),.r R,.d (il me),.d cB,.n n1,.n n2,.d ch]=accO (some (0,[.d c1,.d c2,.m (mapM bs fs),.r R,.d (il me),.d cB,.n n1,.n n2,.d ch])) (fun acc=>some (1,[.r acc,.n acc.length,.n acc.length,.d c1,.d c2,.m (mapM bs fs),.r R,.d (il me),.d cB,.n n1,.n n2,.d ch])) (((List.range 6).filter fun (o:Nat)=>!decide ((o:Int)=me)&&(e.2.toNat.testBit o&&!isWith me o (f.no o))).map rN):=by
 have:=acc_loop 6 (by omega) (rowIf (fun (o:Nat)=>!decide ((o:Int)=me)&&(e.2.toNat.testBit o&&!isWith me o (f.no o))) rN) (L41_4 (RP (n+3)) (rB e)) (L41_5 (RP (n+3)) (rB e)) (fun i=>[.d (il e.1),.d (il e.2),.d (il i),.d c1,.d c2,.m (mapM bs fs),.r R,.d (il me),.d cB,.n n1,.n n2,.d ch])
  (fun i acc=>[.d (il e.1),.d (il e.2),.d (il i),.r acc,.n acc.length,.n acc.length,.d c1,.d c2,.m (mapM bs fs),.r R,.d (il me),.d cB,.n n1,.n n2,.d ch]) (some (0,[.d c1,.d c2,.m (mapM bs fs),.r R,.d (il me),.d cB,.n n1,.n n2,.d ch])) (fun acc=>some (1,[.r acc,.n acc.length,.n acc.length,.d c1,.d c2,.m (mapM bs fs),.r R,.d (il me),.d cB,.n n1,.n n2,.d ch])) ?_ ?_ ?_ ?_
 ·rw [filterMap_rowIf] at this
  exact this
 ·intro k;simp [L41_4]
 ·intro k a t _;simp [L41_5]
 ·intro i k hi hw
  have hle:3*i+1≤20:=by omega
  simp only [L41_4,show ((i:Int) < 6) by omega,fit0 8 (by decide),hle,get_no _ hi,s86,cB0,r_ld0,r_lds,r_lm0,r_lms,r_ln0,r_lns,r_lr0,r_lrs,r_liti,r_lss,decide_true,r_cond,if_true,r_neq,r_call,r_bnd0,r_not,r_natN,r_inx6n hi,r_addN,r_mulN,r_leN,r_mrowsM,r_findM,r_row20 hf,r_cellN,Nat.zero_add,Nat.add_zero,r_rows,r_len,List.length_cons,List.length_nil,r_eqN,r_seg0,List.take,r_isNil1,r_fitsg,and_self,r_add,hw,cast1,hx,rowIf,rN,s91 _ _ h6,hasP_nat hi]
  by_cases h1:(i:Int)=me
  ·simp [h1]
  ·by_cases h2:e.2.toNat.testBit i=true
   ·by_cases h3:isWith me i (f.no i)=true<;>simp [h1,h2,h3]
   ·simp [h1,h2]
 ·intro i k a t hi ha hw
  simp only [List.length_cons] at ha
  have hfit:=fit1 (n:=t.length) 8 (by decide) (by omega)
  have hle:3*i+1≤20:=by omega
  simp only [L41_5,show ((i:Int) < 6) by omega,hfit,r_app,hle,get_no _ hi,s86,cB0,r_ld0,r_lds,r_lm0,r_lms,r_ln0,r_lns,r_lr0,r_lrs,r_liti,r_lss,decide_true,r_cond,if_true,r_neq,r_call,r_bnd0,r_not,r_natN,r_inx6n hi,r_addN,r_mulN,r_leN,r_mrowsM,r_findM,r_row20 hf,r_cellN,Nat.zero_add,Nat.add_zero,r_rows,r_len,List.length_cons,List.length_nil,r_eqN,r_seg0,List.take,r_fitsg,and_self,r_add,hw,cast1,hx,rowIf,rN,s91 _ _ h6,hasP_nat hi]
  by_cases h1:(i:Int)=me
  ·simp [h1]
  ·by_cases h2:e.2.toNat.testBit i=true
   ·by_cases h3:isWith me i (f.no i)=true<;>simp [h1,h2,h3]
   ·simp [h1,h2]
theorem s41 (n:Nat) (me h:Int) (b:Option (List Brd)) (o:Option (List Stk)) (fld:Int) (hl:(o.getD []).length≤4611686018427387904) (hb:(b.getD []).length≤4611686018427387904) :
  FN (n+6) 41 [il me,dB b,dS o,il h,il fld]=ofR me (b.getD []) (o.getD []) h fld badN fun j=>some (0,[.d (dN (missL me ((b.getD []).getD j (0,0)).2 (fl me (b.getD []) (o.getD []) j))),.d (il 0)]):=by
 rw [F41]
 have hop:opn4 (RP (n+5)) (il me) (dB b) (dS o) (il h) (il fld)=_:=op4 (n+1) me h b o (il fld) hl hb
 unfold G41
 refine bnd_eq hop ?_
 unfold ofR
 by_cases h1:okP me (b.getD []) (o.getD []) h=true
 ·have ho:=h1
  simp only [okP,Bool.and_eq_true] at h1
  simp only [ho,if_true,r_bnd0,r_bnd1,r_ld0,r_lds,r_lm0,r_lms,r_ln0,r_lns,r_lr0,r_lrs,r_liti,r_neq,r_lss,ne_eq,not_true,decide_false,r_cond,Bool.false_eq_true,if_false,if_true,r_out,r_call,r_fnD113,s112 _ _ hb,ixI_neg,decide_eq_true_eq]
  cases hx:bix fld (b.getD []) with
  | none=>simp [badN];rfl
  | some j =>
   obtain ⟨e,he,hfld,hg,hj⟩:=bord_at hx
   have h6:=bords_six h1.2.1 e (List.mem_of_getElem? he)
   have hf:=pg_at ho hj
   have h41:=l41 (n+2) me (e:=e) (by rw [hfld];exact hx) hf h6 (il e.1) (il e.2) (dB b) (il h) ((o.getD []).map rS) (o.getD []).length (o.getD []).length
   have hm:=missR_L me e.2 (fl me (b.getD []) (o.getD []) j)
   unfold missR at hm
   rw [hm] at h41
   simp only [reduceCtorEq,if_false,ixI_at hx,rowB he,cB0,cB1,hg,if_false,r_loop]
   rw [h41]
   cases missL me e.2 (fl me (b.getD []) (o.getD []) j) with
   | nil=>rfl
   | cons a t =>
    simp [accO,dN]
    exact List.take_of_length_le (by simp)
 ·simp [h1,badN];rfl
end Go.VE
namespace Go.VE
open Go.RowKit Go.Proofs
theorem l96_0 (n:Nat) (bs:List Brd) (fs:List Fld) {j:Nat} {f:Fld} (hj:fs[j]?=some f) (c1 c2 c3 c4:D) :
  loopR [L1600095_0 (RP n)] M0 0 [.n j,.n 0,.d (il 0),.d c1,.d c2,.d c3,.d c4,.m (mapM bs fs)]=some (0,[.d c1,.d c2,.d c3,.d c4,.m (mapM bs (fs.set j { f with af:=fun _=>false }))]):=by
 have:=cnt_loop (β:=Fld) 6 (by omega) (L1600095_0 (RP n)) (fun i g=>[.n j,.n 0,.d (il i),.d c1,.d c2,.d c3,.d c4,.m (mapM bs (fs.set j g))]) (fun _ _=>True)
  (fun i g=>some (0,[.d c1,.d c2,.d c3,.d c4,.m (mapM bs (fs.set j { g with af:=fun q=>if i≤q then false else g.af q }))])) ?_ ?_ f trivial
 ·have e:fs.set j f=fs:=by
   apply List.ext_getElem?
   intro i
   rw [List.getElem?_set]
   split
   ·subst_vars;split<;>simp_all
   ·rfl
  simp only [e] at this
  simpa using this
 ·intro g k _
  simp [L1600095_0,mapM,List.map_set]
  rfl
 ·intro i g k hi _ hw ih
  have ih':=ih { g with af:=upN g.af i false } trivial
  rw [cast1] at ih'
  have e:(fun q=>if i+1≤q then false else upN g.af i false q)=fun q=>if i≤q then false else g.af q:=by
   funext q
   unfold upN
   by_cases h1:i=q
   ·subst h1;simp
   ·by_cases h2:i≤q
    ·rw [if_pos (by omega),if_pos h2]
    ·rw [if_neg (by omega),if_neg h1,if_neg h2]
  simp only [e] at ih'
  rw [←ih']
  have h20:3*i+1+1≤20:=by omega
  simp only [L1600095_0,mapM,r_ld0,r_lds,r_lm0,r_lms,r_ln0,r_lns,r_liti,r_litb,r_lss,r_cond,show ((i:Int) < 6) by omega,decide_true,if_true,r_natN,r_inxg,r_addN,r_mulN,r_mrows,r_mset,r_row20 (set_at hj g),r_setRC,r_leN,Nat.zero_add,Nat.add_zero,Int.toNat_natCast,h20,set_af (set_at hj g) hi,List.set_set,r_add,hw]
  rw [if_pos (by omega)]
theorem e96_3:@L1600095_3=@L1600095_0:=rfl
theorem e96_4:@L1600095_4=@L1600095_1:=rfl
theorem e96_5:@L1600095_5=@L1600095_2:=rfl
def enN (c1 c2 c3 c4 c5 c6:D) (m:Mr) (i:Nat) (acc:List Nat):Nat×List Yr:=match acc with
 | []=>(0,[.d c1,.d c2,.d (il i),.m m,.d c3,.d c4,.d c5,.d c6])
 | a::t=>(1,[.d c1,.d c2,.d (il i),.r ((a::t).map fun (o:Nat)=>[il o]),.n (t.length+1),.n (t.length+1),.m m,.d c3,.d c4,.d c5,.d c6])
def outN (c3 c4 c5 c6:D) (m:Mr) (acc:List Nat):Out:=match acc with
 | []=>some (0,[.m m,.d c3,.d c4,.d c5,.d c6])
 | a::t=>some (1,[.r ((a::t).map fun (o:Nat)=>[il o]),.n (t.length+1),.n (t.length+1),.m m,.d c3,.d c4,.d c5,.d c6])
theorem enN_snoc (c1 c2 c3 c4 c5 c6:D) (m:Mr) (i:Nat) (acc:List Nat) (x:Nat) :
  enN c1 c2 c3 c4 c5 c6 m i (acc++[x])=(1,[.d c1,.d c2,.d (il i),.r ((acc++[x]).map fun (o:Nat)=>[il o]),.n (acc.length+1),.n (acc.length+1),.m m,.d c3,.d c4,.d c5,.d c6]):=by
 cases acc with
 | nil=>rfl
 | cons a t=>simp [enN]
theorem l96_m (n:Nat) {bs:List Brd} {fs:List Fld} {j:Nat} {f:Fld} {fld:Int} (hj:fs[j]?=some f) (hx:bix fld bs=some j) {P:Int} (hP:six P) (me:Int) (y:List Yr) (hy:(RP (n+3)).ld y 6=il fld) (c1 c4 c5 c6:D) :
  loopR [L1600095_1 (RP (n+3)) y,L1600095_2 (RP (n+3)) y] M0 0 [.d c1,.d (il P),.d (il 0),.m (mapM bs fs),.d (il me),.d c4,.d c5,.d c6]=outN (il me) c4 c5 c6 (mapM bs fs) (missL me P f):=by
 have:=loop_ms (σ:=Nat×List Nat) [L1600095_1 (RP (n+3)) y,L1600095_2 (RP (n+3)) y] (fun s=>enN c1 (il P) (il me) c4 c5 c6 (mapM bs fs) s.1 s.2) (fun s=>6 - s.1) (fun s=>s.1≤6∧s.2.length≤s.1)
  (fun s=>outN (il me) c4 c5 c6 (mapM bs fs) (s.2++missF me P f s.1)) ?_ M0 (0,[]) ⟨by simp,by simp⟩ (by simp only [M0];omega)
 ·exact this
 ·rintro ⟨i,acc⟩ k ⟨hi,ha⟩ ih
  simp only at hi ha
  by_cases h6:i=6
  ·subst h6
   cases acc with
   | nil=>exact ⟨_,rfl,by simp [L1600095_1,enN,outN,missF_six]⟩
   | cons a t=>exact ⟨_,rfl,by simp [L1600095_2,enN,outN,missF_six]⟩
  ·have hi':i < 6:=by omega
   have hw:=wrap_succ (show i < 7 by omega) (show 7≤4611686018427387904 by omega)
   have ih0:=ih (i+1,acc) ⟨hi',by simp only;omega⟩ (by simp only;omega)
   have ih1:=ih (i+1,acc++[i]) ⟨hi',by simp;omega⟩ (by simp only;omega)
   simp only [enN_snoc,cast1,List.append_assoc,List.cons_append,List.nil_append] at ih1
   simp only at ih0
   have h20:3*i+1≤20:=by omega
   have hlt:(i:Int) < 6:=by omega
   have hin:0≤(i:Int)∧(i:Int) < (6:Nat):=by omega
   rw [missF_succ hi']
   cases acc with
   | nil =>
    refine ⟨_,rfl,?_⟩
    simp only [enN,cast1] at ih0
    simp only [enN,L1600095_1,mapM,r_ld0,r_lds,r_lm0,r_lms,r_liti,r_lss,hlt,decide_true,r_cond,if_true,r_neq,r_call,s91 _ _ hP,r_bnd0,hasP_nat hi',hy,r_find,hx,r_natN,r_inxg,r_mrows,r_row20 hj,r_addN,r_mulN,r_leN,r_cellN,Nat.zero_add,Nat.add_zero,Int.toNat_natCast,h20,get_no f hi',s86,r_not,r_rows,r_len,List.length_cons,List.length_nil,r_eqN,r_seg0,List.take,r_isNil1,r_fitsg,r_add,hw]
    rw [if_pos hin]
    by_cases h1:(i:Int)=me
    ·simp only [h1,ne_eq,not_true,decide_false,decide_true,Bool.false_eq_true,if_false,Bool.not_true,Bool.false_and]
     rw [←h1] at ih0 ⊢
     exact ih0
    ·cases h2:P.toNat.testBit i with
     | false =>
      simp only [h1,ne_eq,not_false_eq_true,decide_true,if_true,Bool.false_eq_true,if_false,Bool.and_false,Bool.false_and]
      exact ih0
     | true =>
      cases h3:isWith me i (f.no i) with
      | true =>
       simp only [h1,ne_eq,not_false_eq_true,decide_true,if_true,Bool.false_eq_true,if_false,Bool.and_false,Bool.not_true]
       exact ih0
      | false =>
       simp only [h1,ne_eq,not_false_eq_true,decide_true,if_true,Bool.not_false,decide_false,Bool.true_and]
       rw [if_pos (by decide)]
       exact ih1
   | cons a t =>
    refine ⟨_,rfl,?_⟩
    simp only [enN,cast1] at ih0
    simp only [enN,L1600095_2,mapM,r_ld0,r_lds,r_lm0,r_lms,r_ln0,r_lns,r_lr0,r_lrs,r_liti,r_lss,hlt,decide_true,r_cond,if_true,r_neq,r_call,s91 _ _ hP,r_bnd0,hasP_nat hi',hy,r_find,hx,r_natN,r_inxg,r_mrows,r_row20 hj,r_addN,r_mulN,r_leN,r_cellN,Nat.zero_add,Nat.add_zero,Int.toNat_natCast,h20,get_no f hi',s86,r_not,r_rows,r_len,List.length_cons,List.length_nil,r_eqN,r_seg0,List.take,r_fitsg,r_add,hw,List.length_map,r_app]
    rw [if_pos hin]
    by_cases h1:(i:Int)=me
    ·simp only [h1,ne_eq,not_true,decide_false,decide_true,Bool.false_eq_true,if_false,Bool.not_true,Bool.false_and]
     rw [←h1] at ih0 ⊢
     exact ih0
    ·cases h2:P.toNat.testBit i with
     | false =>
      simp only [h1,ne_eq,not_false_eq_true,decide_true,if_true,Bool.false_eq_true,if_false,Bool.and_false,Bool.false_and]
      exact ih0
     | true =>
      cases h3:isWith me i (f.no i) with
      | true =>
       simp only [h1,ne_eq,not_false_eq_true,decide_true,if_true,Bool.false_eq_true,if_false,Bool.and_false,Bool.not_true]
       exact ih0
      | false =>
       simp only [h1,ne_eq,not_false_eq_true,decide_true,if_true,Bool.not_false,decide_false,Bool.true_and]
       simp only [List.length_cons] at ha
       rw [if_pos (by omega)]
       simp only [List.map_append,List.map_cons,List.map_nil,List.length_cons] at ih1 ⊢
       exact ih1
def enP (l:List Stk) (bs:List Brd) (c1 c2 c3 c4:D) (i:Nat) (fs:List Fld):List Yr:=[.d (dS (some l)),.d (il l.length),.d (il i),.m (mapM bs fs),.d c1,.d c2,.d c3,.d c4]
def outP (bs:List Brd) (c1 c2 c3 c4:D) (q:List Fld×Bool):Out:=if q.2=true then some (1,[.m (mapM bs q.1),.d c1,.d c2,.d c3,.d c4]) else some (0,[.d (bl false),.m (mapM bs q.1),.d c1,.d c2,.d c3,.d c4])
set_option maxRecDepth 20000 in
theorem l96 (n:Nat) (b:Option (List Brd)) (hb:(b.getD []).length≤4611686018427387904) (h6:∀ c∈b.getD [],six c.2) (l:List Stk) (hl:l.length≤4611686018427387904) (me:Int) (c3 c4:D) (fs:List Fld) (hf:fs.length=(b.getD []).length) :
  loopR [L1600095_6 (RP (n+3))] M0 0 (enP l (b.getD []) (il me) (dB b) c3 c4 0 fs)=outP (b.getD []) (il me) (dB b) c3 c4 (pread me (b.getD []) fs l):=by
 have:=range_loop (β:=List Fld) l hl (L1600095_6 (RP (n+3))) (fun i fs=>enP l (b.getD []) (il me) (dB b) c3 c4 i fs) (fun _ fs=>fs.length=(b.getD []).length)
  (fun _ r fs=>outP (b.getD []) (il me) (dB b) c3 c4 (pread me (b.getD []) fs r)) ?_ ?_ M0 fs hf (M0_big hl)
 ·exact this
 ·intro fs k _
  simp [L1600095_6,enP,outP,pread]
 ·intro i s r fs k hi hd hlt hw hfs ih
  have hlt':(i:Int) < (l.length:Int):=by omega
  have hin:0≤(i:Int)∧(i:Int) < (l.length:Nat):=by omega
  rw [pread]
  by_cases hs:okS s=true
  ·rw [if_pos hs]
   cases hx:bix s.2.1 (b.getD []) with
   | none =>
    have hneg:ixI s.2.1 (b.getD []) < 0:=ixI_neg.2 hx
    simp only [enP,L1600095_6,r_ld0,r_lds,r_lm0,r_lms,r_ln0,r_lns,r_lss,hlt',decide_true,r_cond,if_true,rowS (o:=some l) hi,cS0,cS1,cS2,cS3,r_call,s107,r_bnd0,hs,r_not,Bool.not_true,Bool.false_eq_true,if_false,r_fnD113,s112 _ _ hb,r_liti,hneg,r_litb,r_out,r_eql,r_bnd_ite,outP]
    simp
   | some j =>
    obtain ⟨hj1,hj2⟩:=bix_some hx
    have hnn:¬ (ixI s.2.1 (b.getD []) < 0):=by rw [ixI_neg,hx];simp
    have hix:ixI s.2.1 (b.getD [])=(j:Int):=by simp [ixI,hx]
    obtain ⟨e,he⟩:∃ e,(b.getD [])[j]?=some e:=⟨_,List.getElem?_eq_getElem hj1⟩
    have hP:six e.2:=h6 e (List.mem_of_getElem? he)
    have hge:(b.getD []).getD j (0,0)=e:=by simp [List.getD_eq_getElem?_getD,he]
    obtain ⟨f,hf⟩:∃ f,fs[j]?=some f:=⟨_,List.getElem?_eq_getElem (by omega)⟩
    have hgf:fs.getD j fd0=f:=by simp [List.getD_eq_getElem?_getD,hf]
    simp only
    rw [hge,hgf]
    have ihs:∀ g,k 0 (enP l (b.getD []) (il me) (dB b) c3 c4 (i+1) (fs.set j g))=outP (b.getD []) (il me) (dB b) c3 c4 (pread me (b.getD []) (fs.set j g) r):=fun g=>ih _ (by rw [set_len];exact hfs)
    simp only [enP,cast1] at ihs
    simp only [enP,L1600095_6,r_ld0,r_lds,r_lm0,r_lms,r_lss,hlt',decide_true,r_cond,if_true,rowS (o:=some l) hi,cS0,cS1,cS2,cS3,r_call,s107,r_bnd0,hs,r_not,Bool.not_true,Bool.false_eq_true,if_false,r_fnD113,s112 _ _ hb,r_liti,hnn,decide_false,r_litb,r_out]
    rw [hix,rowB he]
    simp only [cB0,cB1,r_bnd0,r_ld0,r_lds,r_lm0,r_lms]
    rcases okS_kind hs with ⟨h1,ho⟩ | h1 | ⟨h1,ho⟩ | h1
    ·have hp:=par_lt ho
     have hq:0≤s.2.2.1∧s.2.2.1 < (6:Nat):=by have:=par_iff.1 ho;omega
     have k1:3*s.2.2.1.toNat+1≤20:=by omega
     have k2:3*s.2.2.1.toNat+1+1≤20:=by omega
     unfold fstep
     simp only [h1,r_eql,decide_true,if_true,r_bnd0,r_ld0,r_lds,r_lm0,r_lms,r_not,r_cond,Bool.not_true,Bool.false_eq_true,if_false,s91 _ _ hP,mapM,r_natN,r_inxg,hq,and_self,r_mrows,r_row20 hf,r_addN,r_mulN,r_leN,r_cellN,Nat.zero_add,Nat.add_zero,get_opn,get_no f hp,r_leq,r_selK1,r_find,hx,r_mset,r_setRC,set_no hf hp,r_row20 (set_at hf _),set_af (set_at hf _) hp,List.set_set,r_add,hw,k1,k2,show 19+1≤20 by decide,decide_eq_true_eq]
     by_cases g1:s.2.2.1=me
     ·simp [g1,outP,mapM]
     ·by_cases g2:hasP e.2 s.2.2.1=true
      ·by_cases g3:f.opn=true
       ·simp [g1,g2,g3,outP,mapM]
       ·by_cases g4:s.2.2.2≤f.no s.2.2.1.toNat
        ·simp [g1,g2,g3,g4,outP,mapM]
        ·have ih':=ihs { f with no:=upN f.no s.2.2.1.toNat s.2.2.2,af:=upN f.af s.2.2.1.toNat true }
         have g3':f.opn=false:=by simpa using g3
         simp only [mapM,g3'] at ih'
         simp only [g1,g2,g3',g4,if_false,r_bnd0,r_ld0,r_lds,r_lm0,r_lms,r_not,r_cond,Bool.not_true,Bool.false_eq_true,decide_false,Bool.or_false]
         exact ih'
      ·simp [g1,g2,outP,mapM]
    ·unfold fstep
     simp only [h1,r_eql,show ¬ ((2:Int)=1) by decide,show ¬ ((2:Int)=3) by decide,decide_false,if_true,r_bnd0,r_ld0,r_lds,r_lm0,r_lms,r_not,r_cond,Bool.not_true,Bool.false_eq_true,if_false,mapM,r_natN,r_mrows,r_row20 hf,r_addN,r_mulN,r_leN,r_cellN,Nat.zero_add,Nat.add_zero,get_wants,r_leq,r_selK2,r_find,hx,r_mset,r_setRC,set_wants hf,r_loop,e96_3,r_add,hw,show 18+1≤20 by decide,decide_eq_true_eq]
     by_cases g1:s.2.2.2≤f.wants
     ·simp [g1,outP,mapM]
     ·have ih':=ihs { f with wants:=s.2.2.2,af:=fun _=>false }
      have h0:=l96_0 (n+3) (b.getD []) (fs.set j { f with wants:=s.2.2.2 }) (set_at hf _) (il me) (dB b) c3 c4
      simp only [mapM,List.set_set] at ih' h0
      simp only [g1,if_false,h0,r_bnd0,r_ld0,r_lds,r_lm0,r_lms]
      exact ih'
    ·have hp:=par_lt ho
     have hq:0≤s.2.2.1∧s.2.2.1 < (6:Nat):=by have:=par_iff.1 ho;omega
     have k2:3*s.2.2.1.toNat+2+1≤20:=by omega
     unfold fstep
     simp only [h1,r_eql,show ¬ ((3:Int)=1) by decide,show ¬ ((3:Int)=2) by decide,decide_true,decide_false,if_true,r_bnd0,r_ld0,r_lds,r_lm0,r_lms,r_not,r_cond,Bool.not_true,Bool.false_eq_true,if_false,s91 _ _ hP,mapM,r_natN,r_inxg,hq,and_self,r_mrows,r_row20 hf,r_addN,r_mulN,r_leN,r_cellN,Nat.zero_add,Nat.add_zero,get_ask f hp,r_leq,r_selK3,r_find,hx,r_mset,r_setRC,set_ask hf hp,r_add,hw,k2,decide_eq_true_eq]
     by_cases g1:s.2.2.1=me
     ·simp [g1,outP,mapM]
     ·by_cases g2:hasP e.2 s.2.2.1=true
      ·by_cases g4:s.2.2.2≤f.ask s.2.2.1.toNat
       ·simp [g1,g2,g4,outP,mapM]
       ·have ih':=ihs { f with ask:=upN f.ask s.2.2.1.toNat s.2.2.2 }
        simp only [mapM] at ih'
        simp only [g1,g2,g4,if_false,r_bnd0,r_ld0,r_lds,r_lm0,r_lms,Bool.not_true,Bool.false_eq_true,decide_false,Bool.or_false]
        exact ih'
      ·simp [g1,g2,outP,mapM]
    ·unfold fstep
     have he1:e.1=s.2.1:=by rw [←hge];exact hj2
     have hj0:¬ ((j:Int) < 0):=by omega
     simp only [h1,r_eql,show ¬ ((4:Int)=1) by decide,show ¬ ((4:Int)=2) by decide,show ¬ ((4:Int)=3) by decide,decide_false,if_true,r_bnd0,r_ld0,r_lds,r_lm0,r_lms,r_ln0,r_lns,r_not,r_cond,Bool.not_true,Bool.false_eq_true,if_false,mapM,r_natN,r_selK4,r_find,hx,r_fnD113,s112 _ _ hb,hix,hj0,rowB he,cB0,cB1,r_lss,r_mrows,r_row20 hf,r_addN,r_mulN,r_leN,r_cellN,Nat.zero_add,Nat.add_zero,get_opn,r_eqlB,r_mset,r_setRC,r_loop,e96_4,e96_5,r_add,hw,show 19+1≤20 by decide,he1,decide_eq_true_eq]
     by_cases g1:s.2.2.2=1
     ·cases g2:f.opn with
      | true=>simp [g1,outP,mapM]
      | false =>
       have h0:=fun y hy=>l96_m (n:=n) hf hx hP me y hy (il s.2.1) (dB b) c3 c4
       simp only [mapM] at h0
       simp only [g1,decide_true,show ((false==true)=true)=False by simp,if_false,if_true]
       rw [h0 _ (by simp)]
       cases hm:missL me e.2 f with
       | nil =>
        have ih':=ihs { f with opn:=true }
        simp only [mapM] at ih'
        simp only [outN,r_bnd0,r_ld0,r_lds,r_lm0,r_lms,r_gtr,r_cond,show ¬ ((0:Int) < 0) by decide,decide_false,Bool.false_eq_true,if_false,r_row20 hf,set_opn hf,r_not,Bool.not_true,List.isEmpty_nil,Bool.and_false,Bool.or_false,show ((false==true)=true)=False by simp]
        exact ih'
       | cons a t =>
        have:(0:Int) < ((t.length+1:Nat):Int):=by omega
        simp only [outN,r_bnd0,r_bnd1,r_ld0,r_lds,r_lm0,r_lms,r_ln0,r_lns,r_lr0,r_gtr,r_cond,r_natD,this,decide_true,if_true,r_not,Bool.not_false]
        simp [outP,mapM]
     ·cases g2:f.opn with
      | true =>
       have ih':=ihs { f with opn:=false }
       simp only [mapM] at ih'
       simp only [g1,decide_false,show ((true==false)=true)=False by simp,if_false,Bool.false_eq_true,set_opn hf,r_bnd0,r_ld0,r_lds,r_lm0,r_lms,r_not,r_cond,Bool.not_true,Bool.false_and,Bool.or_false]
       exact ih'
      | false=>simp [g1,outP,mapM]
  ·simp only [enP,L1600095_6,r_ld0,r_lds,r_lm0,r_lms,r_lss,hlt',decide_true,r_cond,if_true,rowS (o:=some l) hi,cS0,cS1,cS2,cS3,r_call,s107,r_bnd0,hs,r_not,r_out,r_litb]
   simp [outP]
theorem s1600095 (n:Nat) (b:Option (List Brd)) (hb:(b.getD []).length≤4611686018427387904) (h6:∀ c∈b.getD [],six c.2) (l:List Stk) (hl:l.length≤4611686018427387904) (me:Int) (c3 c4:D) (fs:List Fld) (hf:fs.length=(b.getD []).length) :
  FN (n+4) 1600095 [il me,dB b,c3,c4,.mp true (keysB (b.getD [])) (fs.map row20),.sl 4 (l.map rS)] =
   some (0,[.d (bl (pread me (b.getD []) fs l).2),.d (il me),.d (dB b),.d c3,.d c4,.d (.mp true (keysB (b.getD [])) ((pread me (b.getD []) fs l).1.map row20))]):=by
 rw [F1600095]
 have h:=l96 n b hb h6 l hl me c3 c4 fs hf
 have ha:∀ k:Mr→Out,(RP (n+3)).asM true (.mp true (keysB (b.getD [])) (fs.map row20)) k=k (mapM (b.getD []) fs):=fun _=>rfl
 have hd:(D.sl 4 (l.map rS))=dS (some l):=rfl
 have hn:(RP (n+3)).lenD (dS (some l))=fun k=>k (il l.length):=by funext k;exact lenL _ _ _ k
 simp only [enP,Int.natCast_zero] at h
 simp only [G1600095,hd,hn,ha,r_loop,r_liti,h,outP]
 cases (pread me (b.getD []) fs l).2<;>simp [r_mpD,mapM]
end Go.VE
