/- Bell: Recopy's loops over the parishes, by the program (printed by mkbf5.py). -/
import Derived.Test.YtaagapoglhndjaaDoorMg2
namespace Go.VE
open Go.RowKit Go.Proofs
set_option maxRecDepth 100000
theorem l53_1 (n:Nat) {e:Brd} (me:Int) {bs:List Brd} {fs:List Fld} {j:Nat} {f:Fld} (hx:bix e.1 bs=some j) (hf:fs[j]?=some f) (h6:six e.2) (hno:∀ o:Nat,f.no o≠0→e.2.toNat.testBit o=true) (R:Rr) (m1 m2 m3 n1 n2:Nat) (c1 c2 cB ch z1 z2:D) (out:List Stk) (hl:out.length≤100) :
  loopR [L53_1 (RP (n+3)) (rB e)] M0 0 [.d (il e.1),.d (il e.2),.d (il 0),.n out.length,.n m1,.n m2,.d c1,.d c2,.m (mapM bs fs),.r R,.r (out.map rS),.n m3,.d (il me),.d cB,.n n1,.n n2,.d ch,.d z1,.d z2]=some (0,[.n (out++dirtyL me e.1 f 0).length,.n m1,.n m2,.d c1,.d c2,.m (mapM bs fs),.r R,.r ((out++dirtyL me e.1 f 0).map rS),.n m3,.d (il me),.d cB,.n n1,.n n2,.d ch,.d z1,.d z2]):=by
 have:=cnt_loop (β:=List Stk) 6 (by omega) (L53_1 (RP (n+3)) (rB e)) (fun i g=>[.d (il e.1),.d (il e.2),.d (il i),.n g.length,.n m1,.n m2,.d c1,.d c2,.m (mapM bs fs),.r R,.r (g.map rS),.n m3,.d (il me),.d cB,.n n1,.n n2,.d ch,.d z1,.d z2]) (fun i g=>g.length≤100+i)
  (fun i g=>some (0,[.n (g++dirtyL me e.1 f i).length,.n m1,.n m2,.d c1,.d c2,.m (mapM bs fs),.r R,.r ((g++dirtyL me e.1 f i).map rS),.n m3,.d (il me),.d cB,.n n1,.n n2,.d ch,.d z1,.d z2])) ?_ ?_ out hl
 ·exact this
 ·intro g k _
  simp [L53_1,rg,dirtyL]
 ·rintro i g k hi hg hw ih
  have hle3:3*i≤17:=by omega
  have hle4:3*i≤19:=by omega
  have hlt:(i:Int) < 6:=by omega
  have hd:dirtyL me e.1 f i=(if isDirty me f i=true then [talK e.1 f i] else [])++dirtyL me e.1 f (i+1):=flt_step hi _ _
  have one:∀ (c:Bool) (x:Stk),(if c=true then [x] else []).length≤1:=fun c x=>by cases c<;>simp
  have ih0:=ih (g++(if isDirty me f i=true then [talK e.1 f i] else [])) (by
   have o1:=one (isDirty me f i) (talK e.1 f i)
   simp only [List.length_append]
   omega)
  have hfit:=fitC (a:=g.length) (b:=1) (c:=32) (by omega) (by omega) (by omega)
  have hcl:cleanF me (i:Int) f=(isWith me i (f.no i)&&(odd f.wants&&f.af i)):=by simp only [cleanF,Int.toNat_natCast]
  rw [hd,← List.append_assoc,← ih0]
  simp only [L53_1,isDirty,talK,hcl,r_ld0,r_lds,r_lm0,r_lms,r_ln0,r_lns,r_lr0,r_lrs,r_liti,r_litb,r_lss,decide_true,decide_false,r_cond,if_true,if_false,Bool.false_eq_true,r_neq,r_call,r_bnd0,r_natN,r_inx6n hi,r_addN,r_mulN,r_leN,r_mrowsM,r_findM,r_cellN,Nat.zero_add,Nat.add_zero,r_row20 hf,get_ask f hi,get_no f hi,get_af f hi,get_wants,hlt,s91 _ _ h6,hasP_nat hi,s86,hx,hle3,hle4,Nat.reduceAdd,Nat.reduceLeDiff,r_rem _ _ _ _ (show (2:Int)≠0 by decide),r_eql,r_eqlB,r_rows,r_len,List.length_cons,List.length_nil,List.length_map,List.length_append,r_eqN,r_seg0,List.take,r_fitsg,hfit,and_self,r_add,hw,cast1,r_app,r_out,ne_eq,not_true,not_false_eq_true,cB0]
  by_cases h1:(i:Int)=me
  ·simp [h1]
  ·by_cases h2:e.2.toNat.testBit i=true
   ·by_cases h3:f.no i=0
    ·simp [h1,h2,h3]
    ·rcases Bool.eq_false_or_eq_true (isWith me (i:Int) (f.no i)) with h4 | h4
     ·by_cases h5:f.wants.tmod 2=1
      ·rcases Bool.eq_false_or_eq_true (f.af i) with h7 | h7<;>simp only [h1,h2,h3,h4,h5,h7,r_ld0,r_lds,r_lm0,r_lms,r_ln0,r_lns,r_lr0,r_lrs,r_liti,r_litb,r_lss,decide_true,decide_false,r_cond,if_true,if_false,Bool.false_eq_true,r_neq,r_call,r_bnd0,r_natN,r_inx6n hi,r_addN,r_mulN,r_leN,r_mrowsM,r_findM,r_cellN,Nat.zero_add,Nat.add_zero,r_row20 hf,get_ask f hi,get_no f hi,get_af f hi,get_wants,hlt,s91 _ _ h6,hasP_nat hi,s86,hx,hle3,hle4,Nat.reduceAdd,Nat.reduceLeDiff,r_rem _ _ _ _ (show (2:Int)≠0 by decide),r_eql,r_eqlB,r_rows,r_len,List.length_cons,List.length_nil,List.length_map,List.length_append,r_eqN,r_seg0,List.take,r_fitsg,hfit,and_self,r_add,hw,cast1,r_app,r_out,ne_eq,not_true,not_false_eq_true,cB0]<;>simp [rS,odd,h5]
      ·simp only [h1,h2,h3,h4,h5,r_ld0,r_lds,r_lm0,r_lms,r_ln0,r_lns,r_lr0,r_lrs,r_liti,r_litb,r_lss,decide_true,decide_false,r_cond,if_true,if_false,Bool.false_eq_true,r_neq,r_call,r_bnd0,r_natN,r_inx6n hi,r_addN,r_mulN,r_leN,r_mrowsM,r_findM,r_cellN,Nat.zero_add,Nat.add_zero,r_row20 hf,get_ask f hi,get_no f hi,get_af f hi,get_wants,hlt,s91 _ _ h6,hasP_nat hi,s86,hx,hle3,hle4,Nat.reduceAdd,Nat.reduceLeDiff,r_rem _ _ _ _ (show (2:Int)≠0 by decide),r_eql,r_eqlB,r_rows,r_len,List.length_cons,List.length_nil,List.length_map,List.length_append,r_eqN,r_seg0,List.take,r_fitsg,hfit,and_self,r_add,hw,cast1,r_app,r_out,ne_eq,not_true,not_false_eq_true,cB0]
       simp [rS,odd,h5]
     ·simp only [h1,h2,h3,h4,r_ld0,r_lds,r_lm0,r_lms,r_ln0,r_lns,r_lr0,r_lrs,r_liti,r_litb,r_lss,decide_true,decide_false,r_cond,if_true,if_false,Bool.false_eq_true,r_neq,r_call,r_bnd0,r_natN,r_inx6n hi,r_addN,r_mulN,r_leN,r_mrowsM,r_findM,r_cellN,Nat.zero_add,Nat.add_zero,r_row20 hf,get_ask f hi,get_no f hi,get_af f hi,get_wants,hlt,s91 _ _ h6,hasP_nat hi,s86,hx,hle3,hle4,Nat.reduceAdd,Nat.reduceLeDiff,r_rem _ _ _ _ (show (2:Int)≠0 by decide),r_eql,r_eqlB,r_rows,r_len,List.length_cons,List.length_nil,List.length_map,List.length_append,r_eqN,r_seg0,List.take,r_fitsg,hfit,and_self,r_add,hw,cast1,r_app,r_out,ne_eq,not_true,not_false_eq_true,cB0]
      simp [rS]
   ·have h3:f.no i=0:=by
     by_cases h:f.no i=0
     ·exact h
     ·exact absurd (hno i h) h2
    simp [h1,h2,h3]
theorem l53_2 (n:Nat) {e:Brd} (me:Int) {bs:List Brd} {fs:List Fld} {j:Nat} {f:Fld} (hx:bix e.1 bs=some j) (hf:fs[j]?=some f) (h6:six e.2) (hno:∀ o:Nat,f.no o≠0→e.2.toNat.testBit o=true) (R:Rr) (y:List Yr) (hy:(RP (n+3)).ld y 8=il e.1) (m1 m2 m3 n1 n2:Nat) (c1 c2 cB ch z1 z2:D) (out:List Stk) (hl:out.length≤100) :
  loopR [L53_2 (RP (n+3)) y] M0 0 [.d (il e.1),.d (il e.2),.d (il 0),.n out.length,.r R,.r (out.map rS),.m (mapM bs fs),.n m1,.n m2,.d c1,.d c2,.n m3,.d (il me),.d cB,.n n1,.n n2,.d ch,.d z1,.d z2]=some (0,[.n (out++cleanL me e.1 f 0).length,.r R,.r ((out++cleanL me e.1 f 0).map rS),.m (mapM bs fs),.n m1,.n m2,.d c1,.d c2,.n m3,.d (il me),.d cB,.n n1,.n n2,.d ch,.d z1,.d z2]):=by
 have:=cnt_loop (β:=List Stk) 6 (by omega) (L53_2 (RP (n+3)) y) (fun i g=>[.d (il e.1),.d (il e.2),.d (il i),.n g.length,.r R,.r (g.map rS),.m (mapM bs fs),.n m1,.n m2,.d c1,.d c2,.n m3,.d (il me),.d cB,.n n1,.n n2,.d ch,.d z1,.d z2]) (fun i g=>g.length≤100+i)
  (fun i g=>some (0,[.n (g++cleanL me e.1 f i).length,.r R,.r ((g++cleanL me e.1 f i).map rS),.m (mapM bs fs),.n m1,.n m2,.d c1,.d c2,.n m3,.d (il me),.d cB,.n n1,.n n2,.d ch,.d z1,.d z2])) ?_ ?_ out hl
 ·exact this
 ·intro g k _
  simp [L53_2,rg,cleanL]
 ·rintro i g k hi hg hw ih
  have hle3:3*i≤17:=by omega
  have hle4:3*i≤19:=by omega
  have hlt:(i:Int) < 6:=by omega
  have hd:cleanL me e.1 f i=(if isClean me f i=true then [talK e.1 f i] else [])++cleanL me e.1 f (i+1):=flt_step hi _ _
  have one:∀ (c:Bool) (x:Stk),(if c=true then [x] else []).length≤1:=fun c x=>by cases c<;>simp
  have ih0:=ih (g++(if isClean me f i=true then [talK e.1 f i] else [])) (by
   have o1:=one (isClean me f i) (talK e.1 f i)
   simp only [List.length_append]
   omega)
  have hfit:=fitC (a:=g.length) (b:=1) (c:=32) (by omega) (by omega) (by omega)
  have hcl:cleanF me (i:Int) f=(isWith me i (f.no i)&&(odd f.wants&&f.af i)):=by simp only [cleanF,Int.toNat_natCast]
  rw [hd,← List.append_assoc,← ih0]
  simp only [L53_2,isClean,talK,hcl,hy,r_ld0,r_lds,r_lm0,r_lms,r_ln0,r_lns,r_lr0,r_lrs,r_liti,r_litb,r_lss,decide_true,decide_false,r_cond,if_true,if_false,Bool.false_eq_true,r_neq,r_call,r_bnd0,r_natN,r_inx6n hi,r_addN,r_mulN,r_leN,r_mrowsM,r_findM,r_cellN,Nat.zero_add,Nat.add_zero,r_row20 hf,get_ask f hi,get_no f hi,get_af f hi,get_wants,hlt,s91 _ _ h6,hasP_nat hi,s86,hx,hle3,hle4,Nat.reduceAdd,Nat.reduceLeDiff,r_rem _ _ _ _ (show (2:Int)≠0 by decide),r_eql,r_eqlB,r_rows,r_len,List.length_cons,List.length_nil,List.length_map,List.length_append,r_eqN,r_seg0,List.take,r_fitsg,hfit,and_self,r_add,hw,cast1,r_app,r_out,ne_eq,not_true,not_false_eq_true,cB0]
  by_cases h1:(i:Int)=me
  ·simp [h1]
  ·by_cases h2:e.2.toNat.testBit i=true
   ·by_cases h3:f.no i=0
    ·simp [h1,h2,h3]
    ·rcases Bool.eq_false_or_eq_true (isWith me (i:Int) (f.no i)) with h4 | h4
     ·by_cases h5:f.wants.tmod 2=1
      ·rcases Bool.eq_false_or_eq_true (f.af i) with h7 | h7<;>simp only [h1,h2,h3,h4,h5,h7,hy,r_ld0,r_lds,r_lm0,r_lms,r_ln0,r_lns,r_lr0,r_lrs,r_liti,r_litb,r_lss,decide_true,decide_false,r_cond,if_true,if_false,Bool.false_eq_true,r_neq,r_call,r_bnd0,r_natN,r_inx6n hi,r_addN,r_mulN,r_leN,r_mrowsM,r_findM,r_cellN,Nat.zero_add,Nat.add_zero,r_row20 hf,get_ask f hi,get_no f hi,get_af f hi,get_wants,hlt,s91 _ _ h6,hasP_nat hi,s86,hx,hle3,hle4,Nat.reduceAdd,Nat.reduceLeDiff,r_rem _ _ _ _ (show (2:Int)≠0 by decide),r_eql,r_eqlB,r_rows,r_len,List.length_cons,List.length_nil,List.length_map,List.length_append,r_eqN,r_seg0,List.take,r_fitsg,hfit,and_self,r_add,hw,cast1,r_app,r_out,ne_eq,not_true,not_false_eq_true,cB0]<;>simp [rS,odd,h5]
      ·simp only [h1,h2,h3,h4,h5,hy,r_ld0,r_lds,r_lm0,r_lms,r_ln0,r_lns,r_lr0,r_lrs,r_liti,r_litb,r_lss,decide_true,decide_false,r_cond,if_true,if_false,Bool.false_eq_true,r_neq,r_call,r_bnd0,r_natN,r_inx6n hi,r_addN,r_mulN,r_leN,r_mrowsM,r_findM,r_cellN,Nat.zero_add,Nat.add_zero,r_row20 hf,get_ask f hi,get_no f hi,get_af f hi,get_wants,hlt,s91 _ _ h6,hasP_nat hi,s86,hx,hle3,hle4,Nat.reduceAdd,Nat.reduceLeDiff,r_rem _ _ _ _ (show (2:Int)≠0 by decide),r_eql,r_eqlB,r_rows,r_len,List.length_cons,List.length_nil,List.length_map,List.length_append,r_eqN,r_seg0,List.take,r_fitsg,hfit,and_self,r_add,hw,cast1,r_app,r_out,ne_eq,not_true,not_false_eq_true,cB0]
       simp [rS,odd,h5]
     ·simp only [h1,h2,h3,h4,hy,r_ld0,r_lds,r_lm0,r_lms,r_ln0,r_lns,r_lr0,r_lrs,r_liti,r_litb,r_lss,decide_true,decide_false,r_cond,if_true,if_false,Bool.false_eq_true,r_neq,r_call,r_bnd0,r_natN,r_inx6n hi,r_addN,r_mulN,r_leN,r_mrowsM,r_findM,r_cellN,Nat.zero_add,Nat.add_zero,r_row20 hf,get_ask f hi,get_no f hi,get_af f hi,get_wants,hlt,s91 _ _ h6,hasP_nat hi,s86,hx,hle3,hle4,Nat.reduceAdd,Nat.reduceLeDiff,r_rem _ _ _ _ (show (2:Int)≠0 by decide),r_eql,r_eqlB,r_rows,r_len,List.length_cons,List.length_nil,List.length_map,List.length_append,r_eqN,r_seg0,List.take,r_fitsg,hfit,and_self,r_add,hw,cast1,r_app,r_out,ne_eq,not_true,not_false_eq_true,cB0]
      simp [rS]
   ·have h3:f.no i=0:=by
     by_cases h:f.no i=0
     ·exact h
     ·exact absurd (hno i h) h2
    simp [h1,h2,h3]
theorem l53_3 (n:Nat) {e:Brd} (me:Int) {bs:List Brd} {fs:List Fld} {j:Nat} {f:Fld} (hx:bix e.1 bs=some j) (hf:fs[j]?=some f) (h6:six e.2) (hask:∀ o:Nat,f.ask o≠0→e.2.toNat.testBit o=true) (R:Rr) (n1 n2:Nat) (c1 c2 cB ch z1 z2:D) (out:List Stk) (hl:out.length≤100) :
  loopR [L53_3 (RP (n+3))] M0 0 [.d (il e.1),.d (il e.2),.d (il 0),.n out.length,.d c1,.d c2,.d (il me),.d cB,.n n1,.n n2,.d ch,.d (il e.1),.d z1,.n j,.n 0,.m (mapM bs fs),.r (out.map rS),.r R]=some (0,[.n (out++askedL me e.1 f 0).length,.d c1,.d c2,.d (il me),.d cB,.n n1,.n n2,.d ch,.d (il e.1),.d z1,.n j,.n 0,.m (mapM bs fs),.r ((out++askedL me e.1 f 0).map rS),.r R]):=by
 have:=cnt_loop (β:=List Stk) 6 (by omega) (L53_3 (RP (n+3))) (fun i g=>[.d (il e.1),.d (il e.2),.d (il i),.n g.length,.d c1,.d c2,.d (il me),.d cB,.n n1,.n n2,.d ch,.d (il e.1),.d z1,.n j,.n 0,.m (mapM bs fs),.r (g.map rS),.r R]) (fun i g=>g.length≤100+i)
  (fun i g=>some (0,[.n (g++askedL me e.1 f i).length,.d c1,.d c2,.d (il me),.d cB,.n n1,.n n2,.d ch,.d (il e.1),.d z1,.n j,.n 0,.m (mapM bs fs),.r ((g++askedL me e.1 f i).map rS),.r R])) ?_ ?_ out hl
 ·exact this
 ·intro g k _
  simp [L53_3,rg,askedL]
 ·rintro i g k hi hg hw ih
  have hle3:3*i≤17:=by omega
  have hle4:3*i≤19:=by omega
  have hlt:(i:Int) < 6:=by omega
  have hd:askedL me e.1 f i=(if isAsked me f i=true then [askK e.1 f i] else [])++askedL me e.1 f (i+1):=flt_step hi _ _
  have one:∀ (c:Bool) (x:Stk),(if c=true then [x] else []).length≤1:=fun c x=>by cases c<;>simp
  have ih0:=ih (g++(if isAsked me f i=true then [askK e.1 f i] else [])) (by
   have o1:=one (isAsked me f i) (askK e.1 f i)
   simp only [List.length_append]
   omega)
  have hfit:=fitC (a:=g.length) (b:=1) (c:=32) (by omega) (by omega) (by omega)
  have hcl:cleanF me (i:Int) f=(isWith me i (f.no i)&&(odd f.wants&&f.af i)):=by simp only [cleanF,Int.toNat_natCast]
  rw [hd,← List.append_assoc,← ih0]
  simp only [L53_3,isAsked,askK,hcl,r_ld0,r_lds,r_lm0,r_lms,r_ln0,r_lns,r_lr0,r_lrs,r_liti,r_litb,r_lss,decide_true,decide_false,r_cond,if_true,if_false,Bool.false_eq_true,r_neq,r_call,r_bnd0,r_natN,r_inx6n hi,r_addN,r_mulN,r_leN,r_mrowsM,r_findM,r_cellN,Nat.zero_add,Nat.add_zero,r_row20 hf,get_ask f hi,get_no f hi,get_af f hi,get_wants,hlt,s91 _ _ h6,hasP_nat hi,s86,hx,hle3,hle4,Nat.reduceAdd,Nat.reduceLeDiff,r_rem _ _ _ _ (show (2:Int)≠0 by decide),r_eql,r_eqlB,r_rows,r_len,List.length_cons,List.length_nil,List.length_map,List.length_append,r_eqN,r_seg0,List.take,r_fitsg,hfit,and_self,r_add,hw,cast1,r_app,r_out,ne_eq,not_true,not_false_eq_true,cB0]
  by_cases h1:(i:Int)=me
  ·simp [h1]
  ·by_cases h2:e.2.toNat.testBit i=true
   ·by_cases h3:f.ask i=0
    ·simp [h1,h2,h3]
    ·simp only [h1,h2,h3,r_ld0,r_lds,r_lm0,r_lms,r_ln0,r_lns,r_lr0,r_lrs,r_liti,r_litb,r_lss,decide_true,decide_false,r_cond,if_true,if_false,Bool.false_eq_true,r_neq,r_call,r_bnd0,r_natN,r_inx6n hi,r_addN,r_mulN,r_leN,r_mrowsM,r_findM,r_cellN,Nat.zero_add,Nat.add_zero,r_row20 hf,get_ask f hi,get_no f hi,get_af f hi,get_wants,hlt,s91 _ _ h6,hasP_nat hi,s86,hx,hle3,hle4,Nat.reduceAdd,Nat.reduceLeDiff,r_rem _ _ _ _ (show (2:Int)≠0 by decide),r_eql,r_eqlB,r_rows,r_len,List.length_cons,List.length_nil,List.length_map,List.length_append,r_eqN,r_seg0,List.take,r_fitsg,hfit,and_self,r_add,hw,cast1,r_app,r_out,ne_eq,not_true,not_false_eq_true,cB0]
     simp [rS]
   ·have h3:f.ask i=0:=by
     by_cases h:f.ask i=0
     ·exact h
     ·exact absurd (hask i h) h2
    simp [h1,h2,h3]
end Go.VE
namespace Go.VE
open Go.RowKit Go.Proofs
set_option maxRecDepth 100000
theorem fstep_no {me P:Int} {f g:Fld} {s:Stk} (h:fstep me P f s=some g) (hf:∀ o:Nat,f.no o≠0→P.toNat.testBit o=true):∀ o:Nat,g.no o≠0→P.toNat.testBit o=true:=by
 unfold fstep at h
 repeat' split at h
 all_goals first
  | (cases h;done)
  | (simp only [Option.some.injEq] at h;subst h;exact hf)
  | skip
 ·rename_i hc
  simp only [Option.some.injEq] at h
  subst h
  intro o ho
  simp only [upN] at ho
  by_cases he:o=s.2.2.1.toNat
  ·have hp:hasP P s.2.2.1=true:=by
    cases hh:hasP P s.2.2.1 with
    | true=>rfl
    | false=>simp [hh] at hc
   have:=par_iff.1 (hasP_par hp)
   rw [he,← hasP_nat (P:=P) (par_lt (hasP_par hp)),Int.toNat_of_nonneg this.1]
   exact hp
  ·rw [if_neg (fun h=>he h.symm)] at ho
   exact hf o ho
theorem fread_no (me:Int) (b:Brd):∀ (ss:List Stk) (f:Fld),(∀ o:Nat,f.no o≠0→b.2.toNat.testBit o=true)→∀ o:Nat,(fread me b f ss).1.no o≠0→b.2.toNat.testBit o=true
 | [],_,hf=>hf
 | s::r,f,hf=>by
  unfold fread
  split
  ·cases hs:fstep me b.2 f s with
   | none=>exact hf
   | some g=>exact fread_no me b r g (fstep_no hs hf)
  ·exact fread_no me b r f hf
theorem l53_5 (n:Nat) {me h:Int} (b:Option (List Brd)) {ss:List Stk} (h1:okP me (b.getD []) ss h=true) (R:Rr) (n1 n2:Nat) (ch z1 z2:D) :
  loopR [L53_5 (RP (n+3))] M0 0 [.d (dB b),.d (il (b.getD []).length),.d (il 0),.m (mapM (b.getD []) (pg me (b.getD []) ss)),.r R,.r [],.n 0,.d (il me),.d (dB b),.n n1,.n n2,.d ch,.d z1,.d z2] =
   some (0,[.m (mapM (b.getD []) (pg me (b.getD []) ss)),.r R,.r ((recX me (b.getD []) ss).map rS),.n (recX me (b.getD []) ss).length,.d (il me),.d (dB b),.n n1,.n n2,.d ch,.d z1,.d z2]):=by
 have hb4:=okP_b4 h1
 have hr:=okP_rise h1
 have h66:=okP_six h1
 have:=range_loop (β:=List Stk) (b.getD []) (by omega) (L53_5 (RP (n+3))) (fun i g=>[.d (dB b),.d (il (b.getD []).length),.d (il i),.m (mapM (b.getD []) (pg me (b.getD []) ss)),.r R,.r (g.map rS),.n g.length,.d (il me),.d (dB b),.n n1,.n n2,.d ch,.d z1,.d z2])
  (fun i g=>g.length≤20*i)
  (fun i r g=>some (0,[.m (mapM (b.getD []) (pg me (b.getD []) ss)),.r R,.r ((g++recX me r ss).map rS),.n (g++recX me r ss).length,.d (il me),.d (dB b),.n n1,.n n2,.d ch,.d z1,.d z2])) ?_ ?_ M0 [] (by simp) (M0_big (by omega))
 ·simpa using this
 ·intro g k _
  simp [L53_5,recX]
 ·intro i e r g k hi hd hlt hw hg ih
  have hlt':(i:Int) < ((b.getD []).length:Int):=by omega
  have h6:=h66 e (List.mem_of_getElem? hi)
  have hx:=bix_e hr hi
  have hff:fl me (b.getD []) ss i=(fread me e fd0 ss).1:=by
   simp only [fl]
   rw [getD_at _ hi]
  have hf:(pg me (b.getD []) ss)[i]?=some (fread me e fd0 ss).1:=by rw [pg_at h1 hlt,hff]
  have hno:=fread_no me e ss fd0 (by simp [fd0])
  have hask:=fread_ask me e ss fd0 (by simp [fd0])
  have hal:=anewF_len me e.1 (fread me e fd0 ss).1
  have ih0:=ih (g++anewF me e.1 (fread me e fd0 ss).1) (by rw [List.length_append];omega)
  simp only [recX,List.flatMap_cons] at ih0 ⊢
  rw [←List.append_assoc,← ih0]
  unfold anewF
  generalize (fread me e fd0 ss).1=f at hf hno hask
  have a1:=flt_len 0 (isDirty me f) (talK e.1 f)
  have a2:=flt_len 0 (isClean me f) (talK e.1 f)
  have a3:=flt_len 0 (isAsked me f) (askK e.1 f)
  change (dirtyL me e.1 f 0).length≤6 at a1
  change (cleanL me e.1 f 0).length≤6 at a2
  change (askedL me e.1 f 0).length≤6 at a3
  have fit1:=fitC (a:=(g++dirtyL me e.1 f 0).length) (b:=1) (c:=32) (by rw [List.length_append];omega) (by omega) (by omega)
  simp only [L53_5,r_ld0,r_lds,r_lm0,r_lms,r_ln0,r_lns,r_lr0,r_lrs,r_lss,hlt',decide_true,r_cond,if_true,rowB hi,cB0,cB1,r_findM,hx,r_loop,r_liti,r_natN]
  rw [l53_1 n me hx hf h6 hno R i 0 g.length n1 n2 (il e.1) (il e.2) (dB b) ch z1 z2 g (by omega)]
  simp only [r_bnd0,r_ld0,r_lds,r_lm0,r_lms,r_ln0,r_lns,r_lr0,r_lrs,r_mrowsM,r_row20 hf,r_addN,r_leN,Nat.zero_add,Nat.reduceAdd,Nat.reduceLeDiff,if_true,r_cellN,get_wants,r_neq,r_cond]
  by_cases h0:f.wants=0
  ·simp only [h0,ne_eq,not_true,decide_false,Bool.false_eq_true,if_false,r_out,r_bnd0,r_ld0,r_lds,r_lm0,r_lms,r_ln0,r_lns,r_lr0,r_lrs,r_loop,List.nil_append]
   rw [l53_2 n me hx hf h6 hno R _ rfl i 0 _ n1 n2 (il e.1) (il e.2) (dB b) ch z1 z2 (g++dirtyL me e.1 f 0) (by simp only [List.length_append,List.length_cons,List.length_nil];omega)]
   simp only [r_bnd0,r_ld0,r_lds,r_lm0,r_lms,r_ln0,r_lns,r_lr0,r_lrs,r_loop]
   rw [l53_3 n me hx hf h6 hask R n1 n2 z1 z2 (dB b) ch (il e.2) (il e.2) ((g++dirtyL me e.1 f 0)++cleanL me e.1 f 0) (by simp only [List.length_append,List.length_cons,List.length_nil];omega)]
   have g4l:(((g++dirtyL me e.1 f 0)++cleanL me e.1 f 0)++askedL me e.1 f 0).length≤1000:=by simp only [List.length_append,List.length_cons,List.length_nil];omega
   generalize hg4:(((g++dirtyL me e.1 f 0)++cleanL me e.1 f 0)++askedL me e.1 f 0)=G at g4l
   have fit2:=fitC (a:=G.length) (b:=1) (c:=32) (by omega) (by omega) (by omega)
   have hN:G.length≤9223372036854775806:=by omega
   rcases Bool.eq_false_or_eq_true f.opn with ho | ho
   all_goals
    simp only [ho,Bool.false_eq_true,if_false,r_bnd0,r_ld0,r_lds,r_lm0,r_lms,r_ln0,r_lns,r_lr0,r_lrs,r_mrowsM,r_row20 hf,r_addN,r_leN,Nat.zero_add,Nat.reduceAdd,Nat.reduceLeDiff,if_true,r_cellN,get_opn,r_cond,r_add,hw,r_rows,r_len,List.length_cons,List.length_nil,List.length_map,r_eqN,r_seg0,List.take,r_fitsg,fit2.1,hN,and_self,r_app,cast1]
    subst hg4
    simp [h0,rS,Nat.add_assoc,Nat.add_comm,Nat.add_left_comm]
  ·simp only [h0,ne_eq,not_false_eq_true,decide_true,if_true,r_rows,r_len,List.length_cons,List.length_nil,List.length_map,r_eqN,Nat.zero_add,r_seg0,List.take,r_fitsg,fit1,and_self,r_app,r_out,r_bnd0,r_ld0,r_lds,r_lm0,r_lms,r_ln0,r_lns,r_lr0,r_lrs,r_loop]
   have hap:(g++dirtyL me e.1 f 0).map rS++[[il 2,il e.1,il 0,il f.wants]]=(g++dirtyL me e.1 f 0++[((2,e.1,0,f.wants):Stk)]).map rS:=by simp [rS]
   have hln:(g++dirtyL me e.1 f 0).length+1=(g++dirtyL me e.1 f 0++[((2,e.1,0,f.wants):Stk)]).length:=by simp [Nat.add_assoc]
   rw [hap,hln]
   rw [l53_2 n me hx hf h6 hno R _ rfl i 0 _ n1 n2 (il e.1) (il e.2) (dB b) ch z1 z2 (g++dirtyL me e.1 f 0++[(2,e.1,0,f.wants)]) (by simp only [List.length_append,List.length_cons,List.length_nil];omega)]
   simp only [r_bnd0,r_ld0,r_lds,r_lm0,r_lms,r_ln0,r_lns,r_lr0,r_lrs,r_loop]
   rw [l53_3 n me hx hf h6 hask R n1 n2 z1 z2 (dB b) ch (il e.2) (il e.2) ((g++dirtyL me e.1 f 0++[(2,e.1,0,f.wants)])++cleanL me e.1 f 0) (by simp only [List.length_append,List.length_cons,List.length_nil];omega)]
   have g4l:(((g++dirtyL me e.1 f 0++[(2,e.1,0,f.wants)])++cleanL me e.1 f 0)++askedL me e.1 f 0).length≤1000:=by simp only [List.length_append,List.length_cons,List.length_nil];omega
   generalize hg4:(((g++dirtyL me e.1 f 0++[(2,e.1,0,f.wants)])++cleanL me e.1 f 0)++askedL me e.1 f 0)=G at g4l
   have fit2:=fitC (a:=G.length) (b:=1) (c:=32) (by omega) (by omega) (by omega)
   have hN:G.length≤9223372036854775806:=by omega
   rcases Bool.eq_false_or_eq_true f.opn with ho | ho
   all_goals
    simp only [ho,Bool.false_eq_true,if_false,r_bnd0,r_ld0,r_lds,r_lm0,r_lms,r_ln0,r_lns,r_lr0,r_lrs,r_mrowsM,r_row20 hf,r_addN,r_leN,Nat.zero_add,Nat.reduceAdd,Nat.reduceLeDiff,if_true,r_cellN,get_opn,r_cond,r_add,hw,r_rows,r_len,List.length_cons,List.length_nil,List.length_map,r_eqN,r_seg0,List.take,r_fitsg,fit2.1,hN,and_self,r_app,cast1]
    subst hg4
    simp [h0,rS,Nat.add_assoc,Nat.add_comm,Nat.add_left_comm]
theorem eL53:@L53_0=@L43_0:=rfl
theorem s53 (n:Nat) (me h:Int) (b:Option (List Brd)) (o:Option (List Stk)) (hl:(o.getD []).length≤4611686018427387904) (hb:(b.getD []).length≤4611686018427387904) :
  FN (n+6) 53 [il me,dB b,dS o,il h]=if okP me (b.getD []) (o.getD []) h=true then some (0,[.d (il me),.d (dB b),.d (dS (opN (recX me (b.getD []) (o.getD [])))),.d (il (recX me (b.getD []) (o.getD [])).length),.d (il 0)]) else noW 92:=by
 rw [F53]
 have hop:opn25 (RP (n+5)) (il me) (dB b) (dS o) (il h)=_:=op25 (n+1) me h b o hl hb
 unfold G53
 rw [eL53]
 refine bnd_eq hop ?_
 by_cases h1:okP me (b.getD []) (o.getD []) h=true
 ·simp only [h1,if_true,r_bnd1,r_ld0,r_lds,r_lm0,r_lms,r_ln0,r_lns,r_lr0,r_lrs,r_liti,r_neq,ne_eq,not_true,decide_false,r_cond,Bool.false_eq_true,if_false,lenL,r_loop,r_rows,r_natN]
  rw [l53_5 (n+2) b h1]
  simp only [r_bnd0,r_ld0,r_lds,r_lm0,r_lms,r_ln0,r_lns,r_lr0,r_lrs,r_len,List.length_map,r_eqN,if_true,r_slN,r_natD,r_out]
 ·simp [h1,noW,nilS]
end Go.VE
namespace Go.VE
open Go.RowKit Go.Proofs
set_option maxRecDepth 100000
abbrev W4:=Int×Option (List Brd)×Option (List Stk)×Int
def rWt (w:W4):List D:=[il w.1,dB w.2.1,dS w.2.2.1,il w.2.2.2]
def rI (x:Int):List D:=[il x]
abbrev dW (o:Option (List W4)):D:=dL 4 rWt o
def okWt (w:W4):Bool:=okP w.1 (w.2.1.getD []) (w.2.2.1.getD []) w.2.2.2
def smallW (w:W4):Prop:=(w.2.1.getD []).length≤4611686018427387904∧(w.2.2.1.getD []).length≤4611686018427387904
def chk:Option Int→List W4→Bool
 | _,[]=>true
 | q,w::r=>okWt w&&(ltO q w.1&&chk (some w.1) r)
def prevW (l:List W4):Nat→Option Int
 | 0=>none
 | i+1=>(l[i]?).map (·.1)
def opnW (fld:Int) (w:W4):Bool:=match bix fld (w.2.1.getD []) with
 | none=>false
 | some j=>(fl w.1 (w.2.1.getD []) (w.2.2.1.getD []) j).opn
def whoL (fld:Int) (l:List W4):List Int:=(l.filter (opnW fld)).map (·.1)
def whoR (l:List W4) (fld:Int):Out:=if chk none l=true then (if 6 < l.length then badN 98 else if inn fld 1 99=true then some (0,[.d (dL 1 rI (opN (whoL fld l))),.d (il 0)]) else badN 94) else badN 98
section
variable {Fn:Nat→List D→Out} {FnD:D→List Sh→List D→Out} {m:Nat}
theorem rowW {o:Option (List W4)} {i:Nat} {c:W4} (h:(o.getD [])[i]?=some c) (k:List D→Out):(real Fn FnD m).rowD 4 (dW o) (il i) k=k (rWt c):=rowL h rfl k
theorem lenW (o:Option (List W4)) (k:D→Out):(real Fn FnD m).lenD (dW o) k=k (il (o.getD []).length):=lenL 4 rWt o k
theorem cW0 (w:W4):(real Fn FnD m).cell (rWt w) 0=il w.1:=rfl
theorem cW1 (w:W4):(real Fn FnD m).cell (rWt w) 1=dB w.2.1:=rfl
theorem cW2 (w:W4):(real Fn FnD m).cell (rWt w) 2=dS w.2.2.1:=rfl
theorem cW3 (w:W4):(real Fn FnD m).cell (rWt w) 3=il w.2.2.2:=rfl
end
theorem prev_at {l:List W4} {i:Nat} {w:W4} (h:l[i]?=some w):prevW l (i+1)=some w.1:=by simp [prevW,h]
theorem l48_0 (n:Nat) (o:Option (List W4)) (hl:(o.getD []).length≤4611686018427387904) (hs:∀ w∈o.getD [],smallW w) (fld:D) :
  loopR [L48_0 (RP (n+7))] M0 0 [.d (dW o),.d fld,.d (il 0)]=if chk none (o.getD [])=true then some (1,[.d (dW o),.d fld]) else some (0,[.d (il 98)]):=by
 have:=range_loop (β:=Unit) (o.getD []) hl (L48_0 (RP (n+7))) (fun i _=>[.d (dW o),.d fld,.d (il i)]) (fun _ _=>True)
  (fun i r _=>if chk (prevW (o.getD []) i) r=true then some (1,[.d (dW o),.d fld]) else some (0,[.d (il 98)])) ?_ ?_ M0 () trivial (M0_big hl)
 ·exact this
 ·intro _ k _
  simp [L48_0,lenW,chk]
 ·intro i w r _ k hi hd hlt hw _ ih
  have ih':=ih () trivial
  rw [cast1,prev_at hi] at ih'
  have hlt':(i:Int) < ((o.getD []).length:Int):=by omega
  have hsw:=hs w (List.mem_of_getElem? hi)
  have h15:=s15 n w.1 w.2.2.2 w.2.1 w.2.2.1 hsw.2 hsw.1
  rw [←okP_W] at h15
  simp only [L48_0,lenW,r_ld0,r_lds,r_liti,r_lss,hlt',decide_true,r_cond,if_true,rowW hi,cW0,cW1,cW2,cW3,r_call,h15,r_bnd0,r_neq,ite_ne _ 92 (by omega)]
  rw [chk]
  show (if (!okWt w)=true then _ else _)=_
  cases h1:okWt w with
  | false=>simp
  | true =>
   simp only [Bool.not_true,Bool.false_eq_true,if_false,Bool.true_and,r_gtr]
   cases i with
   | zero =>
    simp only [prevW,ltO,Bool.true_and,r_add,hw]
    simp only [Int.natCast_zero,Int.lt_irrefl,decide_false,Bool.false_eq_true,if_false]
    simp only [Int.natCast_zero] at ih'
    exact ih'
   | succ i =>
    have hi1:i < (o.getD []).length:=by omega
    have hv:=List.getElem?_eq_getElem hi1
    have hp:=pred_nat (i:=i+1) (by omega) (by omega)
    simp only [show (0:Int) < ((i+1:Nat):Int) by omega,decide_true,if_true,r_sub,hp,Nat.add_sub_cancel,rowW hv,cW0,r_geq,prev_at hv,ltO]
    by_cases h2:(o.getD [])[i].1 < w.1
    ·simp only [h2,show ¬ ((o.getD [])[i].1≥w.1) by omega,decide_false,decide_true,Bool.false_eq_true,if_false,Bool.true_and,r_add,hw]
     exact ih'
    ·simp [h2]
theorem l48_1 (n:Nat) (o:Option (List W4)) (hl:(o.getD []).length≤6) (hs:∀ w∈o.getD [],smallW w) (hok:∀ w∈o.getD [],okWt w=true) (fld:Int) :
  loopR [L48_1 (RP (n+8))] M0 0 [.d (dW o),.d (il fld),.n 0,.d (il 0),.r []]=some (0,[.n (whoL fld (o.getD [])).length,.r ((whoL fld (o.getD [])).map rI)]):=by
 have:=range_loop (β:=List Int) (o.getD []) (by omega) (L48_1 (RP (n+8))) (fun i g=>[.d (dW o),.d (il fld),.n g.length,.d (il i),.r (g.map rI)]) (fun i g=>g.length≤i)
  (fun i r g=>some (0,[.n (g++whoL fld r).length,.r ((g++whoL fld r).map rI)])) ?_ ?_ M0 [] (by simp) (M0_big (by omega))
 ·simpa using this
 ·intro g k _
  simp [L48_1,lenW,whoL]
 ·intro i w r g k hi hd hlt hw hg ih
  have hlt':(i:Int) < ((o.getD []).length:Int):=by omega
  have hsw:=hs w (List.mem_of_getElem? hi)
  have h1:okP w.1 (w.2.1.getD []) (w.2.2.1.getD []) w.2.2.2=true:=hok w (List.mem_of_getElem? hi)
  have h80:=s80 n w.1 w.2.2.2 w.2.1 w.2.2.1 fld hsw.2 hsw.1
  have hfit:=fitC (a:=g.length) (b:=1) (c:=8) (by omega) (by omega) (by omega)
  simp only [L48_1,lenW,r_ld0,r_lds,r_ln0,r_lns,r_lr0,r_lrs,r_liti,r_lss,hlt',decide_true,r_cond,if_true,rowW hi,cW0,cW1,cW2,cW3,r_call,h80,r_add,hw]
  unfold ofR
  simp only [h1,if_true]
  have hskip:opnW fld w=false→k 0 [.d (dW o),.d (il fld),.n g.length,.d (il ((i:Int)+1)),.r (g.map rI)]=some (0,[.n (g++whoL fld (w::r)).length,.r ((g++whoL fld (w::r)).map rI)]):=fun h=>by
   have ih0:=ih g (by omega)
   rw [cast1] at ih0
   rw [show whoL fld (w::r)=whoL fld r by simp [whoL,h],← ih0]
  cases hx:bix fld (w.2.1.getD []) with
  | none =>
   have hf:opnW fld w=false:=by simp [opnW,hx]
   simp only [bad21,z21,List.cons_append,List.nil_append,List.map_cons,List.map_nil,r_bnd0,r_ld0,r_lds,r_eql,show ((94:Int)=0)=False by simp,decide_false,r_cond,Bool.false_eq_true,if_false]
   exact hskip hf
  | some j =>
   simp only [r21,List.cons_append,List.nil_append,List.map_cons,List.map_nil,r_bnd0,r_ld0,r_lds,r_eql,decide_true,r_cond,if_true]
   have hj:opnW fld w=(fl w.1 (w.2.1.getD []) (w.2.2.1.getD []) j).opn:=by simp [opnW,hx]
   rw [←hj]
   cases ho:opnW fld w with
   | false =>
    simp only [Bool.false_eq_true,if_false]
    exact hskip ho
   | true =>
    have ih0:=ih (g++[w.1]) (by simp;omega)
    rw [cast1] at ih0
    rw [show whoL fld (w::r)=[w.1]++whoL fld r by simp [whoL,ho],← List.append_assoc,← ih0]
    simp only [if_true,r_rows,r_natN,r_len,List.length_cons,List.length_nil,List.length_map,List.length_append,r_eqN,Nat.zero_add,r_seg0,List.take,r_addN,r_fitsg,hfit,and_self,r_app,List.map_append,List.map_cons,List.map_nil,rI]
theorem chk_ok:∀ {l:List W4} {q:Option Int},chk q l=true→∀ w∈l,okWt w=true
 | w::r,q,h,x,hx=>by
  simp only [chk,Bool.and_eq_true] at h
  rcases List.mem_cons.1 hx with rfl | hx
  ·exact h.1
  ·exact chk_ok h.2.2 x hx
theorem s48 (n:Nat) (o:Option (List W4)) (hl:(o.getD []).length≤4611686018427387904) (hs:∀ w∈o.getD [],smallW w) (fld:Int):FN (n+9) 48 [dW o,il fld]=whoR (o.getD []) fld:=by
 rw [F48]
 simp only [G48,lenW,r_liti,r_gtr,r_cond,r_loop,whoR]
 by_cases h6:6 < (o.getD []).length
 ·have h6':(6:Int) < ((o.getD []).length:Int):=by omega
  simp [h6',h6,badN,nilS]
 ·have h6':¬ (6:Int) < ((o.getD []).length:Int):=by omega
  simp only [h6',h6,decide_false,Bool.false_eq_true,if_false]
  rw [l48_0 (n+1) o hl hs]
  by_cases hc:chk none (o.getD [])=true
  ·simp only [hc,if_true,r_bnd1,r_ld0,r_lds,r_call,s70,r_bnd0,r_not,r_cond]
   by_cases hf:inn fld 1 99=true
   ·simp only [hf,Bool.not_true,Bool.false_eq_true,if_false,if_true,r_natN,r_rows]
    rw [l48_1 n o (by omega) hs (chk_ok hc)]
    simp only [r_bnd0,r_ln0,r_lns,r_lr0,r_lrs,r_len,List.length_map,r_eqN,if_true,r_slN,r_out]
   ·simp [hf,badN,nilS]
  ·simp [hc,badN,nilS]
end Go.VE
namespace Go.VE
open Go.RowKit Go.Proofs
set_option maxRecDepth 100000
section
variable {Δ N R W M E Ω:Type} (p:Pr Δ N R W M E Ω)
def opn47 (y1:E) (w3:W):Ω:=(p.bnd (p.call 61 [p.cell w3 0]) [fun y4=>p.un .not (p.ld y4 0) fun x5=>p.cond x5 (p.out 0 [.d (p.ld y1 0),.d (p.ld y1 1),.n (p.ln y1 2),.d (p.ld y1 5),.d (p.lit (.int .i64 92)),.d (p.ld y1 3),.d (p.ld y1 4),.d (p.ld y1 5),.d (p.cell w3 0),.d (p.cell w3 1),.d (p.cell w3 2),.d (p.cell w3 3),.r (p.lr y1 6)]) (p.bnd (p.call 62 [p.cell w3 0,p.cell w3 1]) [fun y6=>p.un .not (p.ld y6 0) fun x7=>p.cond x7 (p.out 0 [.d (p.ld y1 0),.d (p.ld y1 1),.n (p.ln y1 2),.d (p.ld y1 5),.d (p.lit (.int .i64 92)),.d (p.ld y1 3),.d (p.ld y1 4),.d (p.ld y1 5),.d (p.cell w3 0),.d (p.cell w3 1),.d (p.cell w3 2),.d (p.cell w3 3),.r (p.lr y1 6)]) (p.lenD (p.cell w3 2) fun x8=>p.bin .gtr false x8 (p.lit (.int .i64 120)) fun x9=>p.cond x9 (p.out 0 [.d (p.ld y1 0),.d (p.ld y1 1),.n (p.ln y1 2),.d (p.ld y1 5),.d (p.lit (.int .i64 92)),.d (p.ld y1 3),.d (p.ld y1 4),.d (p.ld y1 5),.d (p.cell w3 0),.d (p.cell w3 1),.d (p.cell w3 2),.d (p.cell w3 3),.r (p.lr y1 6)]) (p.lenD (p.cell w3 2) fun x10=>p.bnd (p.call 68 [p.cell w3 3,(p.lit (.int .i64 0)),x10]) [fun y11=>p.un .not (p.ld y11 0) fun x12=>p.cond x12 (p.out 0 [.d (p.ld y1 0),.d (p.ld y1 1),.n (p.ln y1 2),.d (p.ld y1 5),.d (p.lit (.int .i64 92)),.d (p.ld y1 3),.d (p.ld y1 4),.d (p.ld y1 5),.d (p.cell w3 0),.d (p.cell w3 1),.d (p.cell w3 2),.d (p.cell w3 3),.r (p.lr y1 6)]) (p.bnd (p.call 63 [p.cell w3 1]) [fun y13=>p.lenD (p.cell w3 2) fun x14=>p.mkN 32 x14 x14 fun n15=>p.rowsD 4 (p.cell w3 2) fun r16=>p.eqN n15 (p.len (p.repl n15 [(p.lit (.int .i64 0)),(p.lit (.int .i64 0)),(p.lit (.int .i64 0)),(p.lit (.int .i64 0))])) (p.eqN n15 (p.len (p.repl n15 [(p.lit (.int .i64 0)),(p.lit (.int .i64 0)),(p.lit (.int .i64 0)),(p.lit (.int .i64 0))])) (p.lenD (p.ld y13 0) fun x17=>p.bnd (p.loop [(L47_0 p)] 0 [.d (p.ld y13 0),.d x17,.d (p.lit (.int .i64 0)),.m p.emp,.d (p.cell w3 0),.d (p.ld y13 0),.n n15,.n n15,.d (p.cell w3 3),.r (p.lr y1 6),.d (p.cell w3 0),.d (p.cell w3 1),.d (p.cell w3 2),.d (p.cell w3 3),.r (p.app (p.seg r16 none n15) (p.seg (p.repl n15 [(p.lit (.int .i64 0)),(p.lit (.int .i64 0)),(p.lit (.int .i64 0)),(p.lit (.int .i64 0))]) (some (p.len r16)) n15)),.d (p.cell w3 0),.d (p.ld y13 0),.n n15,.n n15,.d (p.cell w3 3)]) [fun y18=>p.eqN n15 (p.len (p.lr y18 11)) (p.eqN n15 (p.len (p.lr y18 11)) (p.bnd (p.call 1000095 [p.ld y18 1,p.ld y18 2,(p.natD (p.ln y18 3)),(p.natD (p.ln y18 4)),p.ld y18 5,(p.slD 4 (p.lr y18 11)),(p.mpD true (p.lm y18 0))]) [fun y19=>p.rowsD 4 (p.ld y19 6) fun r20=>p.asM true (p.ld y19 7) fun q21=>p.un .not (p.ld y19 0) fun x22=>p.cond x22 (p.out 0 [.d (p.ld y1 0),.d (p.ld y1 1),.n (p.ln y1 2),.d (p.ld y1 5),.d (p.lit (.int .i64 92)),.d (p.ld y1 3),.d (p.ld y1 4),.d (p.ld y1 5),.d (p.ld y18 7),.d (p.ld y18 8),.d (p.ld y18 9),.d (p.ld y18 10),.r (p.lr y18 6)]) (p.out 1 [.d (p.ld y1 0),.d (p.ld y1 1),.n (p.ln y1 2),.d (p.ld y1 5),.d (p.lit (.int .i64 0)),.d (p.ld y1 3),.d (p.ld y1 4),.d (p.ld y1 5),.m q21,.r r20,.d (p.ld y19 1),.d (p.ld y19 2),.n (p.dN (p.ld y19 3)),.n (p.dN (p.ld y19 4)),.d (p.ld y19 5),.d (p.ld y18 7),.d (p.ld y18 8),.d (p.ld y18 9),.d (p.ld y18 10),.r (p.lr y18 6)])]))]))])]))])])
def L47x:K N R M E Δ Ω:=fun J1 y1=>p.bin .lss false (p.ld y1 5) (p.ld y1 4) fun x2=>p.cond x2 (p.rowD 4 (p.ld y1 3) (p.ld y1 5) fun w3=>p.bnd (opn47 p y1 w3) [fun y4=>p.bin .neq false (p.ld y4 4) (p.lit (.int .i64 0)) fun x5=>p.cond x5 (p.out 1 [.d (p.lit (.int .i64 98))]) (p.bin .gtr false (p.ld y4 3) (p.lit (.int .i64 0)) fun x6=>p.cond x6 (p.bin .sub false (p.ld y4 3) (p.lit (.int .i64 1)) fun x7=>p.rowD 4 (p.ld y4 0) x7 fun w8=>p.bin .geq false (p.cell w8 0) (p.ld y4 8) fun x9=>p.cond x9 (p.out 1 [.d (p.lit (.int .i64 98))]) p.fail) p.fail),fun y4=>p.bin .neq false (p.ld y4 4) (p.lit (.int .i64 0)) fun x5=>p.cond x5 (p.out 1 [.d (p.lit (.int .i64 98))]) (p.bin .gtr false (p.ld y4 3) (p.lit (.int .i64 0)) fun x6=>p.cond x6 (p.bin .sub false (p.ld y4 3) (p.lit (.int .i64 1)) fun x7=>p.rowD 4 (p.ld y4 0) x7 fun w8=>p.bin .geq false (p.cell w8 0) (p.ld y4 15) fun x9=>p.cond x9 (p.out 1 [.d (p.lit (.int .i64 98))]) (p.find 0 (p.lm y4 8) (p.ld y4 1) (fun n10=>p.rowAt 20 (p.mrows (p.lm y4 8)) n10 fun w11=>p.leN (p.addN (p.addN (p.natN 0) (p.natN 19)) (p.natN 1)) (p.natN 20) (p.cond (p.cellN w11 (p.addN (p.natN 0) (p.natN 19)) 0) (p.eqN (p.natN 1) (p.len (p.rows [[p.ld y4 15]])) (p.eqN (p.ln y4 2) (p.len (p.lr y4 19)) (p.fits 8 (p.addN (p.ln y4 2) (p.len (p.seg (p.rows [[p.ld y4 15]]) none (p.natN 1)))) (p.bin .add false (p.ld y4 7) (p.lit (.int .i64 1)) fun x12=>J1 0 [.d (p.ld y4 0),.d (p.ld y4 1),.n (p.addN (p.ln y4 2) (p.len (p.seg (p.rows [[p.ld y4 15]]) none (p.natN 1)))),.d (p.ld y4 5),.d (p.ld y4 6),.d x12,.r (p.app (p.lr y4 19) (p.seg (p.rows [[p.ld y4 15]]) none (p.natN 1)))])))) (p.bin .add false (p.ld y4 7) (p.lit (.int .i64 1)) fun x12=>J1 0 [.d (p.ld y4 0),.d (p.ld y4 1),.n (p.ln y4 2),.d (p.ld y4 5),.d (p.ld y4 6),.d x12,.r (p.lr y4 19)]))) (p.bin .add false (p.ld y4 7) (p.lit (.int .i64 1)) fun x10=>J1 0 [.d (p.ld y4 0),.d (p.ld y4 1),.n (p.ln y4 2),.d (p.ld y4 5),.d (p.ld y4 6),.d x10,.r (p.lr y4 19)]))) (p.find 0 (p.lm y4 8) (p.ld y4 1) (fun n7=>p.rowAt 20 (p.mrows (p.lm y4 8)) n7 fun w8=>p.leN (p.addN (p.addN (p.natN 0) (p.natN 19)) (p.natN 1)) (p.natN 20) (p.cond (p.cellN w8 (p.addN (p.natN 0) (p.natN 19)) 0) (p.eqN (p.natN 1) (p.len (p.rows [[p.ld y4 15]])) (p.eqN (p.ln y4 2) (p.len (p.lr y4 19)) (p.fits 8 (p.addN (p.ln y4 2) (p.len (p.seg (p.rows [[p.ld y4 15]]) none (p.natN 1)))) (p.bin .add false (p.ld y4 7) (p.lit (.int .i64 1)) fun x9=>J1 0 [.d (p.ld y4 0),.d (p.ld y4 1),.n (p.addN (p.ln y4 2) (p.len (p.seg (p.rows [[p.ld y4 15]]) none (p.natN 1)))),.d (p.ld y4 5),.d (p.ld y4 6),.d x9,.r (p.app (p.lr y4 19) (p.seg (p.rows [[p.ld y4 15]]) none (p.natN 1)))])))) (p.bin .add false (p.ld y4 7) (p.lit (.int .i64 1)) fun x9=>J1 0 [.d (p.ld y4 0),.d (p.ld y4 1),.n (p.ln y4 2),.d (p.ld y4 5),.d (p.ld y4 6),.d x9,.r (p.lr y4 19)]))) (p.bin .add false (p.ld y4 7) (p.lit (.int .i64 1)) fun x7=>J1 0 [.d (p.ld y4 0),.d (p.ld y4 1),.n (p.ln y4 2),.d (p.ld y4 5),.d (p.ld y4 6),.d x7,.r (p.lr y4 19)])))]) (p.out 0 [.d (p.ld y1 0),.d (p.ld y1 1),.n (p.ln y1 2),.r (p.lr y1 6)])
end
theorem eL47:@L47_1=@L47x:=rfl
theorem l47_0 (n:Nat) (o:Option (List Brd)) (hl:(o.getD []).length≤4611686018427387904) (hr:Rise (o.getD [])) (c0:D) (c1:D) (c2:Nat) (c3:Nat) (c4:D) (c5:Rr) (c6:D) (c7:D) (c8:D) (c9:D) (c10:Rr) (c11:D) (c12:D) (c13:Nat) (c14:Nat) (c15:D) :
  loopR [L47_0 (RP n)] M0 0 [.d (dB o),.d (il (o.getD []).length),.d (il 0),.m ([],[]),.d c0,.d c1,.n c2,.n c3,.d c4,.r c5,.d c6,.d c7,.d c8,.d c9,.r c10,.d c11,.d c12,.n c13,.n c14,.d c15] =
   some (0,[.m (mapM (o.getD []) (new (o.getD []))),.d c0,.d c1,.n c2,.n c3,.d c4,.r c5,.d c6,.d c7,.d c8,.d c9,.r c10,.d c11,.d c12,.n c13,.n c14,.d c15]):=by
 have:=range_loop (β:=Unit) (o.getD []) hl (L47_0 (RP n)) (fun i _=>[.d (dB o),.d (il (o.getD []).length),.d (il i),.m (mapM ((o.getD []).take i) (new ((o.getD []).take i))),.d c0,.d c1,.n c2,.n c3,.d c4,.r c5,.d c6,.d c7,.d c8,.d c9,.r c10,.d c11,.d c12,.n c13,.n c14,.d c15]) (fun _ _=>True)
  (fun _ _ _=>some (0,[.m (mapM (o.getD []) (new (o.getD []))),.d c0,.d c1,.n c2,.n c3,.d c4,.r c5,.d c6,.d c7,.d c8,.d c9,.r c10,.d c11,.d c12,.n c13,.n c14,.d c15])) ?_ ?_ M0 () trivial (M0_big hl)
 ·exact this
 ·intro _ k _
  simp [L47_0,List.take_length]
 ·intro i e r _ k hi hd hlt hw _ ih
  have hlt':(i:Int) < ((o.getD []).length:Int):=by omega
  have ih':=ih () trivial
  rw [cast1,take_snoc hi,new_snoc] at ih'
  have hadd:=fun k=>r_addK (Fn:=FN n) (FnD:=FnDof Tryd.prog (cf3 tb Tryd.prog) (FN n)) (m:=M0) (new_len ((o.getD []).take i)) (bix_new hr hi) fd0 k
  have hlen:((o.getD []).take i).length=i:=by simp;omega
  simp only [row20_0,hlen] at hadd
  simp only [L47_0,mapM,r_ld0,r_lds,r_lm0,r_lms,r_ln0,r_lns,r_lr0,r_lrs,r_lss,hlt',decide_true,r_cond,if_true,rowB hi,cB0,r_natN,r_eqN,r_mset,r_app,r_mrows,r_rows,r_liti,r_litb,r_len,List.length_map,new_len,hlen,hadd,r_add,hw]
  exact ih'
theorem op47 (n:Nat) (me h:Int) (b:Option (List Brd)) (o:Option (List Stk)) (hl:(o.getD []).length≤4611686018427387904) (hb:(b.getD []).length≤4611686018427387904) (c0 c1 c3 c4 c5:D) (c2:Nat) (c6:Rr) :
  opn47 (RP (n+4)) [.d c0,.d c1,.n c2,.d c3,.d c4,.d c5,.r c6] (rWt (me,b,o,h))=if okP me (b.getD []) (o.getD []) h=true then some (1,[.d c0,.d c1,.n c2,.d c5,.d (il 0),.d c3,.d c4,.d c5,.m (mapM (b.getD []) (pg me (b.getD []) (o.getD []))),.r ((o.getD []).map rS),.d (il me),.d (dB b),.n (o.getD []).length,.n (o.getD []).length,.d (il h),.d (il me),.d (dB b),.d (dS o),.d (il h),.r c6]) else some (0,[.d c0,.d c1,.n c2,.d c5,.d (il 92),.d c3,.d c4,.d c5,.d (il me),.d (dB b),.d (dS o),.d (il h),.r c6]):=by
 simp only [opn47,cW0,cW1,cW2,cW3,r_call,s61,s62 _ _ _ hb,s68,lenL,r_bnd0,r_ld0,r_lds,r_ln0,r_lns,r_lr0,r_lrs,r_not,r_cond,r_out,r_liti,r_gtr,okP]
 by_cases h1:par me=true
 ·by_cases h2:bords me (b.getD [])=true
  ·have h2':=h2
   simp only [bords,Bool.and_eq_true,decide_eq_true_eq] at h2'
   by_cases h3:(o.getD []).length≤120
   ·have h3':¬ ((120:Int) < (o.getD []).length):=by omega
    by_cases h4:inn h 0 (o.getD []).length=true
    ·have hmk:0≤((o.getD []).length:Int)∧((32:Nat):Int)*((o.getD []).length:Int)≤140737488355328∧((o.getD []).length:Int)≤9223372036854775807:=by omega
     simp only [h1,h2,h3,h3',h4,Bool.not_true,Bool.false_eq_true,if_false,if_true,decide_true,decide_false,Bool.true_and,s63 _ _ h2'.2,r_bnd0,r_ld0,r_mkNg,hmk,and_self,Int.toNat_natCast,rowsL,r_repl,r_len,List.length_replicate,r_eqN,lenL,r_emp,r_app,r_seg0,r_seg1,r_loop,List.length_map]
     have hseg:=seg_copy ((o.getD []).map rS) [il 0,il 0,il 0,il 0]
     rw [List.length_map] at hseg
     rw [hseg,l47_0 _ _ hb (okL_rise h2'.1)]
     simp only [r_bnd0,r_ld0,r_lds,r_lm0,r_ln0,r_lns,r_lr0,r_lrs,List.length_map,if_true,r_natD,r_slD,r_mpD,mapM]
     rw [s1000095 _ _ hb (bords_six h2) _ (by omega) _ _ _ _ _ (new_len _)]
     simp only [r_bnd0,r_ld0,r_lds,r_rowsD,r_not,r_cond,r_dN]
     have ha:∀ (a:List Value) (b:Rr) (k:Mr→Out),(RP (n+4)).asM true (.mp true a b) k=k (a,b):=fun _ _ _=>rfl
     rw [ha]
     simp only [pg]
     rw [show (b.getD []).map (fun _=>fd0)=new (b.getD []) from rfl]
     cases (pread me (b.getD []) (new (b.getD [])) (o.getD [])).2<;>rfl
    ·simp [h1,h2,h3,h3',h4]
   ·have h3':((120:Int) < (o.getD []).length):=by omega
    simp [h1,h2,h3,h3']
  ·simp [h1,h2]
 ·simp [h1]
theorem l47_1 (n:Nat) (o:Option (List W4)) (hl:(o.getD []).length≤2199023255552) (hs:∀ w∈o.getD [],smallW w) (fld:Int) :
  loopR [L47_1 (RP (n+4))] M0 0 [.d (dW o),.d (il fld),.n 0,.d (dW o),.d (il (o.getD []).length),.d (il 0),.r []]=if chk none (o.getD [])=true then some (0,[.d (dW o),.d (il fld),.n (whoL fld (o.getD [])).length,.r ((whoL fld (o.getD [])).map rI)]) else some (1,[.d (il 98)]):=by
 have:=range_loop (β:=List Int) (o.getD []) (by omega) (L47_1 (RP (n+4))) (fun i g=>[.d (dW o),.d (il fld),.n g.length,.d (dW o),.d (il (o.getD []).length),.d (il i),.r (g.map rI)]) (fun i g=>g.length≤i)
  (fun i r g=>if chk (prevW (o.getD []) i) r=true then some (0,[.d (dW o),.d (il fld),.n (g++whoL fld r).length,.r ((g++whoL fld r).map rI)]) else some (1,[.d (il 98)])) ?_ ?_ M0 [] (by simp) (M0_big (by omega))
 ·exact this
 ·intro g k _
  simp [L47_1,chk,whoL]
 ·rintro i ⟨me,b,s,h⟩ r g k hi hd hlt hw hg ih
  have hsw:=hs _ (List.mem_of_getElem? hi)
  have hlt':(i:Int) < ((o.getD []).length:Int):=by omega
  have hfit:(g.length+1)*8≤140737488355328∧g.length+1≤9223372036854775807:=by omega
  have hN:g.length≤9223372036854775806:=by omega
  rw [eL47]
  simp only [L47x,r_ld0,r_lds,r_ln0,r_lns,r_lr0,r_lrs,r_liti,r_lss,hlt',decide_true,r_cond,if_true,rowW hi]
  rw [op47 n me h b s hsw.2 hsw.1]
  rw [chk]
  show _=if (okP me (b.getD []) (s.getD []) h&&_)=true then _ else _
  by_cases h1:okP me (b.getD []) (s.getD []) h=true
  ·have hrow:∀ {j:Nat},bix fld (b.getD [])=some j→(pg me (b.getD []) (s.getD []))[j]?=some (fl me (b.getD []) (s.getD []) j):=fun {j} hx=>by
    obtain ⟨_,_,_,_,hj⟩:=bord_at hx
    exact pg_at h1 hj
   simp only [h1,if_true,Bool.true_and,r_bnd1,r_ld0,r_lds,r_lm0,r_lms,r_ln0,r_lns,r_lr0,r_lrs,r_neq,ne_eq,not_true,decide_false,Bool.false_eq_true,if_false,r_gtr,r_cond,r_add,hw]
   have rest:ltO (prevW (o.getD []) i) me=true→∀ X:Out,X=(match bix fld (b.getD []) with
     | none=>k 0 [.d (dW o),.d (il fld),.n g.length,.d (dW o),.d (il (o.getD []).length),.d (il ((i:Int)+1)),.r (g.map rI)]
     | some j=>if (fl me (b.getD []) (s.getD []) j).opn=true then k 0 [.d (dW o),.d (il fld),.n (g.length+1),.d (dW o),.d (il (o.getD []).length),.d (il ((i:Int)+1)),.r (g.map rI++[[il me]])]
      else k 0 [.d (dW o),.d (il fld),.n g.length,.d (dW o),.d (il (o.getD []).length),.d (il ((i:Int)+1)),.r (g.map rI)]) →
     X=if (ltO (prevW (o.getD []) i) (me,b,s,h).1&&chk (some (me,b,s,h).1) r)=true then some (0,[.d (dW o),.d (il fld),.n (g++whoL fld ((me,b,s,h)::r)).length,.r ((g++whoL fld ((me,b,s,h)::r)).map rI)]) else some (1,[.d (il 98)]):=by
    intro hlt X hX
    rw [hX]
    simp only [hlt,Bool.true_and]
    have ih0:=ih g (by omega)
    rw [cast1,prev_at hi] at ih0
    have ih1:=ih (g++[me]) (by simp;omega)
    rw [cast1,prev_at hi] at ih1
    cases hx:bix fld (b.getD []) with
    | none =>
     simp only
     rw [show whoL fld ((me,b,s,h)::r)=whoL fld r by simp [whoL,opnW,hx]]
     exact ih0
    | some j =>
     simp only
     by_cases ho:(fl me (b.getD []) (s.getD []) j).opn=true
     ·rw [if_pos ho,show whoL fld ((me,b,s,h)::r)=[me]++whoL fld r by simp [whoL,opnW,hx,ho],← List.append_assoc]
      simpa [rI] using ih1
     ·rw [if_neg ho,show whoL fld ((me,b,s,h)::r)=whoL fld r by simp [whoL,opnW,hx,ho]]
      exact ih0
   have fin:∀ X Y:Nat→Out,True:=fun _ _=>trivial
   cases i with
   | zero =>
    refine rest rfl _ ?_
    simp only [Int.natCast_zero,Int.lt_irrefl,decide_false,Bool.false_eq_true,if_false,r_findM]
    cases hx:bix fld (b.getD []) with
    | none=>rfl
    | some j=>simp only [r_natN,r_addN,Nat.zero_add,r_mrowsM,r_row20 (hrow hx),r_leN,Nat.reduceAdd,Nat.reduceLeDiff,if_true,r_cellN,get_opn,r_cond,r_rows,r_len,List.length_cons,List.length_nil,List.length_map,r_eqN,r_seg0,List.take,r_fitsg,hfit.1,hN,and_self,r_app]
   | succ i =>
    have hi1:i < (o.getD []).length:=by omega
    have hv:=List.getElem?_eq_getElem hi1
    have hp:=pred_nat (i:=i+1) (by omega) (by omega)
    simp only [show (0:Int) < ((i+1:Nat):Int) by omega,decide_true,if_true,r_sub,hp,Nat.add_sub_cancel,rowW hv,cW0,r_geq,r_cond]
    by_cases h2:(o.getD [])[i].1 < me
    ·refine rest (by simp [prev_at hv,ltO,h2]) _ ?_
     simp only [show ¬ ((o.getD [])[i].1≥me) by omega,decide_false,Bool.false_eq_true,if_false,r_findM]
     cases hx:bix fld (b.getD []) with
     | none=>rfl
     | some j=>simp only [r_natN,r_addN,Nat.zero_add,r_mrowsM,r_row20 (hrow hx),r_leN,Nat.reduceAdd,Nat.reduceLeDiff,if_true,r_cellN,get_opn,r_cond,r_rows,r_len,List.length_cons,List.length_nil,List.length_map,r_eqN,r_seg0,List.take,r_fitsg,hfit.1,hN,and_self,r_app]
    ·simp only [show ((o.getD [])[i].1≥me) by omega,decide_true,if_true,prev_at hv,ltO,h2,decide_false,Bool.false_and,Bool.false_eq_true,if_false,r_out]
  ·simp [h1]
theorem s47 (n:Nat) (o:Option (List W4)) (hl:(o.getD []).length≤2199023255552) (hs:∀ w∈o.getD [],smallW w) (fld:Int):FN (n+5) 47 [dW o,il fld]=whoR (o.getD []) fld:=by
 rw [F47]
 simp only [G47,lenW,r_liti,r_loop,r_natN,r_rows,whoR]
 rw [l47_1 n o hl hs]
 by_cases hc:chk none (o.getD [])=true
 ·simp only [hc,if_true,r_bnd0,r_ld0,r_lds,lenW,r_gtr,r_cond]
  by_cases h6:6 < (o.getD []).length
  ·have h6':(6:Int) < ((o.getD []).length:Int):=by omega
   simp [h6',h6,badN,nilS]
  ·have h6':¬ (6:Int) < ((o.getD []).length:Int):=by omega
   simp only [h6',h6,decide_false,Bool.false_eq_true,if_false,r_call,s67,r_bnd0,r_ld0,r_not,r_cond]
   by_cases hf:inn fld 1 99=true
   ·simp only [hf,Bool.not_true,Bool.false_eq_true,if_false,if_true,r_ln0,r_lns,r_lr0,r_lrs,r_len,List.length_map,r_eqN,r_slN,r_out]
   ·simp [hf,badN,nilS]
 ·simp [hc,badN,nilS]
end Go.VE
