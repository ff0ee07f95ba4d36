/- Bell: Tell, by the program. -/
import Derived.Test.YtaagapoglhndjaaDoorMg1
namespace Go.VE
open Go.RowKit Go.Proofs
set_option maxRecDepth 100000
section
variable {Δ N R W M E Ω:Type} (p:Pr Δ N R W M E Ω)
def opn2 (a0 a1 a2 a3 a4: Δ):Ω:=(p.bnd (p.call 61 [a0]) [fun y0=>p.un .not (p.ld y0 0) fun x1=>p.cond x1 (p.out 0 [.d a4,.d (p.lit (.int .i64 92)),.d (p.lit (.int .i64 0)),.d (p.lit (.int .i64 0))]) (p.bnd (p.call 62 [a0,a1]) [fun y2=>p.un .not (p.ld y2 0) fun x3=>p.cond x3 (p.out 0 [.d a4,.d (p.lit (.int .i64 92)),.d (p.lit (.int .i64 0)),.d (p.lit (.int .i64 0))]) (p.lenD a2 fun x4=>p.bin .gtr false x4 (p.lit (.int .i64 120)) fun x5=>p.cond x5 (p.out 0 [.d a4,.d (p.lit (.int .i64 92)),.d (p.lit (.int .i64 0)),.d (p.lit (.int .i64 0))]) (p.lenD a2 fun x6=>p.bnd (p.call 68 [a3,(p.lit (.int .i64 0)),x6]) [fun y7=>p.un .not (p.ld y7 0) fun x8=>p.cond x8 (p.out 0 [.d a4,.d (p.lit (.int .i64 92)),.d (p.lit (.int .i64 0)),.d (p.lit (.int .i64 0))]) (p.bnd (p.call 63 [a1]) [fun y9=>p.lenD a2 fun x10=>p.mkN 32 x10 x10 fun n11=>p.rowsD 4 a2 fun r12=>p.eqN n11 (p.len (p.repl n11 [(p.lit (.int .i64 0)),(p.lit (.int .i64 0)),(p.lit (.int .i64 0)),(p.lit (.int .i64 0))])) (p.eqN n11 (p.len (p.repl n11 [(p.lit (.int .i64 0)),(p.lit (.int .i64 0)),(p.lit (.int .i64 0)),(p.lit (.int .i64 0))])) (p.lenD (p.ld y9 0) fun x13=>p.bnd (p.loop [(L43_0 p)] 0 [.d (p.ld y9 0),.d x13,.d (p.lit (.int .i64 0)),.m p.emp,.d a0,.d (p.ld y9 0),.n n11,.n n11,.d a3,.d (p.lit (.int .i64 0)),.d (p.lit (.int .i64 0)),.r (p.app (p.seg r12 none n11) (p.seg (p.repl n11 [(p.lit (.int .i64 0)),(p.lit (.int .i64 0)),(p.lit (.int .i64 0)),(p.lit (.int .i64 0))]) (some (p.len r12)) n11)),.d a0,.d (p.ld y9 0),.n n11,.n n11,.d a3]) [fun y14=>p.eqN n11 (p.len (p.lr y14 8)) (p.eqN n11 (p.len (p.lr y14 8)) (p.bnd (p.call 1000095 [p.ld y14 1,p.ld y14 2,(p.natD (p.ln y14 3)),(p.natD (p.ln y14 4)),p.ld y14 5,(p.slD 4 (p.lr y14 8)),(p.mpD true (p.lm y14 0))]) [fun y15=>p.rowsD 4 (p.ld y15 6) fun r16=>p.asM true (p.ld y15 7) fun q17=>p.un .not (p.ld y15 0) fun x18=>p.cond x18 (p.out 0 [.d a4,.d (p.lit (.int .i64 92)),.d (p.ld y14 6),.d (p.ld y14 7)]) (p.out 1 [.d a4,.d (p.lit (.int .i64 0)),.m q17,.r r16,.d (p.ld y15 1),.d (p.ld y15 2),.n (p.dN (p.ld y15 3)),.n (p.dN (p.ld y15 4)),.d (p.ld y15 5),.d (p.ld y14 6),.d (p.ld y14 7)])]))]))])]))])])
end
theorem l43 (n:Nat) (o:Option (List Brd)) (hl:(o.getD []).length≤4611686018427387904) (hr:Rise (o.getD [])) (c0:D) (c1:D) (c2:Nat) (c3:Nat) (c4:D) (c5:D) (c6:D) (c7:Rr) (c8:D) (c9:D) (c10:Nat) (c11:Nat) (c12:D) :
  loopR [L43_0 (RP n)] M0 0 [.d (dB o),.d (il (o.getD []).length),.d (il 0),.m ([],[]),.d c0,.d c1,.n c2,.n c3,.d c4,.d c5,.d c6,.r c7,.d c8,.d c9,.n c10,.n c11,.d c12] =
   some (0,[.m (mapM (o.getD []) (new (o.getD []))),.d c0,.d c1,.n c2,.n c3,.d c4,.d c5,.d c6,.r c7,.d c8,.d c9,.n c10,.n c11,.d c12]):=by
 have:=range_loop (β:=Unit) (o.getD []) hl (L43_0 (RP n)) (fun i _=>[.d (dB o),.d (il (o.getD []).length),.d (il i),.m (mapM ((o.getD []).take i) (new ((o.getD []).take i))),.d c0,.d c1,.n c2,.n c3,.d c4,.d c5,.d c6,.r c7,.d c8,.d c9,.n c10,.n c11,.d c12]) (fun _ _=>True)
  (fun _ _ _=>some (0,[.m (mapM (o.getD []) (new (o.getD []))),.d c0,.d c1,.n c2,.n c3,.d c4,.d c5,.d c6,.r c7,.d c8,.d c9,.n c10,.n c11,.d c12])) ?_ ?_ M0 () trivial (M0_big hl)
 ·exact this
 ·intro _ k _
  simp [L43_0,List.take_length]
 ·intro i e r _ k hi hd hlt hw _ ih
  have hlt':(i:Int) < ((o.getD []).length:Int):=by omega
  have ih':=ih () trivial
  rw [cast1,take_snoc hi,new_snoc] at ih'
  have hadd:=fun k=>r_addK (Fn:=FN n) (FnD:=FnDof Tryd.prog (cf3 tb Tryd.prog) (FN n)) (m:=M0) (new_len ((o.getD []).take i)) (bix_new hr hi) fd0 k
  have hlen:((o.getD []).take i).length=i:=by simp;omega
  simp only [row20_0,hlen] at hadd
  simp only [L43_0,mapM,r_ld0,r_lds,r_lm0,r_lms,r_ln0,r_lns,r_lr0,r_lrs,r_lss,hlt',decide_true,r_cond,if_true,rowB hi,cB0,r_natN,r_eqN,r_mset,r_app,r_mrows,r_rows,r_liti,r_litb,r_len,List.length_map,new_len,hlen,hadd,r_add,hw]
  exact ih'
theorem op2 (n:Nat) (me h:Int) (b:Option (List Brd)) (o:Option (List Stk)) (a:D) (hl:(o.getD []).length≤4611686018427387904) (hb:(b.getD []).length≤4611686018427387904) :
  opn2 (RP (n+4)) (il me) (dB b) (dS o) (il h) a=if okP me (b.getD []) (o.getD []) h=true then some (1,[.d a,.d (il 0),.m (mapM (b.getD []) (pg me (b.getD []) (o.getD []))),.r ((o.getD []).map rS),.d (il me),.d (dB b),.n (o.getD []).length,.n (o.getD []).length,.d (il h),.d (il 0),.d (il 0)]) else some (0,[.d a,.d (il 92),.d (il 0),.d (il 0)]):=by
 simp only [opn2,r_call,s61,s62 _ _ _ hb,s68,lenL,r_bnd0,r_ld0,r_not,r_cond,r_out,r_liti,r_gtr,okP]
 by_cases h1:par me=true
 ·by_cases h2:bords me (b.getD [])=true
  ·have h2':=h2
   simp only [bords,Bool.and_eq_true,decide_eq_true_eq] at h2'
   by_cases h3:(o.getD []).length≤120
   ·have h3':¬ ((120:Int) < (o.getD []).length):=by omega
    by_cases h4:inn h 0 (o.getD []).length=true
    ·have hmk:0≤((o.getD []).length:Int)∧((32:Nat):Int)*((o.getD []).length:Int)≤140737488355328∧((o.getD []).length:Int)≤9223372036854775807:=by omega
     simp only [h1,h2,h3,h3',h4,Bool.not_true,Bool.false_eq_true,if_false,if_true,decide_true,decide_false,Bool.true_and,s63 _ _ h2'.2,r_bnd0,r_ld0,r_mkNg,hmk,and_self,Int.toNat_natCast,rowsL,r_repl,r_len,List.length_replicate,r_eqN,lenL,r_emp,r_app,r_seg0,r_seg1,r_loop,List.length_map]
     have hseg:=seg_copy ((o.getD []).map rS) [il 0,il 0,il 0,il 0]
     rw [List.length_map] at hseg
     rw [hseg,l43 _ _ hb (okL_rise h2'.1)]
     simp only [r_bnd0,r_ld0,r_lds,r_lm0,r_ln0,r_lns,r_lr0,r_lrs,List.length_map,if_true,r_natD,r_slD,r_mpD,mapM]
     rw [s1000095 _ _ hb (bords_six h2) _ (by omega) _ _ _ _ _ (new_len _)]
     have hr4:∀ k:Rr→Out,(RP (n+4)).rowsD 4 (.sl 4 ((o.getD []).map rS)) k=k ((o.getD []).map rS):=fun _=>rfl
     simp only [r_bnd0,r_ld0,r_lds,r_rowsD,r_not,r_cond,r_dN]
     have ha:∀ (a:List Value) (b:Rr) (k:Mr→Out),(RP (n+4)).asM true (.mp true a b) k=k (a,b):=fun _ _ _=>rfl
     rw [ha]
     simp only [pg]
     rw [show (b.getD []).map (fun _=>fd0)=new (b.getD []) from rfl]
     cases (pread me (b.getD []) (new (b.getD [])) (o.getD [])).2<;>rfl
    ·simp [h1,h2,h3,h3',h4]
   ·have h3':((120:Int) < (o.getD []).length):=by omega
    simp [h1,h2,h3,h3']
  ·simp [h1,h2]
 ·simp [h1]
theorem bix_e {bs:List Brd} (hr:Rise bs) {i:Nat} {e:Brd} (he:bs[i]?=some e):bix e.1 bs=some i:=by
 have hi:i < bs.length:=by
  rcases Nat.lt_or_ge i bs.length with h | h
  ·exact h
  ·rw [List.getElem?_eq_none h] at he;cases he
 rw [List.getElem?_eq_getElem hi] at he
 simp only [Option.some.injEq] at he
 rw [←he]
 exact bix_at hr hi
end Go.VE
namespace Go.VE
open Go.RowKit Go.Proofs
set_option maxRecDepth 100000
section
variable {Δ N R W M E Ω:Type} (p:Pr Δ N R W M E Ω)
def opn25 (a0 a1 a2 a3: Δ):Ω:=(p.bnd (p.call 61 [a0]) [fun y0=>p.un .not (p.ld y0 0) fun x1=>p.cond x1 (p.out 0 [.d (p.lit (.int .i64 92)),.d (p.lit (.int .i64 0)),.d (p.lit (.int .i64 0))]) (p.bnd (p.call 62 [a0,a1]) [fun y2=>p.un .not (p.ld y2 0) fun x3=>p.cond x3 (p.out 0 [.d (p.lit (.int .i64 92)),.d (p.lit (.int .i64 0)),.d (p.lit (.int .i64 0))]) (p.lenD a2 fun x4=>p.bin .gtr false x4 (p.lit (.int .i64 120)) fun x5=>p.cond x5 (p.out 0 [.d (p.lit (.int .i64 92)),.d (p.lit (.int .i64 0)),.d (p.lit (.int .i64 0))]) (p.lenD a2 fun x6=>p.bnd (p.call 68 [a3,(p.lit (.int .i64 0)),x6]) [fun y7=>p.un .not (p.ld y7 0) fun x8=>p.cond x8 (p.out 0 [.d (p.lit (.int .i64 92)),.d (p.lit (.int .i64 0)),.d (p.lit (.int .i64 0))]) (p.bnd (p.call 63 [a1]) [fun y9=>p.lenD a2 fun x10=>p.mkN 32 x10 x10 fun n11=>p.rowsD 4 a2 fun r12=>p.eqN n11 (p.len (p.repl n11 [(p.lit (.int .i64 0)),(p.lit (.int .i64 0)),(p.lit (.int .i64 0)),(p.lit (.int .i64 0))])) (p.eqN n11 (p.len (p.repl n11 [(p.lit (.int .i64 0)),(p.lit (.int .i64 0)),(p.lit (.int .i64 0)),(p.lit (.int .i64 0))])) (p.lenD (p.ld y9 0) fun x13=>p.bnd (p.loop [(L43_0 p)] 0 [.d (p.ld y9 0),.d x13,.d (p.lit (.int .i64 0)),.m p.emp,.d a0,.d (p.ld y9 0),.n n11,.n n11,.d a3,.d (p.lit (.int .i64 0)),.d (p.lit (.int .i64 0)),.r (p.app (p.seg r12 none n11) (p.seg (p.repl n11 [(p.lit (.int .i64 0)),(p.lit (.int .i64 0)),(p.lit (.int .i64 0)),(p.lit (.int .i64 0))]) (some (p.len r12)) n11)),.d a0,.d (p.ld y9 0),.n n11,.n n11,.d a3]) [fun y14=>p.eqN n11 (p.len (p.lr y14 8)) (p.eqN n11 (p.len (p.lr y14 8)) (p.bnd (p.call 1000095 [p.ld y14 1,p.ld y14 2,(p.natD (p.ln y14 3)),(p.natD (p.ln y14 4)),p.ld y14 5,(p.slD 4 (p.lr y14 8)),(p.mpD true (p.lm y14 0))]) [fun y15=>p.rowsD 4 (p.ld y15 6) fun r16=>p.asM true (p.ld y15 7) fun q17=>p.un .not (p.ld y15 0) fun x18=>p.cond x18 (p.out 0 [.d (p.lit (.int .i64 92)),.d (p.ld y14 6),.d (p.ld y14 7)]) (p.out 1 [.d (p.lit (.int .i64 0)),.m q17,.r r16,.d (p.ld y15 1),.d (p.ld y15 2),.n (p.dN (p.ld y15 3)),.n (p.dN (p.ld y15 4)),.d (p.ld y15 5),.d (p.ld y14 6),.d (p.ld y14 7)])]))]))])]))])])
end
theorem op25 (n:Nat) (me h:Int) (b:Option (List Brd)) (o:Option (List Stk)) (hl:(o.getD []).length≤4611686018427387904) (hb:(b.getD []).length≤4611686018427387904) :
  opn25 (RP (n+4)) (il me) (dB b) (dS o) (il h)=if okP me (b.getD []) (o.getD []) h=true then some (1,[.d (il 0),.m (mapM (b.getD []) (pg me (b.getD []) (o.getD []))),.r ((o.getD []).map rS),.d (il me),.d (dB b),.n (o.getD []).length,.n (o.getD []).length,.d (il h),.d (il 0),.d (il 0)]) else some (0,[.d (il 92),.d (il 0),.d (il 0)]):=by
 simp only [opn25,r_call,s61,s62 _ _ _ hb,s68,lenL,r_bnd0,r_ld0,r_not,r_cond,r_out,r_liti,r_gtr,okP]
 by_cases h1:par me=true
 ·by_cases h2:bords me (b.getD [])=true
  ·have h2':=h2
   simp only [bords,Bool.and_eq_true,decide_eq_true_eq] at h2'
   by_cases h3:(o.getD []).length≤120
   ·have h3':¬ ((120:Int) < (o.getD []).length):=by omega
    by_cases h4:inn h 0 (o.getD []).length=true
    ·have hmk:0≤((o.getD []).length:Int)∧((32:Nat):Int)*((o.getD []).length:Int)≤140737488355328∧((o.getD []).length:Int)≤9223372036854775807:=by omega
     simp only [h1,h2,h3,h3',h4,Bool.not_true,Bool.false_eq_true,if_false,if_true,decide_true,decide_false,Bool.true_and,s63 _ _ h2'.2,r_bnd0,r_ld0,r_mkNg,hmk,and_self,Int.toNat_natCast,rowsL,r_repl,r_len,List.length_replicate,r_eqN,lenL,r_emp,r_app,r_seg0,r_seg1,r_loop,List.length_map]
     have hseg:=seg_copy ((o.getD []).map rS) [il 0,il 0,il 0,il 0]
     rw [List.length_map] at hseg
     rw [hseg,l43 _ _ hb (okL_rise h2'.1)]
     simp only [r_bnd0,r_ld0,r_lds,r_lm0,r_ln0,r_lns,r_lr0,r_lrs,List.length_map,if_true,r_natD,r_slD,r_mpD,mapM]
     rw [s1000095 _ _ hb (bords_six h2) _ (by omega) _ _ _ _ _ (new_len _)]
     simp only [r_bnd0,r_ld0,r_lds,r_rowsD,r_not,r_cond,r_dN]
     have ha:∀ (a:List Value) (b:Rr) (k:Mr→Out),(RP (n+4)).asM true (.mp true a b) k=k (a,b):=fun _ _ _=>rfl
     rw [ha]
     simp only [pg]
     rw [show (b.getD []).map (fun _=>fd0)=new (b.getD []) from rfl]
     cases (pread me (b.getD []) (new (b.getD [])) (o.getD [])).2<;>rfl
    ·simp [h1,h2,h3,h3',h4]
   ·have h3':((120:Int) < (o.getD []).length):=by omega
    simp [h1,h2,h3,h3']
  ·simp [h1,h2]
 ·simp [h1]
end Go.VE
namespace Go.VE
open Go.RowKit Go.Proofs
set_option maxRecDepth 100000
section
variable {n:Nat}
end
theorem okP_len {me h:Int} {bs:List Brd} {ss:List Stk} (ho:okP me bs ss h=true):ss.length≤120:=by
 simp only [okP,Bool.and_eq_true,decide_eq_true_eq] at ho
 exact ho.2.2.1
theorem okP_six {me h:Int} {bs:List Brd} {ss:List Stk} (ho:okP me bs ss h=true):∀ c∈bs,six c.2:=by
 simp only [okP,Bool.and_eq_true] at ho
 exact bords_six ho.2.1
end Go.VE
namespace Go.VE
open Go.RowKit Go.Proofs
set_option maxRecDepth 100000
end Go.VE
namespace Go.VE
open Go.RowKit Go.Proofs
set_option maxRecDepth 100000
end Go.VE
namespace Go.VE
open Go.RowKit Go.Proofs
set_option maxRecDepth 100000
end Go.VE
namespace Go.VE
open Go.RowKit Go.Proofs
set_option maxRecDepth 100000
end Go.VE
namespace Go.VE
open Go.RowKit Go.Proofs
set_option maxRecDepth 100000
theorem fitB {a b c:Nat} (ha:a≤120000) (hb:b≤120000) (hc:c≤32):(a+b)*c≤140737488355328∧a+b≤9223372036854775807:=by
 have:(a+b)*c≤240000*32:=Nat.mul_le_mul (by omega) hc
 omega
theorem s81 (n:Nat) (me h:Int) (b:Option (List Brd)) (o:Option (List Stk)) (hb:(b.getD []).length≤120) (hl:(o.getD []).length≤120) :
  FN (n+1) 81 [il me,dB b,dS o,il h]=some (0,[.d (il me),.d (dB (some (b.getD []))),.r ((o.getD []).map rS),.d (il h)]):=by
 rw [F81]
 have f1:=fitB (a:=0) (b:=(b.getD []).length) (c:=16) (by omega) (by omega) (by omega)
 have f2:=fitB (a:=0) (b:=(o.getD []).length) (c:=32) (by omega) (by omega) (by omega)
 have t1:((b.getD []).map rB).take (b.getD []).length=(b.getD []).map rB:=List.take_of_length_le (by simp)
 have t2:((o.getD []).map rS).take (o.getD []).length=(o.getD []).map rS:=List.take_of_length_le (by simp)
 simp only [Nat.zero_add] at f1 f2
 simp only [G81,rowsL,r_natN,r_rows,r_len,List.length_nil,r_eqN,if_true,r_addN,Nat.zero_add,List.length_map,r_fitsg,f1,f2,and_self,r_app,List.nil_append,r_leN,Nat.le_refl,r_seg0,t1,t2,r_slD,r_out]
 rfl
theorem okP_b4 {me h:Int} {bs:List Brd} {ss:List Stk} (h1:okP me bs ss h=true):bs.length≤4:=by
 simp only [okP,bords,Bool.and_eq_true,decide_eq_true_eq] at h1
 exact h1.2.1.2
theorem okP_par {me h:Int} {bs:List Brd} {ss:List Stk} (h1:okP me bs ss h=true):par me=true:=by
 simp only [okP,Bool.and_eq_true] at h1
 exact h1.1
end Go.VE
namespace Go.VE
open Go.RowKit Go.Proofs
set_option maxRecDepth 100000
end Go.VE
namespace Go.VE
open Go.RowKit Go.Proofs
set_option maxRecDepth 100000
end Go.VE
namespace Go.VE
open Go.RowKit Go.Proofs
set_option maxRecDepth 100000
section
variable {Fn:Nat→List D→Out} {FnD:D→List Sh→List D→Out} {m:Nat}
end
end Go.VE
namespace Go.VE
open Go.RowKit Go.Proofs
set_option maxRecDepth 100000
end Go.VE
namespace Go.VE
open Go.RowKit Go.Proofs
def isDirty (me:Int) (f:Fld) (o:Nat):Bool:=!decide ((o:Int)=me)&&(decide (f.no o≠0)&&!cleanF me o f)
def isClean (me:Int) (f:Fld) (o:Nat):Bool:=!decide ((o:Int)=me)&&(decide (f.no o≠0)&&cleanF me o f)
def isAsked (me:Int) (f:Fld) (o:Nat):Bool:=!decide ((o:Int)=me)&&decide (f.ask o≠0)
def talK (fld:Int) (f:Fld) (o:Nat):Stk:=(1,fld,(o:Int),f.no o)
def askK (fld:Int) (f:Fld) (o:Nat):Stk:=(3,fld,(o:Int),f.ask o)
def dirtyL (me fld:Int) (f:Fld) (i:Nat):List Stk:=((rg i).filter (isDirty me f)).map (talK fld f)
def cleanL (me fld:Int) (f:Fld) (i:Nat):List Stk:=((rg i).filter (isClean me f)).map (talK fld f)
def askedL (me fld:Int) (f:Fld) (i:Nat):List Stk:=((rg i).filter (isAsked me f)).map (askK fld f)
def anewF (me fld:Int) (f:Fld):List Stk:=dirtyL me fld f 0++((if f.wants≠0 then [(2,fld,0,f.wants)] else [])++(cleanL me fld f 0++(askedL me fld f 0++(if f.opn=true then [(4,fld,0,1)] else []))))
def recX (me:Int) (bs:List Brd) (ss:List Stk):List Stk:=bs.flatMap fun e=>anewF me e.1 (fread me e fd0 ss).1
theorem rg_len (i:Nat):(rg i).length=6 - i:=by simp [rg]
theorem flt_len (i:Nat) (p:Nat→Bool) (g:Nat→Stk):(((rg i).filter p).map g).length≤6:=by
 rw [List.length_map]
 exact Nat.le_trans (List.length_filter_le _ _) (by rw [rg_len];omega)
theorem anewF_len (me fld:Int) (f:Fld):(anewF me fld f).length≤20:=by
 have h1:=flt_len 0 (isDirty me f) (talK fld f)
 have h2:=flt_len 0 (isClean me f) (talK fld f)
 have h3:=flt_len 0 (isAsked me f) (askK fld f)
 have h4:(if f.wants≠0 then [(2,fld,0,f.wants)] else []:List Stk).length≤1:=by split<;>simp
 have h5:(if f.opn=true then [(4,fld,0,1)] else []:List Stk).length≤1:=by split<;>simp
 simp only [anewF,dirtyL,cleanL,askedL,List.length_append]
 omega
theorem recX_len {me:Int} {ss:List Stk}:∀ bs:List Brd,(recX me bs ss).length≤20*bs.length
 | []=>by simp [recX]
 | e::r=>by
  have h1:=anewF_len me e.1 (fread me e fd0 ss).1
  have h2:=recX_len (me:=me) (ss:=ss) r
  simp only [recX,List.flatMap_cons,List.length_append,List.length_cons] at h2 ⊢
  omega
theorem fitC {a b c:Nat} (ha:a≤120000) (hb:b≤120000) (hc:c≤32):(a+b)*c≤140737488355328∧a+b≤9223372036854775807:=fitB ha hb hc
end Go.VE
namespace Go.VE
open Go.RowKit Go.Proofs
set_option maxRecDepth 100000
theorem flt_step {i:Nat} (h:i < 6) (p:Nat→Bool) (g:Nat→Stk):((rg i).filter p).map g=(if p i=true then [g i] else [])++((rg (i+1)).filter p).map g:=by
 rw [rg_succ h,List.filter_cons]
 split<;>simp
theorem l98 (n:Nat) (b:Brd) (me fld:Int) (hm:par me=true) (f:Fld) :
  loopR [L98_0 (RP (n+2))] M0 0 (.d (il me)::.d (il fld)::.n 0::.n 0::.n 0::.d (il 0)::.r []::.r []::.r []::(r21 b me f).map .d) =
   some (0,.d (il me)::.d (il fld)::.n (dirtyL me fld f 0).length::.n (cleanL me fld f 0).length::.n (askedL me fld f 0).length::.r ((askedL me fld f 0).map rS)::.r ((cleanL me fld f 0).map rS)::.r ((dirtyL me fld f 0).map rS)::(r21 b me f).map .d):=by
 have:=cnt_loop (β:=List Stk×List Stk×List Stk) 6 (by omega) (L98_0 (RP (n+2)))
  (fun i g=>.d (il me)::.d (il fld)::.n g.2.2.length::.n g.2.1.length::.n g.1.length::.d (il i)::.r (g.1.map rS)::.r (g.2.1.map rS)::.r (g.2.2.map rS)::(r21 b me f).map .d)
  (fun i g=>g.1.length≤i∧g.2.1.length≤i∧g.2.2.length≤i)
  (fun i g=>some (0,.d (il me)::.d (il fld)::.n (g.2.2++dirtyL me fld f i).length::.n (g.2.1++cleanL me fld f i).length::.n (g.1++askedL me fld f i).length::.r ((g.1++askedL me fld f i).map rS)::.r ((g.2.1++cleanL me fld f i).map rS)::.r ((g.2.2++dirtyL me fld f i).map rS)::(r21 b me f).map .d)) ?_ ?_ ([],[],[]) ⟨by simp,by simp,by simp⟩
 ·simpa using this
 ·intro g k _
  simp [L98_0,r21,dirtyL,cleanL,askedL,rg]
 ·rintro i ⟨ga,gc,gd⟩ k hi ⟨h1,h2,h3⟩ hw ih
  simp only at h1 h2 h3
  have hp:par (i:Int)=true:=par_iff.2 (by omega)
  have h89:=s89 n b me hm f hp
  simp only [r21,List.cons_append,List.nil_append] at h89
  have fa:=fitC (a:=ga.length) (b:=1) (c:=32) (by omega) (by omega) (by omega)
  have fc:=fitC (a:=gc.length) (b:=1) (c:=32) (by omega) (by omega) (by omega)
  have fd:=fitC (a:=gd.length) (b:=1) (c:=32) (by omega) (by omega) (by omega)
  have hwn:(i:Int)≠me→wan me f i=f.ask i:=fun h=>by simp [wan,h]
  have hd:dirtyL me fld f i=(if isDirty me f i=true then [talK fld f i] else [])++dirtyL me fld f (i+1):=flt_step hi _ _
  have hcl:cleanL me fld f i=(if isClean me f i=true then [talK fld f i] else [])++cleanL me fld f (i+1):=flt_step hi _ _
  have has:askedL me fld f i=(if isAsked me f i=true then [askK fld f i] else [])++askedL me fld f (i+1):=flt_step hi _ _
  have one:∀ (c:Bool) (x:Stk),(if c=true then [x] else []).length≤1:=fun c x=>by cases c<;>simp
  have ih0:=ih (ga++(if isAsked me f i=true then [askK fld f i] else []),gc++(if isClean me f i=true then [talK fld f i] else []),gd++(if isDirty me f i=true then [talK fld f i] else [])) (by
   have o1:=one (isAsked me f i) (askK fld f i)
   have o2:=one (isClean me f i) (talK fld f i)
   have o3:=one (isDirty me f i) (talK fld f i)
   simp only [List.length_append]
   omega)
  rw [hd,hcl,has]
  simp only [←List.append_assoc]
  rw [←ih0]
  simp only [r21,List.map_cons,List.map_nil]
  simp only [L98_0,r_ld0,r_lds,r_ln0,r_lns,r_lr0,r_lrs,r_liti,r_lss,show ((i:Int) < 6) by omega,decide_true,r_cond,if_true,r_eql,r_add,hw,cast1,isAsked,isClean,isDirty,askK,talK]
  by_cases hme:(i:Int)=me
  ·simp [hme]
  ·by_cases h0:f.no i=0
   ·by_cases ha:f.ask i=0 <;>
    simp only [hme,decide_false,Bool.false_eq_true,if_false,r_natN,r_inx6n hi,r_addN,r_le6 hi,r_selN,sel6 _ hi,r_out,r_bnd0,r_ld0,r_lds,r_ln0,r_lns,r_lr0,r_lrs,r_neq,r_cond,hwn hme,r_call,h89,r_rows,r_len,List.length_cons,List.length_nil,List.length_map,r_eqN,r_seg0,List.take,r_fitsg,fa,fc,fd,and_self,if_true,r_add,hw,r_app,Nat.zero_add,Bool.not_false,Bool.true_and,h0,ha,ne_eq,not_true,not_false_eq_true,decide_true]<;>simp [rS]
   ·rcases Bool.eq_false_or_eq_true (cleanF me (i:Int) f) with hc | hc<;>by_cases ha:f.ask i=0<;>simp only [hc,hme,decide_false,Bool.false_eq_true,if_false,r_natN,r_inx6n hi,r_addN,r_le6 hi,r_selN,sel6 _ hi,r_out,r_bnd0,r_ld0,r_lds,r_ln0,r_lns,r_lr0,r_lrs,r_neq,r_cond,hwn hme,r_call,h89,r_rows,r_len,List.length_cons,List.length_nil,List.length_map,r_eqN,r_seg0,List.take,r_fitsg,fa,fc,fd,and_self,if_true,r_add,hw,r_app,Nat.zero_add,Bool.not_false,Bool.true_and,h0,ha,ne_eq,not_true,not_false_eq_true,decide_true]<;>simp [rS]
end Go.VE
namespace Go.VE
open Go.RowKit Go.Proofs
set_option maxRecDepth 100000
def opN {α:Type}:List α→Option (List α)
 | []=>none
 | a::t=>some (a::t)
theorem opN_get {α:Type} (l:List α):(opN l).getD []=l:=by cases l<;>rfl
theorem r_slN (n:Nat) {α:Type} (s:Nat) (f:α→List D) (l:List α):(RP n).slN s (l.map f)=dL s f (opN l):=by cases l<;>rfl
theorem s98 (n:Nat) (b:Brd) (me:Int) (hm:par me=true) (f:Fld):FN (n+3) 98 (il me::r21 b me f)=some (0,[.d (dS (opN (anewF me b.1 f)))]):=by
 have h:=l98 n b me b.1 hm f
 have hlt:=par_lt hm
 have hw:=wan_me hm f
 have a1:=flt_len 0 (isDirty me f) (talK b.1 f)
 have a2:=flt_len 0 (isClean me f) (talK b.1 f)
 have a3:=flt_len 0 (isAsked me f) (askK b.1 f)
 simp only [r21,List.map_cons,List.map_nil] at h ⊢
 rw [F98]
 unfold anewF
 change (dirtyL me b.1 f 0).length≤6 at a1
 change (cleanL me b.1 f 0).length≤6 at a2
 change (askedL me b.1 f 0).length≤6 at a3
 generalize dirtyL me b.1 f 0=ld at h a1 ⊢
 generalize cleanL me b.1 f 0=lc at h a2 ⊢
 generalize askedL me b.1 f 0=la at h a3 ⊢
 have f1:=fitC (a:=ld.length) (b:=1) (c:=32) (by omega) (by omega) (by omega)
 have f2:=fitC (a:=ld.length) (b:=lc.length) (c:=32) (by omega) (by omega) (by omega)
 have f3:=fitC (a:=ld.length+1) (b:=lc.length) (c:=32) (by omega) (by omega) (by omega)
 have f4:=fitC (a:=ld.length+lc.length) (b:=la.length) (c:=32) (by omega) (by omega) (by omega)
 have f5:=fitC (a:=ld.length+1+lc.length) (b:=la.length) (c:=32) (by omega) (by omega) (by omega)
 have f6:=fitC (a:=ld.length+lc.length+la.length) (b:=1) (c:=32) (by omega) (by omega) (by omega)
 have f7:=fitC (a:=ld.length+1+lc.length+la.length) (b:=1) (c:=32) (by omega) (by omega) (by omega)
 simp only [G98,r_loop,r_natN,r_liti,r_rows,h,r_bnd0]
 by_cases h0:f.wants=0<;>rcases Bool.eq_false_or_eq_true f.opn with ho | ho <;>
 simp only [r_bnd0,r_ld0,r_lds,r_ln0,r_lns,r_lr0,r_lrs,r_inx6 hm,r_addN,r_le6 hlt,r_selN,sel6 _ hlt,hw,h0,ho,r_neq,ne_eq,not_true,not_false_eq_true,decide_false,decide_true,Bool.false_eq_true,if_false,if_true,r_cond,r_len,List.length_cons,List.length_nil,List.length_map,List.length_append,r_eqN,Nat.zero_add,r_seg0,List.take,r_fitsg,f1,f2,f3,f4,f5,f6,f7,and_self,r_app,r_out,List.append_nil,List.nil_append]
 all_goals
  refine congrArg (fun x=>some (0,[Y.d x])) (Eq.trans ?_ (r_slN (n+2) 4 rS _))
  simp [rS]
end Go.VE
namespace Go.VE
open Go.RowKit Go.Proofs
set_option maxRecDepth 100000
theorem okP_okS {me h:Int} {bs:List Brd} {ss:List Stk} (h1:okP me bs ss h=true):∀ s∈ss,okS s=true:=(okW_strokes (okP_W _ _ _ _ ▸ h1)).2.2
theorem l54 (n:Nat) {me h:Int} (b:Option (List Brd)) (o:Option (List Stk)) (h1:okP me (b.getD []) (o.getD []) h=true) (R:Rr) (n1 n2:Nat) (c0 c1 c2 c3:D) :
  loopR [L54_0 (RP (n+6))] M0 0 [.d (il me),.d (dB b),.d (dS o),.d c0,.d (il 0),.r [],.r R,.d (il me),.n n1,.n n2,.n 0,.d c1,.d c2,.d c3] =
   some (0,[.r ((recX me (b.getD []) (o.getD [])).map rS),.r R,.d (il me),.n n1,.n n2,.n (recX me (b.getD []) (o.getD [])).length,.d c1,.d c2,.d c3]):=by
 have hb4:=okP_b4 h1
 have hl:=okP_len h1
 have hm:=okP_par h1
 have h66:=okP_six h1
 have hok:=okP_okS h1
 have:=range_loop (β:=List Stk) (b.getD []) (by omega) (L54_0 (RP (n+6))) (fun i g=>[.d (il me),.d (dB b),.d (dS o),.d c0,.d (il i),.r (g.map rS),.r R,.d (il me),.n n1,.n n2,.n g.length,.d c1,.d c2,.d c3])
  (fun i g=>g.length≤20*i)
  (fun i r g=>some (0,[.r ((g++recX me r (o.getD [])).map rS),.r R,.d (il me),.n n1,.n n2,.n (g++recX me r (o.getD [])).length,.d c1,.d c2,.d c3])) ?_ ?_ M0 [] (by simp) (M0_big (by omega))
 ·simpa using this
 ·intro g k _
  simp [L54_0,lenL,recX]
 ·intro i e r g k hi hd hlt hw hg ih
  have hlt':(i:Int) < ((b.getD []).length:Int):=by omega
  have h75:=s75 n e (h66 e (List.mem_of_getElem? hi)) hm o (by omega) hok
  have h98:=s98 (n+3) e me hm (fread me e fd0 (o.getD [])).1
  have hal:=anewF_len me e.1 (fread me e fd0 (o.getD [])).1
  have hfit:=fitC (a:=g.length) (b:=(anewF me e.1 (fread me e fd0 (o.getD [])).1).length) (c:=32) (by omega) (by omega) (by omega)
  have ih0:=ih (g++anewF me e.1 (fread me e fd0 (o.getD [])).1) (by rw [List.length_append];omega)
  simp only [r21,List.cons_append,List.nil_append,List.map_cons,List.map_nil] at h75 h98
  simp only [recX,List.flatMap_cons] at ih0 ⊢
  rw [←List.append_assoc,← ih0]
  simp only [L54_0,r_ld0,r_lds,r_ln0,r_lns,r_lr0,r_lrs,lenL,r_liti,r_lss,hlt',decide_true,r_cond,if_true,rowB hi,cB0,cB1,r_call,h75,r_bnd0,h98,rowsL,opN_get,r_len,List.length_map,List.length_append,r_eqN,r_addN,r_fitsg,hfit,and_self,r_add,hw,cast1,r_app,List.map_append]
theorem s54 (n:Nat) (me h:Int) (b:Option (List Brd)) (o:Option (List Stk)) (hl:(o.getD []).length≤4611686018427387904) (hb:(b.getD []).length≤4611686018427387904) :
  FN (n+8) 54 [il me,dB b,dS o,il h]=if okP me (b.getD []) (o.getD []) h=true then some (0,[.d (il me),.d (dB (some (b.getD []))),.d (dS (opN (recX me (b.getD []) (o.getD [])))),.d (il (recX me (b.getD []) (o.getD [])).length),.d (il 0)]) else noW 92:=by
 rw [F54]
 simp only [G54,r_call,s15 _ _ _ _ _ hl hb,← okP_W,r_bnd0,r_ld0,r_liti,r_neq,ite_ne _ 92 (by omega),r_cond,r_out]
 by_cases h1:okP me (b.getD []) (o.getD []) h=true
 ·have hb4:=okP_b4 h1
  have hf:=fitC (a:=0) (b:=(b.getD []).length) (c:=16) (by omega) (by omega) (by omega)
  have ht:((b.getD []).map rB).take (b.getD []).length=(b.getD []).map rB:=List.take_of_length_le (by simp)
  simp only [Nat.zero_add] at hf
  simp only [h1,Bool.not_true,Bool.false_eq_true,if_false,if_true,rowsL,r_natN,r_rows,r_len,List.length_nil,r_eqN,r_addN,Nat.zero_add,List.length_map,r_fitsg,hf,and_self,r_app,List.nil_append,r_loop]
  rw [l54 (n+1) b o h1]
  simp only [r_bnd0,r_ld0,r_lds,r_ln0,r_lns,r_lr0,r_lrs,List.length_map,if_true,r_seg0,ht,r_slD,r_slN,r_natD]
  rfl
 ·simp [h1,noW,nilS]
theorem s50 (n:Nat) (me h:Int) (b:Option (List Brd)) (o:Option (List Stk)) (hl:(o.getD []).length≤4611686018427387904) (hb:(b.getD []).length≤4611686018427387904) :
  FN (n+8) 50 [il me,dB b,dS o,il h]=if okP me (b.getD []) (o.getD []) h=true then some (0,[.d (il me),.d (dB (some (b.getD []))),.d (dS (some (o.getD []))),.d (il (o.getD []).length),.d (il 0)]) else noW 92:=by
 rw [F50]
 simp only [G50,r_call,s15 _ _ _ _ _ hl hb,← okP_W,r_bnd0,r_ld0,r_liti,r_neq,ite_ne _ 92 (by omega),r_cond,r_out]
 by_cases h1:okP me (b.getD []) (o.getD []) h=true
 ·have hb4:=okP_b4 h1
  have hl4:=okP_len h1
  have ht:((o.getD []).map rS).take (o.getD []).length=(o.getD []).map rS:=List.take_of_length_le (by simp)
  simp only [h1,Bool.not_true,Bool.false_eq_true,if_false,if_true,s81 _ _ _ _ _ (show (b.getD []).length≤120 by omega) hl4,r_bnd0,r_ld0,r_lds,r_lr0,r_lrs,r_len,List.length_map,r_eqN,r_seg0,ht,r_slD,r_natD]
  rfl
 ·simp [h1,noW,nilS]
end Go.VE
namespace Go.VE
open Go.RowKit Go.Proofs
set_option maxRecDepth 100000
def modZ (x m:Int):Int:=(x.tmod m+m).tmod m
theorem modZ_rng {x m:Int} (hm:0 < m):0≤modZ x m∧modZ x m < m:=by
 have h1:=Int.lt_tmod_of_pos x hm
 have h2:0≤x.tmod m+m:=by omega
 exact ⟨Int.tmod_nonneg _ h2,Int.tmod_lt_of_pos _ hm⟩
def tearN (ss:List Stk) (h left:Int):Nat:=(h+modZ left ((ss.length:Int) - h+1)).toNat
theorem tear_facts {ss:List Stk} {h left:Int} (h0:0≤h) (h1:h≤ss.length):(h+modZ left ((ss.length:Int) - h+1)=tearN ss h left)∧tearN ss h left≤ss.length:=by
 have:=modZ_rng (x:=left) (m:=(ss.length:Int) - h+1) (by omega)
 unfold tearN
 omega
theorem okP_h {me h:Int} {bs:List Brd} {ss:List Stk} (h1:okP me bs ss h=true):0≤h∧h≤ss.length:=by
 simp only [okP,Bool.and_eq_true] at h1
 have:=h1.2.2.2.1
 simpa [inn] using this
theorem sums {x m:Int} (h0:0 < m) (h1:m≤200):IntKind.i64.wrap (x.tmod m+m)=x.tmod m+m:=by
 have h2:=Int.lt_tmod_of_pos x h0
 have h3:=Int.tmod_lt_of_pos x h0
 exact wrap_id (by omega) (by omega)
theorem s96 (n:Nat) (x m:Int) (h0:0 < m) (h1:m≤200):FN (n+1) 96 [il x,il m]=some (0,[.d (il (modZ x m))]):=by
 rw [F96]
 simp only [G96,r_rem _ _ _ _ (show m≠0 by omega),r_add,sums h0 h1,r_out,modZ]
theorem l52 (n:Nat) (o:Option (List Stk)) (N:Nat) (hl:(o.getD []).length≤120) (hN:N≤(o.getD []).length) (c0 c1 c2 c3 c4 c5 c6 c7:D) :
  loopR [L52_0 (RP n)] M0 0 [.d c0,.d c1,.d (dS o),.d c2,.d (il N),.d (il 0),.r [],.d c3,.d c4,.n 0,.d c5,.d c6,.d c7]=some (0,[.r (((o.getD []).take N).map rS),.d c3,.d c4,.n N,.d c5,.d c6,.d c7]):=by
 have hlen:((o.getD []).take N).length=N:=by rw [List.length_take];omega
 have:=range_loop (β:=List Stk) ((o.getD []).take N) (by omega) (L52_0 (RP n)) (fun i g=>[.d c0,.d c1,.d (dS o),.d c2,.d (il N),.d (il i),.r (g.map rS),.d c3,.d c4,.n g.length,.d c5,.d c6,.d c7])
  (fun i g=>g.length=i)
  (fun i r g=>some (0,[.r ((g++r).map rS),.d c3,.d c4,.n (g++r).length,.d c5,.d c6,.d c7])) ?_ ?_ M0 [] (by simp) (M0_big (by omega))
 ·simpa [hlen] using this
 ·intro g k hg
  simp [L52_0,hlen]
 ·intro i e r g k hi hd hlt hw hg ih
  rw [hlen] at hlt
  have hi':(o.getD [])[i]?=some e:=by rw [List.getElem?_take_of_lt hlt] at hi;exact hi
  have hlt':(i:Int) < (N:Int):=by omega
  have hfit:=fitC (a:=g.length) (b:=1) (c:=32) (by omega) (by omega) (by omega)
  have ih0:=ih (g++[e]) (by simp [hg])
  rw [show g++e::r=(g++[e])++r by simp,← ih0]
  simp only [L52_0,r_ld0,r_lds,r_ln0,r_lns,r_lr0,r_lrs,r_lss,hlt',decide_true,r_cond,if_true,rowS hi',cS0,cS1,cS2,cS3,r_natN,r_rows,r_len,List.length_cons,List.length_nil,List.length_map,List.length_append,r_eqN,Nat.zero_add,r_seg0,List.take,r_addN,r_fitsg,hfit,and_self,r_add,r_liti,hw,cast1,r_app,List.map_append,List.map_cons,List.map_nil]
  rfl
theorem s52 (n:Nat) (me h left:Int) (b:Option (List Brd)) (o:Option (List Stk)) (hl:(o.getD []).length≤4611686018427387904) (hb:(b.getD []).length≤4611686018427387904) :
  FN (n+8) 52 [il me,dB b,dS o,il h,il left]=if okP me (b.getD []) (o.getD []) h=true then some (0,[.d (il me),.d (dB (some (b.getD []))),.d (dS (opN ((o.getD []).take (tearN (o.getD []) h left)))),.d (il h),.d (il 0)]) else noW 92:=by
 rw [F52]
 simp only [G52,r_call,s15 _ _ _ _ _ hl hb,← okP_W,r_bnd0,r_ld0,r_liti,r_neq,ite_ne _ 92 (by omega),r_cond,r_out]
 by_cases h1:okP me (b.getD []) (o.getD []) h=true
 ·have hb4:=okP_b4 h1
  have hl4:=okP_len h1
  have hh:=okP_h h1
  obtain ⟨t1,t2⟩:=tear_facts (left:=left) hh.1 hh.2
  have w1:IntKind.i64.wrap (((o.getD []).length:Int) - h)=((o.getD []).length:Int) - h:=wrap_id (by omega) (by omega)
  have w2:IntKind.i64.wrap (((o.getD []).length:Int) - h+1)=((o.getD []).length:Int) - h+1:=wrap_id (by omega) (by omega)
  have w3:IntKind.i64.wrap (h+modZ left (((o.getD []).length:Int) - h+1))=tearN (o.getD []) h left:=by rw [t1];exact wrap_id (by omega) (by omega)
  have hlen:((o.getD []).take (tearN (o.getD []) h left)).length=tearN (o.getD []) h left:=by rw [List.length_take];omega
  simp only [h1,Bool.not_true,Bool.false_eq_true,if_false,if_true,lenL,r_sub,w1,r_add,w2,s96 _ left (((o.getD []).length:Int) - h+1) (by omega) (by omega),r_bnd0,r_ld0,w3,s81 _ _ _ _ _ (show (b.getD []).length≤120 by omega) hl4,r_ld0,r_lds,r_loop,r_natN,r_rows,l52 _ o _ hl4 t2,r_ln0,r_lns,r_lr0,r_len,List.length_map,hlen,r_eqN,r_slN]
 ·simp [h1,noW,nilS]
theorem eL49:@L49_0=@L43_0:=rfl
theorem eL51:@L51_0=@L43_0:=rfl
theorem s49 (n:Nat) (me h:Int) (b:Option (List Brd)) (o:Option (List Stk)) (hl:(o.getD []).length≤4611686018427387904) (hb:(b.getD []).length≤4611686018427387904) :
  FN (n+6) 49 [il me,dB b,dS o,il h]=if okP me (b.getD []) (o.getD []) h=true then some (0,[.d (il me),.d (dB b),.d (dS (some (o.getD []))),.d (il (o.getD []).length),.d (il 0)]) else noW 92:=by
 rw [F49]
 have hop:opn25 (RP (n+5)) (il me) (dB b) (dS o) (il h)=_:=op25 (n+1) me h b o hl hb
 unfold G49
 rw [eL49]
 refine bnd_eq hop ?_
 by_cases h1:okP me (b.getD []) (o.getD []) h=true
 ·have ht:((o.getD []).map rS).take (o.getD []).length=(o.getD []).map rS:=List.take_of_length_le (by simp)
  simp only [h1,if_true,r_bnd1,r_ld0,r_lds,r_ln0,r_lns,r_lr0,r_lrs,r_liti,r_neq,ne_eq,not_true,decide_false,r_cond,Bool.false_eq_true,if_false,r_len,List.length_map,r_eqN,r_seg0,ht,r_slD,r_natD,r_out]
  rfl
 ·simp [h1,noW,nilS]
theorem s51 (n:Nat) (me h left:Int) (b:Option (List Brd)) (o:Option (List Stk)) (hl:(o.getD []).length≤4611686018427387904) (hb:(b.getD []).length≤4611686018427387904) :
  FN (n+6) 51 [il me,dB b,dS o,il h,il left]=if okP me (b.getD []) (o.getD []) h=true then some (0,[.d (il me),.d (dB b),.d (dS (some ((o.getD []).take (tearN (o.getD []) h left)))),.d (il h),.d (il 0)]) else noW 92:=by
 rw [F51]
 have hop:opn2 (RP (n+5)) (il me) (dB b) (dS o) (il h) (il left)=_:=op2 (n+1) me h b o (il left) hl hb
 unfold G51
 rw [eL51]
 refine bnd_eq hop ?_
 by_cases h1:okP me (b.getD []) (o.getD []) h=true
 ·have hl4:=okP_len h1
  have hh:=okP_h h1
  obtain ⟨t1,t2⟩:=tear_facts (left:=left) hh.1 hh.2
  have hm:((o.getD []).length:Int) - h+1≠0:=by omega
  have w1:IntKind.i64.wrap (((o.getD []).length:Int) - h)=((o.getD []).length:Int) - h:=wrap_id (by omega) (by omega)
  have w2:IntKind.i64.wrap (((o.getD []).length:Int) - h+1)=((o.getD []).length:Int) - h+1:=wrap_id (by omega) (by omega)
  have w3:=sums (x:=left) (m:=((o.getD []).length:Int) - h+1) (by omega) (by omega)
  have w4:IntKind.i64.wrap (h+(left.tmod (((o.getD []).length:Int) - h+1)+(((o.getD []).length:Int) - h+1)).tmod (((o.getD []).length:Int) - h+1))=tearN (o.getD []) h left:=by
   have:h+(left.tmod (((o.getD []).length:Int) - h+1)+(((o.getD []).length:Int) - h+1)).tmod (((o.getD []).length:Int) - h+1)=tearN (o.getD []) h left:=t1
   rw [this];exact wrap_id (by omega) (by omega)
  have hcut:∀ (k:Nat→Nat→Out) (e:Out),(RP (n+5)).cut none (some (il (tearN (o.getD []) h left))) (o.getD []).length k e=k 0 (tearN (o.getD []) h left):=fun k e=>by
   show (if (0:Int)≤0∧(0:Int)≤(tearN (o.getD []) h left:Int)∧(tearN (o.getD []) h left:Int)≤((o.getD []).length:Nat) then (if (0:Int)=0∨(0:Int) < (tearN (o.getD []) h left:Int) then k (0:Int).toNat ((tearN (o.getD []) h left:Int) - 0).toNat else e) else none)=_
   rw [if_pos (by omega),if_pos (by omega)]
   simp
  simp only [h1,if_true,r_bnd1,r_ld0,r_lds,r_ln0,r_lns,r_lr0,r_lrs,r_liti,r_neq,ne_eq,not_true,decide_false,r_cond,Bool.false_eq_true,if_false,r_natD,r_sub,w1,r_add,w2,r_rem _ _ _ _ hm,w3,w4,r_len,List.length_map,r_eqN,hcut,r_seg0,← List.map_take,r_slD,r_out]
  rfl
 ·simp [h1,noW,nilS]
end Go.VE
namespace Go.VE
open Go.RowKit Go.Proofs
set_option maxRecDepth 100000
theorem l53_1 (n:Nat) {e:Brd} (me:Int) {bs:List Brd} {fs:List Fld} {j:Nat} {f:Fld} (hx:bix e.1 bs=some j) (hf:fs[j]?=some f) (h6:six e.2) (hno:∀ o:Nat,f.no o≠0→e.2.toNat.testBit o=true) (R:Rr) (m1 m2 m3 n1 n2:Nat) (c1 c2 cB ch z1 z2:D) (out:List Stk) (hl:out.length≤100) :
  loopR [L53_1 (RP (n+3)) (rB e)] M0 0 [.d (il e.1),.d (il e.2),.d (il 0),.n out.length,.n m1,.n m2,.d c1,.d c2,.m (mapM bs fs),.r R,.r (out.map rS),.n m3,.d (il me),.d cB,.n n1,.n n2,.d ch,.d z1,.d z2]=some (0,[.n (out++dirtyL me e.1 f 0).length,.n m1,.n m2,.d c1,.d c2,.m (mapM bs fs),.r R,.r ((out++dirtyL me e.1 f 0).map rS),.n m3,.d (il me),.d cB,.n n1,.n n2,.d ch,.d z1,.d z2]):=by
 have:=cnt_loop (β:=List Stk) 6 (by omega) (L53_1 (RP (n+3)) (rB e)) (fun i g=>[.d (il e.1),.d (il e.2),.d (il i),.n g.length,.n m1,.n m2,.d c1,.d c2,.m (mapM bs fs),.r R,.r (g.map rS),.n m3,.d (il me),.d cB,.n n1,.n n2,.d ch,.d z1,.d z2]) (fun i g=>g.length≤100+i)
  (fun i g=>some (0,[.n (g++dirtyL me e.1 f i).length,.n m1,.n m2,.d c1,.d c2,.m (mapM bs fs),.r R,.r ((g++dirtyL me e.1 f i).map rS),.n m3,.d (il me),.d cB,.n n1,.n n2,.d ch,.d z1,.d z2])) ?_ ?_ out hl
 ·exact this
 ·intro g k _
  simp [L53_1,rg,dirtyL]
 ·rintro i g k hi hg hw ih
  have hle3:3*i≤17:=by omega
  have hle4:3*i≤19:=by omega
  have hlt:(i:Int) < 6:=by omega
  have hd:dirtyL me e.1 f i=(if isDirty me f i=true then [talK e.1 f i] else [])++dirtyL me e.1 f (i+1):=flt_step hi _ _
  have one:∀ (c:Bool) (x:Stk),(if c=true then [x] else []).length≤1:=fun c x=>by cases c<;>simp
  have ih0:=ih (g++(if isDirty me f i=true then [talK e.1 f i] else [])) (by
   have o1:=one (isDirty me f i) (talK e.1 f i)
   simp only [List.length_append]
   omega)
  have hfit:=fitC (a:=g.length) (b:=1) (c:=32) (by omega) (by omega) (by omega)
  have hcl:cleanF me (i:Int) f=(isWith me i (f.no i)&&(odd f.wants&&f.af i)):=by simp only [cleanF,Int.toNat_natCast]
  rw [hd,← List.append_assoc,← ih0]
  simp only [L53_1,isDirty,talK,hcl,r_ld0,r_lds,r_lm0,r_lms,r_ln0,r_lns,r_lr0,r_lrs,r_liti,r_litb,r_lss,decide_true,r_cond,if_true,r_neq,r_call,r_bnd0,r_natN,r_inx6n hi,r_addN,r_mulN,r_leN,r_mrowsM,r_findM,r_cellN,Nat.zero_add,Nat.add_zero,r_row20 hf,get_no f hi,get_af f hi,get_wants,hlt,s91 _ _ h6,hasP_nat hi,s86,hx,hle3,hle4,Nat.reduceAdd,Nat.reduceLeDiff,r_rem _ _ _ _ (show (2:Int)≠0 by decide),r_eql,r_rows,r_len,List.length_cons,List.length_nil,List.length_map,List.length_append,r_eqN,r_seg0,List.take,r_fitsg,hfit,and_self,r_add,hw,cast1,r_app,r_out,ne_eq,cB0]
  by_cases h1:(i:Int)=me
  ·simp [h1]
  ·by_cases h2:e.2.toNat.testBit i=true
   ·by_cases h3:f.no i=0
    ·simp [h1,h2,h3]
    ·rcases Bool.eq_false_or_eq_true (isWith me (i:Int) (f.no i)) with h4 | h4
     ·by_cases h5:f.wants.tmod 2=1
      ·rcases Bool.eq_false_or_eq_true (f.af i) with h7 | h7<;>simp only [h1,h2,h3,h4,h5,h7,r_ld0,r_lds,r_lm0,r_lms,r_ln0,r_lns,r_lr0,r_lrs,decide_true,decide_false,r_cond,if_true,r_bnd0,r_eqlB,not_false_eq_true]<;>simp [rS,odd,h5]
      ·simp only [h1,h2,h3,h4,h5,r_ld0,r_lds,r_lm0,r_lms,r_ln0,r_lns,r_lr0,r_lrs,decide_true,decide_false,r_cond,if_true,if_false,Bool.false_eq_true,r_bnd0,r_eqlB,not_false_eq_true]
       simp [rS,odd,h5]
     ·simp only [h1,h2,h3,h4,r_ld0,r_lds,r_lm0,r_lms,r_ln0,r_lns,r_lr0,r_lrs,decide_true,decide_false,r_cond,if_true,if_false,Bool.false_eq_true,r_bnd0,r_eqlB,not_false_eq_true]
      simp [rS]
   ·have h3:f.no i=0:=by
     by_cases h:f.no i=0
     ·exact h
     ·exact absurd (hno i h) h2
    simp [h1,h2,h3]
theorem l53_2 (n:Nat) {e:Brd} (me:Int) {bs:List Brd} {fs:List Fld} {j:Nat} {f:Fld} (hx:bix e.1 bs=some j) (hf:fs[j]?=some f) (h6:six e.2) (hno:∀ o:Nat,f.no o≠0→e.2.toNat.testBit o=true) (R:Rr) (y:List Yr) (hy:(RP (n+3)).ld y 8=il e.1) (m1 m2 m3 n1 n2:Nat) (c1 c2 cB ch z1 z2:D) (out:List Stk) (hl:out.length≤100) :
  loopR [L53_2 (RP (n+3)) y] M0 0 [.d (il e.1),.d (il e.2),.d (il 0),.n out.length,.r R,.r (out.map rS),.m (mapM bs fs),.n m1,.n m2,.d c1,.d c2,.n m3,.d (il me),.d cB,.n n1,.n n2,.d ch,.d z1,.d z2]=some (0,[.n (out++cleanL me e.1 f 0).length,.r R,.r ((out++cleanL me e.1 f 0).map rS),.m (mapM bs fs),.n m1,.n m2,.d c1,.d c2,.n m3,.d (il me),.d cB,.n n1,.n n2,.d ch,.d z1,.d z2]):=by
 have:=cnt_loop (β:=List Stk) 6 (by omega) (L53_2 (RP (n+3)) y) (fun i g=>[.d (il e.1),.d (il e.2),.d (il i),.n g.length,.r R,.r (g.map rS),.m (mapM bs fs),.n m1,.n m2,.d c1,.d c2,.n m3,.d (il me),.d cB,.n n1,.n n2,.d ch,.d z1,.d z2]) (fun i g=>g.length≤100+i)
  (fun i g=>some (0,[.n (g++cleanL me e.1 f i).length,.r R,.r ((g++cleanL me e.1 f i).map rS),.m (mapM bs fs),.n m1,.n m2,.d c1,.d c2,.n m3,.d (il me),.d cB,.n n1,.n n2,.d ch,.d z1,.d z2])) ?_ ?_ out hl
 ·exact this
 ·intro g k _
  simp [L53_2,rg,cleanL]
 ·rintro i g k hi hg hw ih
  have hle3:3*i≤17:=by omega
  have hle4:3*i≤19:=by omega
  have hlt:(i:Int) < 6:=by omega
  have hd:cleanL me e.1 f i=(if isClean me f i=true then [talK e.1 f i] else [])++cleanL me e.1 f (i+1):=flt_step hi _ _
  have one:∀ (c:Bool) (x:Stk),(if c=true then [x] else []).length≤1:=fun c x=>by cases c<;>simp
  have ih0:=ih (g++(if isClean me f i=true then [talK e.1 f i] else [])) (by
   have o1:=one (isClean me f i) (talK e.1 f i)
   simp only [List.length_append]
   omega)
  have hfit:=fitC (a:=g.length) (b:=1) (c:=32) (by omega) (by omega) (by omega)
  have hcl:cleanF me (i:Int) f=(isWith me i (f.no i)&&(odd f.wants&&f.af i)):=by simp only [cleanF,Int.toNat_natCast]
  rw [hd,← List.append_assoc,← ih0]
  simp only [L53_2,isClean,talK,hcl,hy,r_ld0,r_lds,r_lm0,r_lms,r_ln0,r_lns,r_lr0,r_lrs,r_liti,r_litb,r_lss,decide_true,r_cond,if_true,r_neq,r_call,r_bnd0,r_natN,r_inx6n hi,r_addN,r_mulN,r_leN,r_mrowsM,r_findM,r_cellN,Nat.zero_add,Nat.add_zero,r_row20 hf,get_no f hi,get_af f hi,get_wants,hlt,s91 _ _ h6,hasP_nat hi,s86,hx,hle3,hle4,Nat.reduceAdd,Nat.reduceLeDiff,r_rem _ _ _ _ (show (2:Int)≠0 by decide),r_eql,r_rows,r_len,List.length_cons,List.length_nil,List.length_map,List.length_append,r_eqN,r_seg0,List.take,r_fitsg,hfit,and_self,r_add,hw,cast1,r_app,r_out,ne_eq]
  by_cases h1:(i:Int)=me
  ·simp [h1]
  ·by_cases h2:e.2.toNat.testBit i=true
   ·by_cases h3:f.no i=0
    ·simp [h1,h2,h3]
    ·rcases Bool.eq_false_or_eq_true (isWith me (i:Int) (f.no i)) with h4 | h4
     ·by_cases h5:f.wants.tmod 2=1
      ·rcases Bool.eq_false_or_eq_true (f.af i) with h7 | h7<;>simp only [h1,h2,h3,h4,h5,h7,r_ld0,r_lds,r_lm0,r_lms,r_ln0,r_lns,r_lr0,r_lrs,decide_true,decide_false,r_cond,if_true,r_bnd0,r_eqlB,not_false_eq_true]<;>simp [rS,odd,h5]
      ·simp only [h1,h2,h3,h4,h5,r_ld0,r_lds,r_lm0,r_lms,r_ln0,r_lns,r_lr0,r_lrs,decide_true,decide_false,r_cond,if_true,if_false,Bool.false_eq_true,r_bnd0,r_eqlB,not_false_eq_true]
       simp [odd,h5]
     ·simp only [h1,h2,h3,h4,r_ld0,r_lds,r_lm0,r_lms,r_ln0,r_lns,r_lr0,r_lrs,decide_true,decide_false,r_cond,if_true,if_false,Bool.false_eq_true,r_bnd0,r_eqlB,not_false_eq_true]
      simp []
   ·have h3:f.no i=0:=by
     by_cases h:f.no i=0
     ·exact h
     ·exact absurd (hno i h) h2
    simp [h1,h2,h3]
theorem l53_3 (n:Nat) {e:Brd} (me:Int) {bs:List Brd} {fs:List Fld} {j:Nat} {f:Fld} (_:bix e.1 bs=some j) (hf:fs[j]?=some f) (h6:six e.2) (hask:∀ o:Nat,f.ask o≠0→e.2.toNat.testBit o=true) (R:Rr) (n1 n2:Nat) (c1 c2 cB ch z1 _:D) (out:List Stk) (hl:out.length≤100) :
  loopR [L53_3 (RP (n+3))] M0 0 [.d (il e.1),.d (il e.2),.d (il 0),.n out.length,.d c1,.d c2,.d (il me),.d cB,.n n1,.n n2,.d ch,.d (il e.1),.d z1,.n j,.n 0,.m (mapM bs fs),.r (out.map rS),.r R]=some (0,[.n (out++askedL me e.1 f 0).length,.d c1,.d c2,.d (il me),.d cB,.n n1,.n n2,.d ch,.d (il e.1),.d z1,.n j,.n 0,.m (mapM bs fs),.r ((out++askedL me e.1 f 0).map rS),.r R]):=by
 have:=cnt_loop (β:=List Stk) 6 (by omega) (L53_3 (RP (n+3))) (fun i g=>[.d (il e.1),.d (il e.2),.d (il i),.n g.length,.d c1,.d c2,.d (il me),.d cB,.n n1,.n n2,.d ch,.d (il e.1),.d z1,.n j,.n 0,.m (mapM bs fs),.r (g.map rS),.r R]) (fun i g=>g.length≤100+i)
  (fun i g=>some (0,[.n (g++askedL me e.1 f i).length,.d c1,.d c2,.d (il me),.d cB,.n n1,.n n2,.d ch,.d (il e.1),.d z1,.n j,.n 0,.m (mapM bs fs),.r ((g++askedL me e.1 f i).map rS),.r R])) ?_ ?_ out hl
 ·exact this
 ·intro g k _
  simp [L53_3,rg,askedL]
 ·rintro i g k hi hg hw ih
  have hle3:3*i≤17:=by omega
  have hle4:3*i≤19:=by omega
  have hlt:(i:Int) < 6:=by omega
  have hd:askedL me e.1 f i=(if isAsked me f i=true then [askK e.1 f i] else [])++askedL me e.1 f (i+1):=flt_step hi _ _
  have one:∀ (c:Bool) (x:Stk),(if c=true then [x] else []).length≤1:=fun c x=>by cases c<;>simp
  have ih0:=ih (g++(if isAsked me f i=true then [askK e.1 f i] else [])) (by
   have o1:=one (isAsked me f i) (askK e.1 f i)
   simp only [List.length_append]
   omega)
  have hfit:=fitC (a:=g.length) (b:=1) (c:=32) (by omega) (by omega) (by omega)
  have hcl:cleanF me (i:Int) f=(isWith me i (f.no i)&&(odd f.wants&&f.af i)):=by simp only [cleanF,Int.toNat_natCast]
  rw [hd,← List.append_assoc,← ih0]
  simp only [L53_3,isAsked,askK,r_ld0,r_lds,r_lm0,r_lms,r_ln0,r_lns,r_lr0,r_lrs,r_liti,r_lss,decide_true,r_cond,if_true,r_neq,r_call,r_bnd0,r_natN,r_inx6n hi,r_addN,r_mulN,r_leN,r_mrowsM,r_cellN,Nat.zero_add,Nat.add_zero,r_row20 hf,get_ask f hi,hlt,s91 _ _ h6,hasP_nat hi,hle3,Nat.reduceLeDiff,r_rows,r_len,List.length_cons,List.length_nil,List.length_map,List.length_append,r_eqN,r_seg0,List.take,r_fitsg,hfit,and_self,r_add,hw,cast1,r_app,r_out,ne_eq]
  by_cases h1:(i:Int)=me
  ·simp [h1]
  ·by_cases h2:e.2.toNat.testBit i=true
   ·by_cases h3:f.ask i=0
    ·simp [h1,h2,h3]
    ·simp only [h1,h2,h3,decide_true,decide_false,if_true,not_false_eq_true]
     simp [rS]
   ·have h3:f.ask i=0:=by
     by_cases h:f.ask i=0
     ·exact h
     ·exact absurd (hask i h) h2
    simp [h1,h2,h3]
end Go.VE
