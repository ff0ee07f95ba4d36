/- The statement BellTells: what a watch says of its fields and what it tells another parish agree with the reference, for all watches, fields and parishes, valid or not; the package-level variables that the card lists lie as the program's text lays them. -/
import Derived.Test.YtaagapoglhndjaaDoorMg3
import Derived.Test.YtaagapoglhndjaaDoorMg2
import Derived.Test.YtaagapoglhndjaaDoorMg1
import Derived.Test.YtaagapoglhndjaaDoorMh
import Derived.Test.YtaagapoglhndjaaDoorCards
import Derived.Test.YtaagapoglhndjaaDoorTie
import Derived.SevenTiedAt
import Derived.ProofKit
import Derived.LaidMore
import Derived.Stop.Joined
namespace Go.VE
open Go.RowKit Go.Proofs
set_option maxRecDepth 100000
section
variable {Δ N R W M E Ω:Type} (p:Pr Δ N R W M E Ω)
def opn2 (a0 a1 a2 a3 a4: Δ):Ω:=(p.bnd (p.call 61 [a0]) [fun y0=>p.un .not (p.ld y0 0) fun x1=>p.cond x1 (p.out 0 [.d a4,.d (p.lit (.int .i64 92)),.d (p.lit (.int .i64 0)),.d (p.lit (.int .i64 0))]) (p.bnd (p.call 62 [a0,a1]) [fun y2=>p.un .not (p.ld y2 0) fun x3=>p.cond x3 (p.out 0 [.d a4,.d (p.lit (.int .i64 92)),.d (p.lit (.int .i64 0)),.d (p.lit (.int .i64 0))]) (p.lenD a2 fun x4=>p.bin .gtr false x4 (p.lit (.int .i64 120)) fun x5=>p.cond x5 (p.out 0 [.d a4,.d (p.lit (.int .i64 92)),.d (p.lit (.int .i64 0)),.d (p.lit (.int .i64 0))]) (p.lenD a2 fun x6=>p.bnd (p.call 68 [a3,(p.lit (.int .i64 0)),x6]) [fun y7=>p.un .not (p.ld y7 0) fun x8=>p.cond x8 (p.out 0 [.d a4,.d (p.lit (.int .i64 92)),.d (p.lit (.int .i64 0)),.d (p.lit (.int .i64 0))]) (p.bnd (p.call 63 [a1]) [fun y9=>p.lenD a2 fun x10=>p.mkN 32 x10 x10 fun n11=>p.rowsD 4 a2 fun r12=>p.eqN n11 (p.len (p.repl n11 [(p.lit (.int .i64 0)),(p.lit (.int .i64 0)),(p.lit (.int .i64 0)),(p.lit (.int .i64 0))])) (p.eqN n11 (p.len (p.repl n11 [(p.lit (.int .i64 0)),(p.lit (.int .i64 0)),(p.lit (.int .i64 0)),(p.lit (.int .i64 0))])) (p.lenD (p.ld y9 0) fun x13=>p.bnd (p.loop [(L43_0 p)] 0 [.d (p.ld y9 0),.d x13,.d (p.lit (.int .i64 0)),.m p.emp,.d a0,.d (p.ld y9 0),.n n11,.n n11,.d a3,.d (p.lit (.int .i64 0)),.d (p.lit (.int .i64 0)),.r (p.app (p.seg r12 none n11) (p.seg (p.repl n11 [(p.lit (.int .i64 0)),(p.lit (.int .i64 0)),(p.lit (.int .i64 0)),(p.lit (.int .i64 0))]) (some (p.len r12)) n11)),.d a0,.d (p.ld y9 0),.n n11,.n n11,.d a3]) [fun y14=>p.eqN n11 (p.len (p.lr y14 8)) (p.eqN n11 (p.len (p.lr y14 8)) (p.bnd (p.call 1000095 [p.ld y14 1,p.ld y14 2,(p.natD (p.ln y14 3)),(p.natD (p.ln y14 4)),p.ld y14 5,(p.slD 4 (p.lr y14 8)),(p.mpD true (p.lm y14 0))]) [fun y15=>p.rowsD 4 (p.ld y15 6) fun r16=>p.asM true (p.ld y15 7) fun q17=>p.un .not (p.ld y15 0) fun x18=>p.cond x18 (p.out 0 [.d a4,.d (p.lit (.int .i64 92)),.d (p.ld y14 6),.d (p.ld y14 7)]) (p.out 1 [.d a4,.d (p.lit (.int .i64 0)),.m q17,.r r16,.d (p.ld y15 1),.d (p.ld y15 2),.n (p.dN (p.ld y15 3)),.n (p.dN (p.ld y15 4)),.d (p.ld y15 5),.d (p.ld y14 6),.d (p.ld y14 7)])]))]))])]))])])
end
theorem l43 (n:Nat) (o:Option (List Brd)) (hl:(o.getD []).length≤4611686018427387904) (hr:Rise (o.getD [])) (c0:D) (c1:D) (c2:Nat) (c3:Nat) (c4:D) (c5:D) (c6:D) (c7:Rr) (c8:D) (c9:D) (c10:Nat) (c11:Nat) (c12:D) :
  loopR [L43_0 (RP n)] M0 0 [.d (dB o),.d (il (o.getD []).length),.d (il 0),.m ([],[]),.d c0,.d c1,.n c2,.n c3,.d c4,.d c5,.d c6,.r c7,.d c8,.d c9,.n c10,.n c11,.d c12] =
   some (0,[.m (mapM (o.getD []) (new (o.getD []))),.d c0,.d c1,.n c2,.n c3,.d c4,.d c5,.d c6,.r c7,.d c8,.d c9,.n c10,.n c11,.d c12]):=by
 have:=range_loop (β:=Unit) (o.getD []) hl (L43_0 (RP n)) (fun i _=>[.d (dB o),.d (il (o.getD []).length),.d (il i),.m (mapM ((o.getD []).take i) (new ((o.getD []).take i))),.d c0,.d c1,.n c2,.n c3,.d c4,.d c5,.d c6,.r c7,.d c8,.d c9,.n c10,.n c11,.d c12]) (fun _ _=>True)
  (fun _ _ _=>some (0,[.m (mapM (o.getD []) (new (o.getD []))),.d c0,.d c1,.n c2,.n c3,.d c4,.d c5,.d c6,.r c7,.d c8,.d c9,.n c10,.n c11,.d c12])) ?_ ?_ M0 () trivial (M0_big hl)
 ·exact this
 ·intro _ k _
  simp [L43_0,List.take_length]
 ·intro i e r _ k hi hd hlt hw _ ih
  have hlt':(i:Int) < ((o.getD []).length:Int):=by omega
  have ih':=ih () trivial
  rw [cast1,take_snoc hi,new_snoc] at ih'
  have hadd:=fun k=>r_addK (Fn:=FN n) (FnD:=FnDof Tryd.prog (cf3 tb Tryd.prog) (FN n)) (m:=M0) (new_len ((o.getD []).take i)) (bix_new hr hi) fd0 k
  have hlen:((o.getD []).take i).length=i:=by simp;omega
  simp only [row20_0,hlen] at hadd
  simp only [L43_0,mapM,r_ld0,r_lds,r_lm0,r_lms,r_ln0,r_lns,r_lr0,r_lrs,r_lss,hlt',decide_true,r_cond,if_true,rowB hi,cB0,r_natN,r_eqN,r_mset,r_app,r_mrows,r_rows,r_liti,r_litb,r_len,List.length_map,new_len,hlen,hadd,r_add,hw]
  exact ih'
theorem op2 (n:Nat) (me h:Int) (b:Option (List Brd)) (o:Option (List Stk)) (a:D) (hl:(o.getD []).length≤4611686018427387904) (hb:(b.getD []).length≤4611686018427387904) :
  opn2 (RP (n+4)) (il me) (dB b) (dS o) (il h) a=if okP me (b.getD []) (o.getD []) h=true then some (1,[.d a,.d (il 0),.m (mapM (b.getD []) (pg me (b.getD []) (o.getD []))),.r ((o.getD []).map rS),.d (il me),.d (dB b),.n (o.getD []).length,.n (o.getD []).length,.d (il h),.d (il 0),.d (il 0)]) else some (0,[.d a,.d (il 92),.d (il 0),.d (il 0)]):=by
 simp only [opn2,r_call,s61,s62 _ _ _ hb,s68,lenL,r_bnd0,r_ld0,r_not,r_cond,r_out,r_liti,r_gtr,okP]
 by_cases h1:par me=true
 ·by_cases h2:bords me (b.getD [])=true
  ·have h2':=h2
   simp only [bords,Bool.and_eq_true,decide_eq_true_eq] at h2'
   by_cases h3:(o.getD []).length≤120
   ·have h3':¬ ((120:Int) < (o.getD []).length):=by omega
    by_cases h4:inn h 0 (o.getD []).length=true
    ·have hmk:0≤((o.getD []).length:Int)∧((32:Nat):Int)*((o.getD []).length:Int)≤140737488355328∧((o.getD []).length:Int)≤9223372036854775807:=by omega
     simp only [h1,h2,h3,h3',h4,Bool.not_true,Bool.false_eq_true,if_false,if_true,decide_true,decide_false,Bool.true_and,s63 _ _ h2'.2,r_bnd0,r_ld0,r_mkNg,hmk,and_self,Int.toNat_natCast,rowsL,r_repl,r_len,List.length_replicate,r_eqN,lenL,r_emp,r_app,r_seg0,r_seg1,r_loop,List.length_map]
     have hseg:=seg_copy ((o.getD []).map rS) [il 0,il 0,il 0,il 0]
     rw [List.length_map] at hseg
     rw [hseg,l43 _ _ hb (okL_rise h2'.1)]
     simp only [r_bnd0,r_ld0,r_lds,r_lm0,r_ln0,r_lns,r_lr0,r_lrs,List.length_map,if_true,r_natD,r_slD,r_mpD,mapM]
     rw [s1000095 _ _ hb (bords_six h2) _ (by omega) _ _ _ _ _ (new_len _)]
     have hr4:∀ k:Rr→Out,(RP (n+4)).rowsD 4 (.sl 4 ((o.getD []).map rS)) k=k ((o.getD []).map rS):=fun _=>rfl
     simp only [r_bnd0,r_ld0,r_lds,r_rowsD,r_not,r_cond,r_dN]
     have ha:∀ (a:List Value) (b:Rr) (k:Mr→Out),(RP (n+4)).asM true (.mp true a b) k=k (a,b):=fun _ _ _=>rfl
     rw [ha]
     simp only [pg]
     rw [show (b.getD []).map (fun _=>fd0)=new (b.getD []) from rfl]
     cases (pread me (b.getD []) (new (b.getD [])) (o.getD [])).2<;>rfl
    ·simp [h1,h2,h3,h3',h4]
   ·have h3':((120:Int) < (o.getD []).length):=by omega
    simp [h1,h2,h3,h3']
  ·simp [h1,h2]
 ·simp [h1]
theorem l43_1 (n:Nat) (o:Option (List Brd)) (hl:(o.getD []).length≤4611686018427387904) (hr:Rise (o.getD [])) (c0 c1 c2 c3 c4 c5 c6 c7 c8 c9:D) (q:Mr) :
  loopR [L43_1 (RP n)] M0 0 [.d (dB o),.d (il (o.getD []).length),.d (il 0),.m ([],[]),.d c0,.d c1,.d c2,.d c3,.d c4,.d c5,.d c6,.d c7,.d c8,.d c9,.m q] =
   some (0,[.m (mapM (o.getD []) (new (o.getD []))),.d c0,.d c1,.d c2,.d c3,.d c4,.d c5,.d c6,.d c7,.d c8,.d c9,.m q]):=by
 have:=range_loop (β:=Unit) (o.getD []) hl (L43_1 (RP n)) (fun i _=>[.d (dB o),.d (il (o.getD []).length),.d (il i),.m (mapM ((o.getD []).take i) (new ((o.getD []).take i))),.d c0,.d c1,.d c2,.d c3,.d c4,.d c5,.d c6,.d c7,.d c8,.d c9,.m q]) (fun _ _=>True)
  (fun _ _ _=>some (0,[.m (mapM (o.getD []) (new (o.getD []))),.d c0,.d c1,.d c2,.d c3,.d c4,.d c5,.d c6,.d c7,.d c8,.d c9,.m q])) ?_ ?_ M0 () trivial (M0_big hl)
 ·exact this
 ·intro _ k _
  simp [L43_1,List.take_length]
 ·intro i e r _ k hi hd hlt hw _ ih
  have hlt':(i:Int) < ((o.getD []).length:Int):=by omega
  have ih':=ih () trivial
  rw [cast1,take_snoc hi,new_snoc] at ih'
  have hadd:=fun k=>r_addK (Fn:=FN n) (FnD:=FnDof Tryd.prog (cf3 tb Tryd.prog) (FN n)) (m:=M0) (new_len ((o.getD []).take i)) (bix_new hr hi) fd0 k
  have hlen:((o.getD []).take i).length=i:=by simp;omega
  simp only [row20_0,hlen] at hadd
  simp only [L43_1,mapM,r_ld0,r_lds,r_lm0,r_lms,r_lss,hlt',decide_true,r_cond,if_true,rowB hi,cB0,r_natN,r_eqN,r_mset,r_app,r_mrows,r_rows,r_liti,r_litb,r_len,List.length_map,new_len,hlen,hadd,r_add,hw]
  exact ih'
def tldOf (me:Int) (ss:List Stk) (to:Int) (c:Brd):Option Tld:=if hasP c.2 to=true then some (c.1,(fread me c fd0 ss).1.no to.toNat,(fread me c fd0 ss).1.wants) else none
def toldL (me:Int) (bs:List Brd) (ss:List Stk) (to:Int):List Tld:=bs.filterMap (tldOf me ss to)
def dTn (l:List Tld):D:=match l with
 | []=>nilS
 | a::t=>.sl 3 ((a::t).map rT)
def noTell (e:Int):Out:=some (0,[.d (il 0),.d (il 0),.d nilS,.d (il e)])
def tellR (me:Int) (bs:List Brd) (ss:List Stk) (h to:Int):Out :=
 if okP me bs ss h=true then (if !par to||decide (to=me) then noTell 1 else some (0,[.d (il me),.d (il to),.d (dTn (toldL me bs (ss.take h.toNat) to)),.d (il 0)])) else noTell 92
theorem fm_range {α β:Type} (f:α→Option β):∀ l:List α,(List.range l.length).filterMap (fun i=>(l[i]?).bind f)=l.filterMap f
 | []=>rfl
 | a::t=>by
  rw [List.length_cons,List.range_succ_eq_map,List.filterMap_cons,List.filterMap_cons,List.filterMap_map]
  have:=fm_range f t
  simp only [List.getElem?_cons_zero,Option.bind_some,Function.comp_def,List.getElem?_cons_succ,Nat.succ_eq_add_one,this]
theorem fm_map {α β γ:Type} (f:α→Option β) (g:β→γ) (l:List α):l.filterMap (fun x=>(f x).map g)=(l.filterMap f).map g:=by
 rw [List.map_filterMap]
theorem pread_take {me:Int} {bs:List Brd}:∀ (l:List Stk) (fs:List Fld) (n:Nat),(pread me bs fs l).2=true→(pread me bs fs (l.take n)).2=true
 | [],fs,n,h=>by simpa using h
 | s::r,fs,0,_=>rfl
 | s::r,fs,n+1,h=>by
  rw [List.take_succ_cons]
  unfold pread at h ⊢
  by_cases h1:okS s=true
  ·rw [if_pos h1] at h ⊢
   cases hx:bix s.2.1 bs with
   | none=>simp [hx] at h
   | some i =>
    simp only [hx] at h ⊢
    cases hs:fstep me (bs.getD i (0,0)).2 (fs.getD i fd0) s with
    | none=>rw [hs] at h;cases h
    | some f =>
     simp only [hs] at h ⊢
     exact pread_take r _ n h
  ·rw [if_neg h1] at h;cases h
theorem pg_take {me:Int} {bs:List Brd} {ss:List Stk} {h:Int} (ho:okP me bs ss h=true) (n:Nat) {j:Nat} {e:Brd} (he:bs[j]?=some e):(pg me bs (ss.take n))[j]?=some (fread me e fd0 (ss.take n)).1:=by
 have hj:j < bs.length:=by
  rcases Nat.lt_or_ge j bs.length with h' | h'
  ·exact h'
  ·rw [List.getElem?_eq_none h'] at he;cases he
 have hr:=okP_rise ho
 have ho':=ho
 simp only [okP,Bool.and_eq_true] at ho'
 have:=(pread_at (me:=me) hr (ss.take n) (new bs) (new_len bs)).2.1 (pread_take ss _ n ho'.2.2.2.2)
 have h1:=this.2 j hj
 rw [new_get,getD_at _ he] at h1
 have h2:j < (pg me bs (ss.take n)).length:=by rw [pg_len hr];exact hj
 rw [List.getElem?_eq_getElem h2,h1]
 simp [pg,List.getD_eq_getElem?_getD,List.getElem?_eq_getElem (show j < (pread me bs (new bs) (ss.take n)).1.length from h2)]
theorem bix_e {bs:List Brd} (hr:Rise bs) {i:Nat} {e:Brd} (he:bs[i]?=some e):bix e.1 bs=some i:=by
 have hi:i < bs.length:=by
  rcases Nat.lt_or_ge i bs.length with h | h
  ·exact h
  ·rw [List.getElem?_eq_none h] at he;cases he
 rw [List.getElem?_eq_getElem hi] at he
 simp only [Option.some.injEq] at he
 rw [←he]
 exact bix_at hr hi
def rowTl (me:Int) (bs:List Brd) (ss:List Stk) (to:Int) (i:Nat):Option (List D):=(bs[i]?).bind fun c=>(tldOf me ss to c).map rT
theorem rowTl_all (me:Int) (bs:List Brd) (ss:List Stk) (to:Int):(List.range bs.length).filterMap (rowTl me bs ss to)=(toldL me bs ss to).map rT:=by
 exact (fm_range (fun c=>(tldOf me ss to c).map rT) bs).trans (fm_map _ _ _)
theorem rowTl_at {me:Int} {bs:List Brd} {ss:List Stk} {to:Int} {i:Nat} {e:Brd} (he:bs[i]?=some e):rowTl me bs ss to i=if hasP e.2 to=true then some [il e.1,il ((fread me e fd0 ss).1.no to.toNat),il (fread me e fd0 ss).1.wants] else none:=by
 unfold rowTl tldOf
 rw [he]
 simp only [Option.bind_some]
 split<;>rfl
theorem l43_2 (n:Nat) (b:Option (List Brd)) (hb:(b.getD []).length≤120) {me h:Int} {ss:List Stk} (ho:okP me (b.getD []) ss h=true) (m:Nat) {to:Int} (hp:par to=true) (c0 c1 c2 c3 c4 c5 c6 c7:D) :
  loopR [L43_2 (RP (n+3)),L43_3 (RP (n+3))] M0 0 [.d (il to),.d (dB b),.d (il (b.getD []).length),.d (il 0),.m (mapM (b.getD []) (pg me (b.getD []) (ss.take m))),.d c0,.d c1,.d c2,.d c3,.d c4,.d c5,.d c6,.d c7] =
   accO (some (0,[.d c0,.d c1,.d c6,.d c7])) (fun acc=>some (1,[.r acc,.d c0,.d c1,.n acc.length,.n acc.length,.d c6,.d c7])) ((toldL me (b.getD []) (ss.take m) to).map rT):=by
 have hr:=okP_rise ho
 have hlt:=par_lt hp
 have ho':=ho
 simp only [okP,Bool.and_eq_true] at ho'
 have:=acc_loop (b.getD []).length (by omega) (rowTl me (b.getD []) (ss.take m) to) (L43_2 (RP (n+3))) (L43_3 (RP (n+3)))
  (fun i=>[.d (il to),.d (dB b),.d (il (b.getD []).length),.d (il i),.m (mapM (b.getD []) (pg me (b.getD []) (ss.take m))),.d c0,.d c1,.d c2,.d c3,.d c4,.d c5,.d c6,.d c7])
  (fun i acc=>[.d (il to),.d (dB b),.d (il (b.getD []).length),.d (il i),.m (mapM (b.getD []) (pg me (b.getD []) (ss.take m))),.r acc,.d c0,.d c1,.n acc.length,.n acc.length,.d c2,.d c3,.d c4,.d c5,.d c6,.d c7])
  (some (0,[.d c0,.d c1,.d c6,.d c7])) (fun acc=>some (1,[.r acc,.d c0,.d c1,.n acc.length,.n acc.length,.d c6,.d c7])) ?_ ?_ ?_ ?_
 ·rw [rowTl_all] at this
  exact this
 ·intro k;simp [L43_2]
 ·intro k a t _;simp [L43_3]
 ·intro i k hi hw
  obtain ⟨e,he⟩:∃ e,(b.getD [])[i]?=some e:=⟨_,List.getElem?_eq_getElem hi⟩
  have h6:=bords_six ho'.2.1 e (List.mem_of_getElem? he)
  have hx:=bix_e hr he
  have hf:=pg_take ho m he
  have hle:3*to.toNat+1≤20:=by omega
  have hl9:¬ (19 < 3*to.toNat):=by omega
  have hlt':(i:Int) < ((b.getD []).length:Int):=by omega
  rw [rowTl_at he]
  simp only [L43_2,r_ld0,r_lds,r_lm0,r_lms,r_liti,r_lss,hlt',decide_true,r_cond,if_true,rowB he,cB0,cB1,r_call,r_bnd0,r_natN,r_inx6 hp,r_addN,r_mulN,r_leN,r_mrowsM,r_findM,hx,r_row20 hf,Nat.reduceAdd,Nat.reduceLeDiff,r_cellN,Nat.zero_add,Nat.add_zero,get_no _ hlt,get_wants,r_rows,r_len,List.length_cons,List.length_nil,r_eqN,r_seg0,List.take,r_isNil1,r_fitsg,and_self,r_add,hw,cast1,s91 _ _ h6,fit0 24 (by decide)]
  by_cases h2:hasP e.2 to=true<;>simp [h2,hl9]
 ·intro i k a t hi ha hw
  obtain ⟨e,he⟩:∃ e,(b.getD [])[i]?=some e:=⟨_,List.getElem?_eq_getElem hi⟩
  have h6:=bords_six ho'.2.1 e (List.mem_of_getElem? he)
  have hx:=bix_e hr he
  have hf:=pg_take ho m he
  have hle:3*to.toNat+1≤20:=by omega
  have hl9:¬ (19 < 3*to.toNat):=by omega
  have hlt':(i:Int) < ((b.getD []).length:Int):=by omega
  simp only [List.length_cons] at ha
  have hfit:=fit1 (n:=t.length) 24 (by decide) (by omega)
  rw [rowTl_at he]
  simp only [L43_3,r_ld0,r_lds,r_lm0,r_lms,r_ln0,r_lns,r_lr0,r_lrs,r_liti,r_lss,hlt',decide_true,r_cond,if_true,rowB he,cB0,cB1,r_call,r_bnd0,r_natN,r_inx6 hp,r_addN,r_mulN,r_leN,r_mrowsM,r_findM,hx,r_row20 hf,Nat.reduceAdd,Nat.reduceLeDiff,r_cellN,Nat.zero_add,Nat.add_zero,get_no _ hlt,get_wants,r_rows,r_len,List.length_cons,List.length_nil,r_eqN,r_seg0,List.take,r_fitsg,and_self,r_add,hw,cast1,s91 _ _ h6,hfit,r_app]
  by_cases h2:hasP e.2 to=true<;>simp [h2,hl9]
theorem s43 (n:Nat) (me h to:Int) (b:Option (List Brd)) (o:Option (List Stk)) (hl:(o.getD []).length≤4611686018427387904) (hb:(b.getD []).length≤4611686018427387904) :
  FN (n+6) 43 [il me,dB b,dS o,il h,il to]=tellR me (b.getD []) (o.getD []) h to:=by
 rw [F43]
 have hop:opn2 (RP (n+5)) (il me) (dB b) (dS o) (il h) (il to)=_:=op2 (n+1) me h b o (il to) hl hb
 unfold G43
 refine bnd_eq hop ?_
 unfold tellR
 by_cases h1:okP me (b.getD []) (o.getD []) h=true
 ·have ho:=h1
  simp only [okP,Bool.and_eq_true,decide_eq_true_eq] at h1
  simp only [ho,if_true,r_bnd0,r_bnd1,r_ld0,r_lds,r_lm0,r_lms,r_ln0,r_lns,r_lr0,r_lrs,r_liti,r_neq,r_eql,ne_eq,not_true,decide_false,r_cond,Bool.false_eq_true,if_false,if_true,r_out,r_call,s61,r_not]
  by_cases h2:par to=true
  ·by_cases h3:to=me
   ·simp [h3,noTell];rfl
   ·have hh:0≤h∧h≤(((o.getD []).map rS).length:Nat):=by
     have:=h1.2.2.2.1
     simp only [inn,Bool.and_eq_true,decide_eq_true_eq] at this
     rw [List.length_map]
     exact this
    have hb4:(b.getD []).length≤120:=by
     have:=h1.2.1
     simp only [bords,Bool.and_eq_true,decide_eq_true_eq] at this
     omega
    have hsl:((o.getD []).map rS).take (o.getD []).length=(o.getD []).map rS:=List.take_of_length_le (by simp)
    have h96:=s1600095 (n+1) b hb (bords_six h1.2.1) ((o.getD []).take h.toNat) (by simp;omega) me (D.sl 4 ((o.getD []).map rS)) (il h) (new (b.getD [])) (new_len _)
    have h43:=l43_2 (n+2) b hb4 ho h.toNat h2
    simp only [h2,h3,decide_false,Bool.not_true,Bool.false_eq_true,Bool.or_false,if_false,if_true,r_bnd0,r_bnd1,r_ld0,r_lds,r_lm0,r_lms,decide_false,Bool.false_eq_true,if_false,if_true,r_len,List.length_map,r_eqN,r_seg0,r_slD,hsl,lenL,r_emp,r_loop,l43_1 _ _ hb (okP_rise ho),r_mpD,r_cutD_hi _ _ _ _ hh,← List.map_take,mapM]
    rw [h96]
    simp only [r_bnd0,r_ld0,r_lds]
    have ha:∀ (a:List Value) (b:Rr) (k:Mr→Out),(RP (n+5)).asM true (.mp true a b) k=k (a,b):=fun _ _ _=>rfl
    rw [ha]
    simp only [mapM,pg] at h43
    rw [h43]
    cases toldL me (b.getD []) ((o.getD []).take h.toNat) to with
    | nil=>rfl
    | cons a t =>
     simp [accO,dTn]
     exact List.take_of_length_le (by simp)
  ·simp [h2,noTell];rfl
 ·simp [h1,noTell];rfl
end Go.VE
namespace Go.VE
open Go.RowKit Go.Proofs
set_option maxRecDepth 100000
def rowSt (ss:List Stk) (i:Nat):Option (List D):=(ss[i]?).bind fun s=>some (rS s)
theorem rowSt_all (ss:List Stk):(List.range ss.length).filterMap (rowSt ss)=ss.map rS :=
 (fm_range (fun s=>some (rS s)) ss).trans (by rw [List.filterMap_eq_map'])
theorem l44_0 (n:Nat) (o:Option (List Stk)) {h:Int} (h0:0≤h) (hh:h.toNat≤(o.getD []).length) (hl:(o.getD []).length≤120) (c0 c1 c2 c6 c7 c8 c9:D) :
  loopR [L44_0 (RP n),L44_1 (RP n)] M0 0 [.d c0,.d c1,.d c2,.d (dS o),.d (il h),.d (il 0),.d c6,.d c7,.d c8,.d c9] =
   accO (some (0,[.d c0,.d c1,.d c2,.d (dS o),.d (il h),.d c6,.d c7,.d c8,.d c9])) (fun acc=>some (1,[.d c0,.d c1,.d c2,.d (dS o),.d (il h),.n acc.length,.n acc.length,.r acc,.d c6,.d c7,.d c8,.d c9])) (((o.getD []).take h.toNat).map rS):=by
 have hlen:((o.getD []).take h.toNat).length=h.toNat:=by simp;omega
 have:=acc_loop h.toNat (by omega) (rowSt ((o.getD []).take h.toNat)) (L44_0 (RP n)) (L44_1 (RP n))
  (fun i=>[.d c0,.d c1,.d c2,.d (dS o),.d (il h),.d (il i),.d c6,.d c7,.d c8,.d c9])
  (fun i acc=>[.d c0,.d c1,.d c2,.d (dS o),.d (il h),.n acc.length,.n acc.length,.d (il i),.r acc,.d c6,.d c7,.d c8,.d c9])
  (some (0,[.d c0,.d c1,.d c2,.d (dS o),.d (il h),.d c6,.d c7,.d c8,.d c9])) (fun acc=>some (1,[.d c0,.d c1,.d c2,.d (dS o),.d (il h),.n acc.length,.n acc.length,.r acc,.d c6,.d c7,.d c8,.d c9])) ?_ ?_ ?_ ?_
 ·have e:=rowSt_all ((o.getD []).take h.toNat)
  rw [hlen] at e
  rw [e] at this
  exact this
 ·intro k
  have:¬ ((h.toNat:Int) < h):=by omega
  simp only [L44_0,r_ld0,r_lds,r_lss,this,decide_false,r_cond,Bool.false_eq_true,if_false,r_out]
 ·intro k a t _
  have:¬ ((h.toNat:Int) < h):=by omega
  simp only [L44_1,r_ld0,r_lds,r_ln0,r_lns,r_lr0,r_lrs,r_lss,this,decide_false,r_cond,Bool.false_eq_true,if_false,r_out]
 ·intro i k hi hw
  obtain ⟨s,hs⟩:∃ s,(o.getD [])[i]?=some s:=⟨_,List.getElem?_eq_getElem (by omega)⟩
  have hs':((o.getD []).take h.toNat)[i]?=some s:=by rw [List.getElem?_take,if_pos hi];exact hs
  have hlt:(i:Int) < h:=by omega
  have er:rowSt ((o.getD []).take h.toNat) i=some (rS s):=by unfold rowSt;rw [hs'];rfl
  rw [er]
  simp only [L44_0,r_ld0,r_lds,r_lss,hlt,decide_true,r_cond,if_true,rowS hs,cS0,cS1,cS2,cS3,r_rows,r_len,List.length_cons,List.length_nil,r_natN,r_eqN,r_seg0,List.take,r_isNil1,r_fitsg,fit0 32 (by decide),and_self,r_liti,r_add,hw,cast1]
  rfl
 ·intro i k a t hi ha hw
  obtain ⟨s,hs⟩:∃ s,(o.getD [])[i]?=some s:=⟨_,List.getElem?_eq_getElem (by omega)⟩
  have hs':((o.getD []).take h.toNat)[i]?=some s:=by rw [List.getElem?_take,if_pos hi];exact hs
  have hlt:(i:Int) < h:=by omega
  have er:rowSt ((o.getD []).take h.toNat) i=some (rS s):=by unfold rowSt;rw [hs'];rfl
  rw [er]
  simp only [List.length_cons] at ha
  have hfit:=fit1 (n:=t.length) 32 (by decide) (by omega)
  simp only [L44_1,r_ld0,r_lds,r_ln0,r_lns,r_lr0,r_lrs,r_lss,hlt,decide_true,r_cond,if_true,rowS hs,cS0,cS1,cS2,cS3,r_rows,r_len,List.length_cons,List.length_nil,r_natN,r_addN,r_eqN,r_seg0,List.take,r_fitsg,hfit,and_self,r_liti,r_add,hw,cast1,r_app]
  simp [rS]
theorem l44_2 (n:Nat) (b:Option (List Brd)) (hb:(b.getD []).length≤120) (h66:∀ e∈b.getD [],six e.2) {me to:Int} (hm:par me=true) (hp:par to=true) (c3 c4 c6 c7 c8 c9:D) :
  loopR [L44_2 (RP (n+6)),L44_3 (RP (n+6))] M0 0 [.d (il to),.d (il me),.d (dB b),.d c3,.d c4,.d (il 0),.d c6,.d c7,.d c8,.d c9]=accO (some (0,[.d c6,.d c7,.d c8,.d c9])) (fun acc=>some (1,[.r acc,.d c6,.d c7,.n acc.length,.n acc.length,.d c8,.d c9])) ((toldL me (b.getD []) ([]:List Stk) to).map rT):=by
 have hlt:=par_lt hp
 have hltm:=par_lt hm
 have:=acc_loop (b.getD []).length (by omega) (rowTl me (b.getD []) ([]:List Stk) to) (L44_2 (RP (n+6))) (L44_3 (RP (n+6))) (fun i=>[.d (il to),.d (il me),.d (dB b),.d c3,.d c4,.d (il i),.d c6,.d c7,.d c8,.d c9]) (fun i acc=>[.d (il to),.d (il me),.d (dB b),.d c3,.d c4,.d (il i),.r acc,.d c6,.d c7,.n acc.length,.n acc.length,.d c8,.d c9]) (some (0,[.d c6,.d c7,.d c8,.d c9])) (fun acc=>some (1,[.r acc,.d c6,.d c7,.n acc.length,.n acc.length,.d c8,.d c9])) ?_ ?_ ?_ ?_
 ·rw [rowTl_all] at this
  exact this
 ·intro k;simp [L44_2,lenL]
 ·intro k a t _;simp [L44_3,lenL]
 ·intro i k hi hw
  obtain ⟨e,he⟩:∃ e,(b.getD [])[i]?=some e:=⟨_,List.getElem?_eq_getElem hi⟩
  have h6:=h66 e (List.mem_of_getElem? he)
  have hlt':(i:Int) < ((b.getD []).length:Int):=by omega
  have h75:=s75 n e h6 hm none (by simp) (by simp)
  simp only [r21,List.cons_append,List.nil_append,List.map_cons,List.map_nil] at h75
  simp only [dS_none,nilS,Option.getD_none] at h75
  rw [rowTl_at he]
  simp only [L44_2,r_ld0,r_lds,r_liti,r_lss,hlt',decide_true,r_cond,if_true,lenL,rowB he,cB0,cB1,r_call,r_bnd0,r_not,r_natN,r_inx6 hp,r_inx6 hm,r_addN,r_le6 hlt,r_le6 hltm,r_selN,Nat.zero_add,r_rows,r_len,List.length_cons,List.length_nil,r_eqN,r_seg0,List.take,r_isNil1,r_fitsg,and_self,r_add,hw,cast1,s71 _ _ h6,r_litNil,fit0 24 (by decide)]
  by_cases h2:hasP e.2 to=true
  ·simp only [h2,Bool.not_true,Bool.false_eq_true,if_false,if_true,h75,r_ld0,r_lds,if_true,r_bnd0,sel6 _ hlt,sel6 _ hltm,wan_me hm]
  ·simp [h2]
 ·intro i k a t hi ha hw
  obtain ⟨e,he⟩:∃ e,(b.getD [])[i]?=some e:=⟨_,List.getElem?_eq_getElem hi⟩
  have h6:=h66 e (List.mem_of_getElem? he)
  have hlt':(i:Int) < ((b.getD []).length:Int):=by omega
  have h75:=s75 n e h6 hm none (by simp) (by simp)
  simp only [r21,List.cons_append,List.nil_append,List.map_cons,List.map_nil] at h75
  simp only [dS_none,nilS,Option.getD_none] at h75
  rw [rowTl_at he]
  simp only [List.length_cons] at ha
  have hfit:=fit1 (n:=t.length) 24 (by decide) (by omega)
  simp only [L44_3,r_ld0,r_lds,r_ln0,r_lns,r_lr0,r_lrs,r_liti,r_lss,hlt',decide_true,r_cond,if_true,lenL,rowB he,cB0,cB1,r_call,r_bnd0,r_not,r_natN,r_inx6 hp,r_inx6 hm,r_addN,r_le6 hlt,r_le6 hltm,r_selN,Nat.zero_add,r_rows,r_len,List.length_cons,List.length_nil,r_eqN,r_seg0,List.take,r_fitsg,and_self,r_add,hw,cast1,s71 _ _ h6,r_litNil,hfit,r_app]
  by_cases h2:hasP e.2 to=true
  ·simp only [h2,Bool.not_true,Bool.false_eq_true,if_false,if_true,h75,r_ld0,r_lds,if_true,r_bnd0,sel6 _ hlt,sel6 _ hltm,wan_me hm,Nat.zero_add,List.length_cons,List.length_nil,List.length_append]
  ·simp [h2]
theorem l44_4 (n:Nat) (b:Option (List Brd)) (hb:(b.getD []).length≤120) (h66:∀ e∈b.getD [],six e.2) {me to:Int} (hm:par me=true) (hp:par to=true) (ss:List Stk) (_:ss≠[]) (hok:∀ s∈ss,okS s=true) (hl:ss.length≤120) (c3 c4 c6 c7 c8 c9:D) :
  loopR [L44_4 (RP (n+6)),L44_5 (RP (n+6))] M0 0 [.d (il to),.d (il me),.d (dB b),.d c3,.d c4,.n ss.length,.n ss.length,.d (il 0),.r (ss.map rS),.d c6,.d c7,.d c8,.d c9]=accO (some (0,[.d c6,.d c7,.d c8,.d c9])) (fun acc=>some (1,[.r acc,.d c6,.d c7,.n acc.length,.n acc.length,.d c8,.d c9])) ((toldL me (b.getD []) ss to).map rT):=by
 have hlt:=par_lt hp
 have hltm:=par_lt hm
 have:=acc_loop (b.getD []).length (by omega) (rowTl me (b.getD []) ss to) (L44_4 (RP (n+6))) (L44_5 (RP (n+6))) (fun i=>[.d (il to),.d (il me),.d (dB b),.d c3,.d c4,.n ss.length,.n ss.length,.d (il i),.r (ss.map rS),.d c6,.d c7,.d c8,.d c9]) (fun i acc=>[.d (il to),.d (il me),.d (dB b),.d c3,.d c4,.n ss.length,.n ss.length,.d (il i),.r acc,.r (ss.map rS),.d c6,.d c7,.n acc.length,.n acc.length,.d c8,.d c9]) (some (0,[.d c6,.d c7,.d c8,.d c9])) (fun acc=>some (1,[.r acc,.d c6,.d c7,.n acc.length,.n acc.length,.d c8,.d c9])) ?_ ?_ ?_ ?_
 ·rw [rowTl_all] at this
  exact this
 ·intro k;simp [L44_4,lenL]
 ·intro k a t _;simp [L44_5,lenL]
 ·intro i k hi hw
  obtain ⟨e,he⟩:∃ e,(b.getD [])[i]?=some e:=⟨_,List.getElem?_eq_getElem hi⟩
  have h6:=h66 e (List.mem_of_getElem? he)
  have hlt':(i:Int) < ((b.getD []).length:Int):=by omega
  have h75:=s75 n e h6 hm (some ss) (by simp only [Option.getD_some];omega) hok
  simp only [r21,List.cons_append,List.nil_append,List.map_cons,List.map_nil] at h75
  have hd:dS (some ss)=.sl 4 (ss.map rS):=rfl
  have htk:(ss.map rS).take ss.length=ss.map rS:=List.take_of_length_le (by simp)
  simp only [hd,Option.getD_some] at h75
  rw [rowTl_at he]
  simp only [L44_4,r_ld0,r_lds,r_ln0,r_lns,r_lr0,r_lrs,r_liti,r_lss,hlt',decide_true,r_cond,if_true,lenL,rowB he,cB0,cB1,r_call,r_bnd0,r_not,r_natN,r_inx6 hp,r_inx6 hm,r_addN,r_le6 hlt,r_le6 hltm,r_selN,Nat.zero_add,r_rows,r_len,List.length_cons,List.length_nil,r_eqN,r_seg0,List.take,r_isNil1,r_fitsg,and_self,r_add,hw,cast1,s71 _ _ h6,r_slD,r_litsg,List.all_cons,List.all_nil,Bool.and_true,List.length_map,htk,fit0 24 (by decide)]
  by_cases h2:hasP e.2 to=true
  ·simp only [h2,Bool.not_true,Bool.false_eq_true,if_false,if_true,h75,r_ld0,r_lds,if_true,r_bnd0,sel6 _ hlt,sel6 _ hltm,wan_me hm,yl_i,yl_b,Bool.and_self]
  ·simp [h2]
 ·intro i k a t hi ha hw
  obtain ⟨e,he⟩:∃ e,(b.getD [])[i]?=some e:=⟨_,List.getElem?_eq_getElem hi⟩
  have h6:=h66 e (List.mem_of_getElem? he)
  have hlt':(i:Int) < ((b.getD []).length:Int):=by omega
  have h75:=s75 n e h6 hm (some ss) (by simp only [Option.getD_some];omega) hok
  simp only [r21,List.cons_append,List.nil_append,List.map_cons,List.map_nil] at h75
  have hd:dS (some ss)=.sl 4 (ss.map rS):=rfl
  have htk:(ss.map rS).take ss.length=ss.map rS:=List.take_of_length_le (by simp)
  simp only [hd,Option.getD_some] at h75
  rw [rowTl_at he]
  simp only [List.length_cons] at ha
  have hfit:=fit1 (n:=t.length) 24 (by decide) (by omega)
  simp only [L44_5,r_ld0,r_lds,r_ln0,r_lns,r_lr0,r_lrs,r_liti,r_lss,hlt',decide_true,r_cond,if_true,lenL,rowB he,cB0,cB1,r_call,r_bnd0,r_not,r_natN,r_inx6 hp,r_inx6 hm,r_addN,r_le6 hlt,r_le6 hltm,r_selN,Nat.zero_add,r_rows,r_len,List.length_cons,List.length_nil,r_eqN,r_seg0,List.take,r_fitsg,and_self,r_add,hw,cast1,s71 _ _ h6,r_slD,r_litsg,List.all_cons,List.all_nil,Bool.and_true,List.length_map,htk,hfit,r_app]
  by_cases h2:hasP e.2 to=true
  ·simp only [h2,Bool.not_true,Bool.false_eq_true,if_false,if_true,h75,r_ld0,r_lds,if_true,r_bnd0,sel6 _ hlt,sel6 _ hltm,wan_me hm,Nat.zero_add,List.length_cons,List.length_nil,yl_i,yl_b,Bool.and_self,List.length_append]
  ·simp [h2]
theorem s44 (n:Nat) (me h to:Int) (b:Option (List Brd)) (o:Option (List Stk)) (hl:(o.getD []).length≤4611686018427387904) (hb:(b.getD []).length≤4611686018427387904) :
  FN (n+9) 44 [il me,dB b,dS o,il h,il to]=tellR me (b.getD []) (o.getD []) h to:=by
 rw [F44]
 unfold tellR
 simp only [G44,r_call,s15 _ _ _ _ _ hl hb,← okP_W,s64,r_bnd0,r_ld0,r_liti,r_neq,ite_ne _ 92 (by omega),r_cond,r_out,r_not,r_eql]
 by_cases h1:okP me (b.getD []) (o.getD []) h=true
 ·have hW:=h1
  rw [okP_W] at hW
  obtain ⟨w1,w2,w3⟩:=okW_strokes hW
  have h1':=h1
  simp only [okP,Bool.and_eq_true,decide_eq_true_eq] at h1'
  by_cases h2:par to=true
  ·by_cases h3:to=me
   ·simp [h1,h3,noTell];rfl
   ·have hh:=h1'.2.2.2.1
    simp only [inn,Bool.and_eq_true,decide_eq_true_eq] at hh
    have hb4:(b.getD []).length≤120:=by
     have:=h1'.2.1
     simp only [bords,Bool.and_eq_true,decide_eq_true_eq] at this
     omega
    simp only [h1,h2,h3,decide_false,Bool.not_true,Bool.false_eq_true,Bool.or_false,if_false,if_true,r_loop]
    rw [l44_0 _ o (by omega) (by omega) (by omega)]
    cases ht:(o.getD []).take h.toNat with
    | nil =>
     simp only [List.map_nil,accO,r_bnd0,r_ld0,r_lds]
     have h44:=l44_2 (n+2) b hb4 (bords_six w2) w1 h2 (dS o) (il h) (il me) (il to) (il 0) (il 0)
     rw [h44]
     cases toldL me (b.getD []) [] to with
     | nil=>rfl
     | cons a t =>
      simp [accO,dTn]
      exact List.take_of_length_le (by simp)
    | cons c r =>
     have hlc:(c::r).length≤120:=by rw [←ht,List.length_take];omega
     have hok:∀ s∈c::r,okS s=true:=fun s hs=>w3 s (List.mem_of_mem_take (by rw [ht];exact hs))
     have h44:=l44_4 (n+2) b hb4 (bords_six w2) w1 h2 (c::r) (by simp) hok hlc (dS o) (il h) (il me) (il to) (il 0) (il 0)
     simp only [List.map_cons,List.length_cons] at h44
     simp only [List.map_cons,accO,List.length_cons,List.length_map,r_bnd1,r_ld0,r_lds,r_ln0,r_lns,r_lr0,r_lrs]
     rw [h44]
     cases toldL me (b.getD []) (c::r) to with
     | nil=>rfl
     | cons a t =>
      simp [accO,dTn]
      exact List.take_of_length_le (by simp)
  ·simp [h1,h2,noTell];rfl
 ·simp [h1,noTell];rfl
end Go.VE
namespace Go.VE
open Go.RowKit Go.Proofs
set_option maxRecDepth 100000
def newZ (me:Int) (l:List Brd):Int:=if par me=true then (if bords me l=true then 0 else 90) else 1
def rW (z me:Int) (o:Option (List Brd)):Out:=if z=0 then some (0,[.d (il me),.d (dB o),.d (dS none),.d (il 0),.d (il z)]) else some (0,[.d (il 0),.d (dB none),.d (dS none),.d (il 0),.d (il z)])
theorem t9 (n:Nat) (me:Int) (o:Option (List Brd)) (hl:(o.getD []).length≤4611686018427387904):FN (n+5) 9 [il me,dB o]=rW (newZ me (o.getD [])) me o:=by
 rw [s9 _ _ _ hl];unfold rW newZ
 by_cases h1:par me=true
 ·by_cases h2:bords me (o.getD [])=true
  ·simp only [h1,h2,if_true];rfl
  ·simp only [h1,h2,if_true];rfl
 ·simp only [h1];rfl
abbrev BB:Nat:=4611686018427387904
end Go.VE
namespace Go.VE
open Go.RowKit Go.Proofs
set_option maxRecDepth 100000
theorem dN_L (l:List Nat):∃ o:Option (List Nat),o.getD []=l∧dN l=dL 1 rN o:=by
 cases l with
 | nil=>exact ⟨none,rfl,rfl⟩
 | cons a t=>exact ⟨some (a::t),rfl,rfl⟩
theorem dTn_L (l:List Tld):∃ o:Option (List Tld),o.getD []=l∧dTn l=dT o:=by
 cases l with
 | nil=>exact ⟨none,rfl,rfl⟩
 | cons a t=>exact ⟨some (a::t),rfl,rfl⟩
theorem s45 (n:Nat) (l:List Nat) (hl:l.length≤4611686018427387904):FN (n+1) 45 [dN l,dN l]=some (0,[.d (bl true)]):=by
 obtain ⟨o,rfl,e⟩:=dN_L l
 rw [e,F45]
 simp only [G45,lenL,r_neq,ne_eq,not_true,decide_false,r_cond,Bool.false_eq_true,if_false,r_litb,r_out,r_loop,r_liti]
 have:=range_loop (β:=Unit) (o.getD []) hl (L45_0 (RP n)) (fun i _=>[.d (dL 1 rN o),.d (dL 1 rN o),.d (il i)]) (fun _ _=>True)
  (fun _ _ _=>some (1,[])) (fun _ k _=>by simp [L45_0,lenL]) ?_ M0 () trivial (M0_big hl)
 ·simp only [Int.natCast_zero] at this
  rw [this];rfl
 ·intro i e r _ k hi hd hlt hw _ ih
  have ih':=ih () trivial
  rw [cast1] at ih'
  have hlt':(i:Int) < ((o.getD []).length:Int):=by omega
  have hc:(RP n).cell (rN e) 0=il e:=rfl
  simp only [L45_0,lenL,r_ld0,r_lds,r_lss,r_cond,hlt',decide_true,if_true,rowL hi (show (rN e).length=1 from rfl),hc,r_neq,ne_eq,not_true,decide_false,Bool.false_eq_true,if_false,r_liti,r_add,hw]
  exact ih'
theorem s46 (n:Nat) (a c:Int) (l:List Tld) (hl:l.length≤4611686018427387904):FN (n+1) 46 [il a,il c,dTn l,il a,il c,dTn l]=some (0,[.d (bl true)]):=by
 obtain ⟨o,rfl,e⟩:=dTn_L l
 rw [e,F46]
 simp only [G46,dT,lenL,r_neq,ne_eq,not_true,decide_false,r_cond,Bool.false_eq_true,if_false,r_litb,r_out,r_loop,r_liti]
 have:=range_loop (β:=Unit) (o.getD []) hl (L46_0 (RP n)) (fun i _=>[.d (il a),.d (il c),.d (dT o),.d (il a),.d (il c),.d (dT o),.d (il i)]) (fun _ _=>True)
  (fun _ _ _=>some (1,[])) (fun _ k _=>by simp [L46_0,dT,lenL]) ?_ M0 () trivial (M0_big hl)
 ·simp only [Int.natCast_zero,dT] at this
  rw [this];rfl
 ·intro i e r _ k hi hd hlt hw _ ih
  have ih':=ih () trivial
  rw [cast1] at ih'
  have hlt':(i:Int) < ((o.getD []).length:Int):=by omega
  have hln:∀ k:D→Out,(RP n).lenD (dT o) k=k (il (o.getD []).length):=fun k=>lenL _ _ _ k
  simp only [L46_0,hln,r_ld0,r_lds,r_lss,r_cond,hlt',decide_true,if_true,rowT hi,cT0,cT1,cT2,r_eqs3,and_self,decide_true,Bool.not_true,if_true,Bool.false_eq_true,if_false,r_liti,r_add,hw]
  exact ih'
theorem shI {me:Int} {bs:List Brd} {ss:List Stk} {h fld other:Int} {g:Nat→Int}:∃ z e,ofR me bs ss h fld badI (withR me bs other badI fun j=>some (0,[.d (il (g j)),.d (il 0)]))=some (0,[.d (il z),.d (il e)]):=by
 unfold ofR withR
 split
 ·split
  ·exact ⟨_,_,rfl⟩
  ·split<;>exact ⟨_,_,rfl⟩
 ·exact ⟨_,_,rfl⟩
theorem shB {me:Int} {bs:List Brd} {ss:List Stk} {h fld other:Int} {g:Nat→Bool}:∃ z e,ofR me bs ss h fld badB (withR me bs other badB fun j=>some (0,[.d (bl (g j)),.d (il 0)]))=some (0,[.d (bl z),.d (il e)]):=by
 unfold ofR withR
 split
 ·split
  ·exact ⟨_,_,rfl⟩
  ·split<;>exact ⟨_,_,rfl⟩
 ·exact ⟨_,_,rfl⟩
theorem shC {me:Int} {bs:List Brd} {ss:List Stk} {h fld:Int} {g:Nat→Bool}:∃ z e,ofR me bs ss h fld badB (fun j=>some (0,[.d (bl (g j)),.d (il 0)]))=some (0,[.d (bl z),.d (il e)]):=by
 unfold ofR
 split
 ·split<;>exact ⟨_,_,rfl⟩
 ·exact ⟨_,_,rfl⟩
theorem shN {me:Int} {bs:List Brd} {ss:List Stk} {h fld:Int} {g:Nat→List Nat} (hg:∀ j,(g j).length≤BB):∃ z e,z.length≤BB∧ofR me bs ss h fld badN (fun j=>some (0,[.d (dN (g j)),.d (il 0)]))=some (0,[.d (dN z),.d (il e)]):=by
 unfold ofR
 split
 ·split
  ·exact ⟨[],_,by simp,rfl⟩
  ·exact ⟨_,_,hg _,rfl⟩
 ·exact ⟨[],_,by simp,rfl⟩
theorem shT {me:Int} {bs:List Brd} {ss:List Stk} {h to:Int} (hb:bs.length≤BB):∃ a c z e,z.length≤BB∧tellR me bs ss h to=some (0,[.d (il a),.d (il c),.d (dTn z),.d (il e)]):=by
 unfold tellR
 split
 ·split
  ·exact ⟨_,_,[],_,by simp,rfl⟩
  ·exact ⟨_,_,_,_,Nat.le_trans (List.length_filterMap_le _ _) hb,rfl⟩
 ·exact ⟨_,_,[],_,by simp,rfl⟩
theorem lawTells {Fn:Nat→List D→Out} {FnD:D→List Sh→List D→Out} (h18:Fn 18 []=some (0,[.d (bl true)])) {me h fld to:Int} {b:Option (List Brd)} {s:Option (List Stk)} {z1 a c e1 e2 e3 e4 e5 e6 e7 e8:Int} {z2 z3 z4 z5:Bool} {z6 z7:List Nat} {z8:List Tld}
  (h29:Fn 29 [il me,dB b,dS s,il h,il fld,il to]=some (0,[.d (il z1),.d (il e1)])) (h30:Fn 30 [il me,dB b,dS s,il h,il fld,il to]=some (0,[.d (il z1),.d (il e1)])) (h31:Fn 31 [il me,dB b,dS s,il h,il fld,il to]=some (0,[.d (bl z2),.d (il e2)])) (h32:Fn 32 [il me,dB b,dS s,il h,il fld,il to]=some (0,[.d (bl z2),.d (il e2)])) (h33:Fn 33 [il me,dB b,dS s,il h,il fld,il to]=some (0,[.d (bl z3),.d (il e3)])) (h34:Fn 34 [il me,dB b,dS s,il h,il fld,il to]=some (0,[.d (bl z3),.d (il e3)])) (h35:Fn 35 [il me,dB b,dS s,il h,il fld]=some (0,[.d (bl z4),.d (il e4)])) (h36:Fn 36 [il me,dB b,dS s,il h,il fld]=some (0,[.d (bl z4),.d (il e4)])) (h37:Fn 37 [il me,dB b,dS s,il h,il fld]=some (0,[.d (bl z5),.d (il e5)])) (h38:Fn 38 [il me,dB b,dS s,il h,il fld]=some (0,[.d (bl z5),.d (il e5)])) (h39:Fn 39 [il me,dB b,dS s,il h,il fld]=some (0,[.d (dN z6),.d (il e6)])) (h40:Fn 40 [il me,dB b,dS s,il h,il fld]=some (0,[.d (dN z6),.d (il e6)])) (h41:Fn 41 [il me,dB b,dS s,il h,il fld]=some (0,[.d (dN z7),.d (il e7)])) (h42:Fn 42 [il me,dB b,dS s,il h,il fld]=some (0,[.d (dN z7),.d (il e7)])) (h43:Fn 43 [il me,dB b,dS s,il h,il to]=some (0,[.d (il a),.d (il c),.d (dTn z8),.d (il e8)])) (h44:Fn 44 [il me,dB b,dS s,il h,il to]=some (0,[.d (il a),.d (il c),.d (dTn z8),.d (il e8)]))
  (h45:∀ l:List Nat,l.length≤BB→Fn 45 [dN l,dN l]=some (0,[.d (bl true)])) (h46:Fn 46 [il a,il c,dTn z8,il a,il c,dTn z8]=some (0,[.d (bl true)])) (l6:z6.length≤BB) (l7:z7.length≤BB) :
  G5 (real Fn FnD M0) (il me) (dB b) (dS s) (il h) (il fld) (il to)=some (0,[.d (bl true)]):=by
 simp only [G5,r_call,h29,h30,h31,h32,h33,h34,h35,h36,h37,h38,h39,h40,h41,h42,h43,h44,h45 _ l6,h45 _ l7,h46,h18,r_bnd0,r_ld0,r_lds,r_neq,r_neqB,r_eql,ne_eq,not_true,decide_false,decide_true,bne_self_eq_false,r_cond,Bool.false_eq_true,if_false,if_true,r_out]
theorem bellTells_sc (vds:List VD) (h:VTs Tryd.prog 8 [25,3,3] vds):SC Tryd.prog 5 vds (.one (.d (bl true))):=by
 obtain ⟨_,_,rfl,h1,h⟩:=VTs_cons h
 obtain ⟨_,_,rfl,h2,h⟩:=VTs_cons h
 obtain ⟨_,_,rfl,h3,h⟩:=VTs_cons h
 cases VTs_nil h
 obtain ⟨_,rfl,k1⟩:=h1.agg_ Tryd.underlying25
 obtain ⟨_,rfl,k2⟩:=h2.int_ Tryd.underlying3
 obtain ⟨fld,e2,_⟩:=o3 k2
 cases e2
 obtain ⟨_,rfl,k3⟩:=h3.int_ Tryd.underlying3
 obtain ⟨to,e3,_⟩:=o3 k3
 cases e3
 obtain ⟨me,b,s,x,rfl,hb,hs⟩:=o25 k1
 refine lawSC (T:=tb) (fuel:=400) (m0:=M0) (xs:=[il me,dB b,dS s,il x,il fld,il to]) mixP (FnS_ok 20) (FnS_okM 20) spOK (by decide) (sh:=[.agg 4,.one,.one]) rfl rfl rfl ?_
 rw [G5_eq]
 have hb':(b.getD []).length≤BB:=by simp only [BB];omega
 have hs':(s.getD []).length≤BB:=by simp only [BB];omega
 obtain ⟨z1,e1,q1⟩:=shI (me:=me) (bs:=b.getD []) (ss:=s.getD []) (h:=x) (fld:=fld) (other:=to) (g:=fun j=>(fl me (b.getD []) (s.getD []) j).no to.toNat)
 obtain ⟨z2,e2,q2⟩:=shB (me:=me) (bs:=b.getD []) (ss:=s.getD []) (h:=x) (fld:=fld) (other:=to) (g:=fun j=>isWith me to ((fl me (b.getD []) (s.getD []) j).no to.toNat))
 obtain ⟨z3,e3,q3⟩:=shB (me:=me) (bs:=b.getD []) (ss:=s.getD []) (h:=x) (fld:=fld) (other:=to) (g:=fun j=>cleanF me to (fl me (b.getD []) (s.getD []) j))
 obtain ⟨z4,e4,q4⟩:=shC (me:=me) (bs:=b.getD []) (ss:=s.getD []) (h:=x) (fld:=fld) (g:=fun j=>(fl me (b.getD []) (s.getD []) j).opn)
 obtain ⟨z5,e5,q5⟩:=shC (me:=me) (bs:=b.getD []) (ss:=s.getD []) (h:=x) (fld:=fld) (g:=fun j=>odd (fl me (b.getD []) (s.getD []) j).wants)
 obtain ⟨z6,e6,l6,q6⟩:=shN (me:=me) (bs:=b.getD []) (ss:=s.getD []) (h:=x) (fld:=fld) (g:=fun j=>askR me (fl me (b.getD []) (s.getD []) j)) (fun j=>Nat.le_trans (List.length_filter_le _ _) (by simp [BB]))
 obtain ⟨z7,e7,l7,q7⟩:=shN (me:=me) (bs:=b.getD []) (ss:=s.getD []) (h:=x) (fld:=fld) (g:=fun j=>missL me ((b.getD []).getD j (0,0)).2 (fl me (b.getD []) (s.getD []) j)) (fun j=>Nat.le_trans (List.length_filter_le _ _) (Nat.le_trans (List.length_filter_le _ _) (by simp [BB])))
 obtain ⟨a,c,z8,e8,l8,q8⟩:=shT (me:=me) (bs:=b.getD []) (ss:=s.getD []) (h:=x) (to:=to) hb'
 exact lawTells (FnS_18 20)
  (FnS_ne ((s29 14 me x b s fld to hs' hb').trans q1) (by decide)) (FnS_ne ((s30 10 me x b s fld to hs' hb').trans q1) (by decide))
  (FnS_ne ((s31 14 me x b s fld to hs' hb').trans q2) (by decide)) (FnS_ne ((s32 10 me x b s fld to hs' hb').trans q2) (by decide))
  (FnS_ne ((s33 14 me x b s fld to hs' hb').trans q3) (by decide)) (FnS_ne ((s34 10 me x b s fld to hs' hb').trans q3) (by decide))
  (FnS_ne ((s35 14 me x b s fld hs' hb').trans q4) (by decide)) (FnS_ne ((s36 11 me x b s fld hs' hb').trans q4) (by decide))
  (FnS_ne ((s37 14 me x b s fld hs' hb').trans q5) (by decide)) (FnS_ne ((s38 11 me x b s fld hs' hb').trans q5) (by decide))
  (FnS_ne ((s39 14 me x b s fld hs' hb').trans q6) (by decide)) (FnS_ne ((s40 11 me x b s fld hs' hb').trans q6) (by decide))
  (FnS_ne ((s41 14 me x b s fld hs' hb').trans q7) (by decide)) (FnS_ne ((s42 11 me x b s fld hs' hb').trans q7) (by decide))
  (FnS_ne ((s43 14 me x to b s hs' hb').trans q8) (by decide)) (FnS_ne ((s44 11 me x to b s hs' hb').trans q8) (by decide))
  (fun l hl=>FnS_ne (s45 19 l hl) (by decide)) (FnS_ne (s46 19 a c z8 l8) (by decide)) l6 l7
end Go.VE
namespace Go.Proofs.YtaagapoglhndjaaDoor
open Go.VE Go.RowKit Go.ChangeShapes Go.WideShapes
set_option maxRecDepth 100000
theorem own:ownKnob Tryd.prog.godebug=none:=by kernel_rfl
theorem laidOut:laidOutB Tryd.prog=true:=by kernel_rfl
abbrev laid3:List (String×DataW Unit):=[("math/bits.deBruijn32tab",Rows.laid_math_bits_deBruijn32tab),("math/bits.deBruijn64tab",Rows.laid_math_bits_deBruijn64tab),("internal/strconv.uint64pow10",Rows.laid_internal_strconv_uint64pow10)]
theorem door_met (os:Os) (args:Array Value):laidMetH Tryd.prog laid3 ((World.doorLaid Tryd.prog 400 os).forCall (fun _ _=>0) ⟨#[],args,[]⟩).memory :=
 laidMetH_of_parts3 (fuel:=8) (laidMet_of_run' 8 (by kernel_rfl) (by kernel_rfl)) (by kernel_rfl) (by kernel_rfl)
theorem bellTells_lifted (hsc:∀ vds,VTs Tryd.prog 8 Tryd.f5.params.toList vds→SC Tryd.prog 5 vds (.one (.d (bl true)))) (os:Os) (started:os.Started) (H:Type) (enc:TypeId×Value→H) :
  ReturnsInHanded {} Tryd.checked os 5 .any (fun w args=>(Rows.bellTellsSpec.pre enc Tryd.prog Tryd.f5 [] false w args∧laidMetH Tryd.prog laid3 w)∧sizedMet enc Tryd.prog Tryd.f5 (OpenSpec.ofChange Rows.bellTellsSpec) false w args) (Rows.bellTellsSpec.post enc Tryd.prog Tryd.f5 false true false false) :=
 lawInX (C:=Tryd.checked) (n:=8) (tb:=4) (X:=fun w _=>laidMetH Tryd.prog laid3 w) (fun _ _ _ hh h=>h.of_heap hh) own started (by kernel_rfl) Tryd.func5
  (ChangeSpec.witness_shaped (enc:=enc) (C:=Tryd.checked) (os:=os) (X:=fun w _=>laidMetH Tryd.prog laid3 w) false (World.doorLaid Tryd.prog 400 os) #[.agg #[.int .i64 0,.slice none 0 0,.slice none 0 0,.int .i64 0],.int .i64 0,.int .i64 0] 8 rfl (World.shaped_of_RefB (by kernel_rfl) (by kernel_rfl)) (by kernel_rfl) (by kernel_rfl) (by kernel_rfl) (door_met os _))
  laidOut (by kernel_rfl) (by kernel_rfl) Tryd.underlying4 rfl
  (fun ds hd=>by
   rw [show Tryd.f5.params.toList=[25,3,3] by kernel_rfl] at hd
   match ds,hd with
   | [a,b,c],_=>rfl)
  hsc
theorem bellTells_row (hsc:∀ vds,VTs Tryd.prog 8 Tryd.f5.params.toList vds→SC Tryd.prog 5 vds (.one (.d (bl true)))):Rows.BellTellsSaid :=
 OpenClaim.holds_of_wide 5 Tryd.f5 rfl rfl rfl rfl rfl rfl rfl ⟨rfl,rfl,rfl,rfl,rfl⟩ rfl rfl rfl rfl rfl (by kernel_rfl) Tryd.func5 (by kernel_rfl)
  (of_decide_eq_true (by kernel_rfl)) (by unfold Func.isWrapper;first | (rw [if_pos (by decide +kernel)];kernel_rfl) | (rw [if_neg (by decide +kernel)];exact ⟨rfl,rfl⟩))
  (fun os started H enc _=>bellTells_lifted hsc os started H enc)
theorem bellTells_card (hsc:∀ vds,VTs Tryd.prog 8 Tryd.f5.params.toList vds→SC Tryd.prog 5 vds (.one (.d (bl true)))):Rows.BellTellsCardSaid :=
 Claim7.holds_tied_plain_at .later [] [.data,.data,.data] true (true, "c63727e6b2ca268bab9231e264516db7b1e83e0cab08a551e4a85ab0b113b8db") false
  (bellTells_row hsc) (fun _ h=>by cases h) (by kernel_rfl) (fun _ h=>by cases h) bellTells_row_tie rfl ⟨rfl,rfl⟩ (by kernel_rfl) rfl
  (fun f fn hf hfn=>by
   obtain rfl:f=5:=Option.some.inj ((show Tryd.prog.funcNamed "leazing/leazinglaw09.BellTells" = some 5 by kernel_rfl).symm.trans hf) |>.symm
   obtain rfl:fn=Tryd.f5:=(Option.some.inj (Tryd.func5.symm.trans hfn)).symm
   exact ⟨by kernel_rfl,fun j t ht=>by
    rw [Tryd.params5] at ht
    have hm:t∈[25,3,3]:=by simpa using Array.mem_of_getElem? ht
    have hall:([25,3,3].all fun u=>!Tryd.prog.wantsStandIn u)=true:=by kernel_rfl
    exact (show Tryd.prog.wantsStandIn t=false by simpa using List.all_eq_true.1 hall t hm)⟩)
  (by kernel_rfl)
theorem bellTells_holds:Rows.BellTellsCardSaid:=bellTells_card fun vds h=>bellTells_sc vds (by
 have e:Tryd.f5.params.toList=[25,3,3]:=by kernel_rfl
 rw [e] at h;exact h)
#print axioms bellTells_holds
end Go.Proofs.YtaagapoglhndjaaDoor
