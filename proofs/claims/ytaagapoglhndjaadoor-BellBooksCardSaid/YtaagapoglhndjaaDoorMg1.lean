/- Bell: the reference's reading of a book; its Check. -/
import Derived.Test.YtaagapoglhndjaaDoorMg0
namespace Go.VE
open Go.RowKit Go.Proofs
def outR (b:Brd) (me:Int) (q:Fld×Bool):Out:=if q.2=true then some (1,(r21 b me q.1++z21).map .d) else some (0,(bl false::r21 b me q.1).map .d)
theorem l75 (n:Nat) (b:Brd) (hb:six b.2) {me:Int} (hm:par me=true) (o:Option (List Stk)) (hl:(o.getD []).length≤4611686018427387904) (hok:∀ s∈o.getD [],okS s=true) (f:Fld) :
  loopR [L75_0 (RP (n+5))] M0 0 (.d (il me)::.d (dS o)::.d (il b.1)::.d (il b.2)::.d (il 0)::(r21 b me f++z21).map .d)=outR b me (fread me b f (o.getD [])):=by
 have:=range_loop (β:=Fld) (o.getD []) hl (L75_0 (RP (n+5))) (fun i f=>.d (il me)::.d (dS o)::.d (il b.1)::.d (il b.2)::.d (il i)::(r21 b me f++z21).map .d) (fun _ _=>True)
  (fun i r f=>outR b me (fread me b f r)) ?_ ?_ M0 f trivial (M0_big hl)
 ·exact this
 ·intro f k _
  simp [L75_0,fread,outR,r21,z21,lenL]
 ·intro i e r f k hi hd hlt hw _ ih
  have hlt':(i:Int) < ((o.getD []).length:Int):=by omega
  have h104:=s104 n b hb hm f (hok e (List.mem_of_getElem? hi))
  have ih1:=ih f trivial
  rw [cast1] at ih1
  rw [fread]
  by_cases h1:e.2.1=b.1
  ·rw [if_pos h1]
   unfold stepR at h104
   cases hf:fstep me b.2 f e with
   | none =>
    rw [hf] at h104
    simp only [r21,z21,List.cons_append,List.nil_append,List.map_cons,List.map_nil] at h104 ⊢
    simp only [L75_0,r_ld0,r_lds,lenL,r_lss,r_cond,hlt',decide_true,if_true,rowS hi,cS0,cS1,cS2,cS3,r_neq,h1,ne_eq,not_true,decide_false,Bool.false_eq_true,if_false,r_call]
    rw [h1] at h104
    rw [h104]
    simp only [r_bnd0,r_ld0,r_lds,r_not,r_cond,Bool.not_false,if_true,r_out,r_litb,outR,Bool.false_eq_true,if_false,r21,List.map_cons,List.map_nil]
   | some g =>
    rw [hf] at h104
    have ih2:=ih g trivial
    rw [cast1] at ih2
    simp only
    simp only [r21,z21,List.cons_append,List.nil_append,List.map_cons,List.map_nil] at h104 ih2 ⊢
    simp only [L75_0,r_ld0,r_lds,lenL,r_lss,r_cond,hlt',decide_true,if_true,rowS hi,cS0,cS1,cS2,cS3,r_neq,h1,ne_eq,not_true,decide_false,Bool.false_eq_true,if_false,r_call]
    rw [h1] at h104
    rw [h104]
    simp only [r_bnd0,r_ld0,r_lds,r_not,r_cond,Bool.not_true,Bool.false_eq_true,if_false,r_liti,r_add,hw]
    exact ih2
  ·rw [if_neg h1]
   simp only [r21,z21,List.cons_append,List.nil_append,List.map_cons,List.map_nil] at ih1 ⊢
   simp only [L75_0,r_ld0,r_lds,lenL,r_lss,r_cond,hlt',decide_true,if_true,rowS hi,cS1,r_neq,h1,ne_eq,not_false_eq_true,r_liti,r_add,hw]
   exact ih1
theorem s75 (n:Nat) (b:Brd) (hb:six b.2) {me:Int} (hm:par me=true) (o:Option (List Stk)) (hl:(o.getD []).length≤4611686018427387904) (hok:∀ s∈o.getD [],okS s=true) :
  FN (n+6) 75 [il me,il b.1,il b.2,dS o]=some (0,(r21 b me (fread me b fd0 (o.getD [])).1++[bl (fread me b fd0 (o.getD [])).2]).map .d):=by
 have h:=l75 n b hb hm o hl hok fd0
 rw [r21_0] at h
 rw [F75]
 simp only [z21,List.drop_succ_cons,List.drop_zero,List.cons_append,List.nil_append,List.map_cons,List.map_nil] at h
 simp only [G75,r_loop,r_liti,r_litb,h,outR]
 cases hq:(fread me b fd0 (o.getD [])).2<;>simp [r21]
def okSt (bs:List Brd) (s:Stk):Bool:=okS s&&(bix s.2.1 bs).isSome
def okW (me:Int) (bs:List Brd) (ss:List Stk) (h:Int):Bool :=
 par me&&(bords me bs&&(decide (ss.length≤120)&&(inn h 0 ss.length&&(ss.all (okSt bs)&&bs.all fun b=>(fread me b fd0 ss).2))))
theorem l15_0 (n:Nat) (me h:D) (b:Option (List Brd)) (o:Option (List Stk)) (hl:(o.getD []).length≤4611686018427387904) (hb:(b.getD []).length≤4611686018427387904) :
  loopR [L15_0 (RP (n+3))] M0 0 [.d me,.d (dB b),.d (dS o),.d h,.d (il 0)]=if (o.getD []).all (okSt (b.getD []))=true then some (1,[.d me,.d (dB b),.d (dS o),.d h]) else some (0,[.d (il 92)]):=by
 have:=range_loop (β:=Unit) (o.getD []) hl (L15_0 (RP (n+3))) (fun i _=>[.d me,.d (dB b),.d (dS o),.d h,.d (il i)]) (fun _ _=>True)
  (fun i r _=>if r.all (okSt (b.getD []))=true then some (1,[.d me,.d (dB b),.d (dS o),.d h]) else some (0,[.d (il 92)])) ?_ ?_ M0 () trivial (M0_big hl)
 ·exact this
 ·intro _ k _
  simp [L15_0,lenL]
 ·intro i e r _ k hi hd hlt hw _ ih
  have hlt':(i:Int) < ((o.getD []).length:Int):=by omega
  have ih1:=ih () trivial
  rw [cast1] at ih1
  simp only [L15_0,r_ld0,r_lds,lenL,r_lss,r_cond,hlt',decide_true,if_true,rowS hi,cS0,cS1,cS2,cS3,r_call,s73,r_bnd0,r_not,r_out,r_liti,s74 _ _ hb,r_add,hw,List.all_cons,okSt]
  by_cases h1:okS e=true
  ·simp only [h1,Bool.not_true,Bool.false_eq_true,if_false,Bool.true_and,decide_eq_true_eq,ixI_neg]
   cases h2:bix e.2.1 (b.getD []) with
   | none=>simp
   | some j =>
    rw [if_neg (by simp)]
    exact ih1
  ·simp [h1]
theorem l15_1 (n:Nat) {me:Int} (hm:par me=true) (h:D) (b:Option (List Brd)) (o:Option (List Stk)) (hl:(o.getD []).length≤4611686018427387904) (hb:(b.getD []).length≤4611686018427387904) (hok:∀ s∈o.getD [],okS s=true) (h6:∀ c∈b.getD [],six c.2) :
  loopR [L15_1 (RP (n+6))] M0 0 [.d (il me),.d (dB b),.d (dS o),.d h,.d (il 0)]=if ((b.getD []).all fun c=>(fread me c fd0 (o.getD [])).2)=true then some (1,[]) else some (0,[.d (il 92)]):=by
 have:=range_loop (β:=Unit) (b.getD []) hb (L15_1 (RP (n+6))) (fun i _=>[.d (il me),.d (dB b),.d (dS o),.d h,.d (il i)]) (fun _ _=>True)
  (fun i r _=>if (r.all fun c=>(fread me c fd0 (o.getD [])).2)=true then some (1,[]) else some (0,[.d (il 92)])) ?_ ?_ M0 () trivial (M0_big hb)
 ·exact this
 ·intro _ k _
  simp [L15_1,lenL]
 ·intro i e r _ k hi hd hlt hw _ ih
  have hlt':(i:Int) < ((b.getD []).length:Int):=by omega
  have ih1:=ih () trivial
  rw [cast1] at ih1
  simp only [L15_1,r_ld0,r_lds,lenL,r_lss,r_cond,hlt',decide_true,if_true,rowB hi,cB0,cB1,r_call,s75 _ _ (h6 e (List.mem_of_getElem? hi)) hm _ hl hok,r_bnd0,r_out,r_liti,r_add,hw,List.all_cons,r21,List.cons_append,List.nil_append,List.map_cons,List.map_nil,r_not]
  by_cases h2:(fread me e fd0 (o.getD [])).2=true
  ·simp only [h2,Bool.not_true,Bool.false_eq_true,if_false,Bool.true_and]
   exact ih1
  ·simp [h2]
theorem bords_six {me:Int} {bs:List Brd} (h:bords me bs=true):∀ c∈bs,six c.2:=by
 intro c hc
 simp only [bords,Bool.and_eq_true] at h
 have:=(okL_mem h.1 c hc).1
 simp only [okBm,Bool.and_eq_true] at this
 exact okB_six this.1
theorem all_okS {bs:List Brd} {ss:List Stk} (h:ss.all (okSt bs)=true):∀ s∈ss,okS s=true:=fun s hs=>by
 have:=List.all_eq_true.1 h s hs
 simp only [okSt,Bool.and_eq_true] at this
 exact this.1
theorem s15 (n:Nat) (me h:Int) (b:Option (List Brd)) (o:Option (List Stk)) (hl:(o.getD []).length≤4611686018427387904) (hb:(b.getD []).length≤4611686018427387904) :
  FN (n+7) 15 [il me,dB b,dS o,il h]=some (0,[.d (il (if okW me (b.getD []) (o.getD []) h=true then 0 else 92))]):=by
 rw [F15]
 simp only [G15,r_call,s64,s65 _ _ _ hb,s70,lenL,r_bnd0,r_ld0,r_not,r_cond,r_out,r_liti,r_gtr,r_loop,l15_0 _ _ _ _ _ hl hb,okW]
 by_cases h1:par me=true
 ·by_cases h2:bords me (b.getD [])=true
  ·by_cases h3:(o.getD []).length≤120
   ·have h3':¬ ((120:Int) < (o.getD []).length):=by omega
    by_cases h4:inn h 0 (o.getD []).length=true
    ·by_cases h5:(o.getD []).all (okSt (b.getD []))=true
     ·simp only [h1,h2,h3,h3',h4,h5,Bool.not_true,Bool.false_eq_true,if_false,if_true,decide_true,decide_false,Bool.true_and,r_bnd1,r_ld0,r_lds,l15_1 _ h1 _ _ _ hl hb (all_okS h5) (bords_six h2)]
      cases (b.getD []).all fun c=>(fread me c fd0 (o.getD [])).2<;>simp
     ·simp [h1,h2,h3,h3',h4,h5]
    ·simp [h1,h2,h3,h3',h4]
   ·have h3':((120:Int) < (o.getD []).length):=by omega
    simp [h1,h2,h3,h3']
  ·simp [h1,h2]
 ·simp [h1]
end Go.VE
namespace Go.VE
open Go.RowKit Go.Proofs
def row20 (f:Fld):List D:=[il (f.no 0),bl (f.af 0),il (f.ask 0),il (f.no 1),bl (f.af 1),il (f.ask 1),il (f.no 2),bl (f.af 2),il (f.ask 2),il (f.no 3),bl (f.af 3),il (f.ask 3),il (f.no 4),bl (f.af 4),il (f.ask 4),il (f.no 5),bl (f.af 5),il (f.ask 5),il f.wants,bl f.opn]
def keysB (bs:List Brd):List Value:=bs.map fun b=>.int .i64 b.1
def mapM (bs:List Brd) (fs:List Fld):Mr:=(keysB bs,fs.map row20)
theorem mFind_bix (f:Int):∀ (bs:List Brd) (i:Nat),mFind 0 (.int .i64 f) (keysB bs) i=some ((bix f bs).map (·+i))
 | [],i=>rfl
 | b::r,i=>by
  have ih:=mFind_bix f r (i+1)
  simp only [keysB,List.map_cons,mFind,kEq] at ih ⊢
  rw [bix]
  by_cases h:b.1=f
  ·simp [h]
  ·have h':(f==b.1)=false:=by simp;omega
   simp only [h',if_neg h]
   rw [ih]
   cases bix f r with
   | none=>rfl
   | some j=>simp;omega
section
variable {Fn:Nat→List D→Out} {FnD:D→List Sh→List D→Out} {m:Nat}
theorem r_mrows (q:Mr):(real Fn FnD m).mrows q=q.2:=rfl
theorem r_mset (q:Mr) (r:Rr):(real Fn FnD m).mset q r=(q.1,r):=rfl
theorem r_mulN (a b:Nat):(real Fn FnD m).mulN a b=a*b:=rfl
theorem r_cellN (w:List D) (a b:Nat):(real Fn FnD m).cellN w a b=w.getD (a+b) default:=rfl
theorem r_setRC (r:Rr) (a b:Nat) (l:List D):(real Fn FnD m).setRC r a b l=setRCD r a b l:=rfl
theorem r_find (bs:List Brd) (rows:Rr) (f:Int) (k:Nat→Out) (e:Out):(real Fn FnD m).find 0 (keysB bs,rows) (il f) k e=match bix f bs with
  | some j=>k j
  | none=>e:=by
 have:findD2 0 (keysB bs,rows) (il f)=some (bix f bs):=by
  simp only [findD2,il,litD,isKey,if_true,mFind_bix]
  cases bix f bs<;>simp
 simp only [real,this]
 cases bix f bs<;>rfl
theorem r_selK1 (a b c d:Out):(real Fn FnD m).selK 0 [.int .i64 1,.int .i64 2,.int .i64 3,.int .i64 4] (il 1) [a,b,c,d]=a:=rfl
theorem r_selK2 (a b c d:Out):(real Fn FnD m).selK 0 [.int .i64 1,.int .i64 2,.int .i64 3,.int .i64 4] (il 2) [a,b,c,d]=b:=rfl
theorem r_selK3 (a b c d:Out):(real Fn FnD m).selK 0 [.int .i64 1,.int .i64 2,.int .i64 3,.int .i64 4] (il 3) [a,b,c,d]=c:=rfl
theorem r_selK4 (a b c d:Out):(real Fn FnD m).selK 0 [.int .i64 1,.int .i64 2,.int .i64 3,.int .i64 4] (il 4) [a,b,c,d]=d:=rfl
theorem r_row20 {fs:List Fld} {j:Nat} {f:Fld} (h:fs[j]?=some f) (k:List D→Out):(real Fn FnD m).rowAt 20 (fs.map row20) j k=k (row20 f):=by
 rw [r_rowAtg,List.getElem?_map,h];rfl
theorem r_mpD (q:Mr):(real Fn FnD m).mpD true q=.mp true q.1 q.2:=rfl
theorem r_dN (n:Nat):(real Fn FnD m).dN (il n)=n:=by simp [real,dNr,il]
end
theorem get_opn (f:Fld):(row20 f).getD 19 default=bl f.opn:=rfl
theorem get_wants (f:Fld):(row20 f).getD 18 default=il f.wants:=rfl
theorem get_no (f:Fld) {i:Nat} (h:i < 6):(row20 f).getD (3*i) default=il (f.no i):=by
 match i,h with
 | 0,_=>rfl
 | 1,_=>rfl
 | 2,_=>rfl
 | 3,_=>rfl
 | 4,_=>rfl
 | 5,_=>rfl
theorem get_ask (f:Fld) {i:Nat} (h:i < 6):(row20 f).getD (3*i+2) default=il (f.ask i):=by
 match i,h with
 | 0,_=>rfl
 | 1,_=>rfl
 | 2,_=>rfl
 | 3,_=>rfl
 | 4,_=>rfl
 | 5,_=>rfl
theorem get_af (f:Fld) {i:Nat} (h:i < 6):(row20 f).getD (3*i+1) default=bl (f.af i):=by
 match i,h with
 | 0,_=>rfl
 | 1,_=>rfl
 | 2,_=>rfl
 | 3,_=>rfl
 | 4,_=>rfl
 | 5,_=>rfl
theorem set_gen {fs:List Fld} {j:Nat} {f g:Fld} (h:fs[j]?=some f) (off:Nat) (ds:List D) (hg:(row20 f).take off++ds++(row20 f).drop (off+ds.length)=row20 g):setRCD (fs.map row20) j off ds=(fs.set j g).map row20:=by
 unfold setRCD
 have:(fs.map row20).getD j []=row20 f:=by simp [List.getD_eq_getElem?_getD,h]
 rw [this,hg,List.map_set]
theorem set_opn {fs:List Fld} {j:Nat} {f:Fld} (h:fs[j]?=some f) (x:Bool):setRCD (fs.map row20) j 19 [bl x]=(fs.set j { f with opn:=x }).map row20:=set_gen h _ _ rfl
theorem set_wants {fs:List Fld} {j:Nat} {f:Fld} (h:fs[j]?=some f) (x:Int):setRCD (fs.map row20) j 18 [il x]=(fs.set j { f with wants:=x }).map row20:=set_gen h _ _ rfl
theorem set_no {fs:List Fld} {j:Nat} {f:Fld} (h:fs[j]?=some f) {i:Nat} (hi:i < 6) (x:Int):setRCD (fs.map row20) j (3*i) [il x]=(fs.set j { f with no:=upN f.no i x }).map row20:=by
 refine set_gen h _ _ ?_
 match i,hi with
 | 0,_=>rfl
 | 1,_=>rfl
 | 2,_=>rfl
 | 3,_=>rfl
 | 4,_=>rfl
 | 5,_=>rfl
theorem set_af {fs:List Fld} {j:Nat} {f:Fld} (h:fs[j]?=some f) {i:Nat} (hi:i < 6) (x:Bool):setRCD (fs.map row20) j (3*i+1) [bl x]=(fs.set j { f with af:=upN f.af i x }).map row20:=by
 refine set_gen h _ _ ?_
 match i,hi with
 | 0,_=>rfl
 | 1,_=>rfl
 | 2,_=>rfl
 | 3,_=>rfl
 | 4,_=>rfl
 | 5,_=>rfl
theorem set_ask {fs:List Fld} {j:Nat} {f:Fld} (h:fs[j]?=some f) {i:Nat} (hi:i < 6) (x:Int):setRCD (fs.map row20) j (3*i+2) [il x]=(fs.set j { f with ask:=upN f.ask i x }).map row20:=by
 refine set_gen h _ _ ?_
 match i,hi with
 | 0,_=>rfl
 | 1,_=>rfl
 | 2,_=>rfl
 | 3,_=>rfl
 | 4,_=>rfl
 | 5,_=>rfl
theorem set_at {fs:List Fld} {j:Nat} {f:Fld} (h:fs[j]?=some f) (g:Fld):(fs.set j g)[j]?=some g:=by
 have:j < fs.length:=by
  rcases Nat.lt_or_ge j fs.length with h' | h'
  ·exact h'
  ·rw [List.getElem?_eq_none h'] at h;cases h
 simp [this]
theorem l95_0 (n:Nat) (bs:List Brd) (fs:List Fld) {j:Nat} {f:Fld} (hj:fs[j]?=some f) (c1 c2 c5:D) (c3 c4:Nat) (c6:Rr) :
  loopR [L1000095_0 (RP n)] M0 0 [.n j,.n 0,.d (il 0),.d c1,.d c2,.n c3,.n c4,.d c5,.r c6,.m (mapM bs fs)]=some (0,[.d c1,.d c2,.n c3,.n c4,.d c5,.r c6,.m (mapM bs (fs.set j { f with af:=fun _=>false }))]):=by
 have:=cnt_loop (β:=Fld) 6 (by omega) (L1000095_0 (RP n)) (fun i g=>[.n j,.n 0,.d (il i),.d c1,.d c2,.n c3,.n c4,.d c5,.r c6,.m (mapM bs (fs.set j g))]) (fun _ _=>True)
  (fun i g=>some (0,[.d c1,.d c2,.n c3,.n c4,.d c5,.r c6,.m (mapM bs (fs.set j { g with af:=fun q=>if i≤q then false else g.af q }))])) ?_ ?_ f trivial
 ·have e:fs.set j f=fs:=by
   apply List.ext_getElem?
   intro i
   rw [List.getElem?_set]
   split
   ·subst_vars;split<;>simp_all
   ·rfl
  simp only [e] at this
  simpa using this
 ·intro g k _
  simp [L1000095_0,mapM,List.map_set]
  rfl
 ·intro i g k hi _ hw ih
  have ih':=ih { g with af:=upN g.af i false } trivial
  rw [cast1] at ih'
  have e:(fun q=>if i+1≤q then false else upN g.af i false q)=fun q=>if i≤q then false else g.af q:=by
   funext q
   unfold upN
   by_cases h1:i=q
   ·subst h1;simp
   ·by_cases h2:i≤q
    ·rw [if_pos (by omega),if_pos h2]
    ·rw [if_neg (by omega),if_neg h1,if_neg h2]
  simp only [e] at ih'
  rw [←ih']
  have h20:3*i+1+1≤20:=by omega
  simp only [L1000095_0,mapM,r_ld0,r_lds,r_lm0,r_lms,r_ln0,r_lns,r_lr0,r_lrs,r_liti,r_litb,r_lss,r_cond,show ((i:Int) < 6) by omega,decide_true,if_true,r_natN,r_inxg,r_addN,r_mulN,r_mrows,r_mset,r_row20 (set_at hj g),r_setRC,r_leN,Nat.zero_add,Nat.add_zero,Int.toNat_natCast,h20,set_af (set_at hj g) hi,List.set_set,r_add,hw]
  rw [if_pos (by omega)]
theorem e95_3:@L1000095_3=@L1000095_0:=rfl
theorem e95_4:@L1000095_4=@L1000095_1:=rfl
theorem e95_5:@L1000095_5=@L1000095_2:=rfl
end Go.VE
namespace Go.VE
open Go.RowKit Go.Proofs
def enM (c1 c2 c3 c4 c7:D) (c5 c6:Nat) (r:Rr) (m:Mr) (i:Nat) (acc:List Nat):Nat×List Yr:=match acc with
 | []=>(0,[.d c1,.d c2,.d (il i),.m m,.r r,.d c3,.d c4,.n c5,.n c6,.d c7])
 | a::t=>(1,[.d c1,.d c2,.d (il i),.r ((a::t).map fun (o:Nat)=>[il o]),.n (t.length+1),.n (t.length+1),.m m,.r r,.d c3,.d c4,.n c5,.n c6,.d c7])
def outM (c3 c4 c7:D) (c5 c6:Nat) (r:Rr) (m:Mr) (acc:List Nat):Out:=match acc with
 | []=>some (0,[.m m,.r r,.d c3,.d c4,.n c5,.n c6,.d c7])
 | a::t=>some (1,[.r ((a::t).map fun (o:Nat)=>[il o]),.n (t.length+1),.n (t.length+1),.m m,.r r,.d c3,.d c4,.n c5,.n c6,.d c7])
theorem enM_snoc (c1 c2 c3 c4 c7:D) (c5 c6:Nat) (r:Rr) (m:Mr) (i:Nat) (acc:List Nat) (x:Nat) :
  enM c1 c2 c3 c4 c7 c5 c6 r m i (acc++[x])=(1,[.d c1,.d c2,.d (il i),.r ((acc++[x]).map fun (o:Nat)=>[il o]),.n (acc.length+1),.n (acc.length+1),.m m,.r r,.d c3,.d c4,.n c5,.n c6,.d c7]):=by
 cases acc with
 | nil=>rfl
 | cons a t=>simp [enM]
theorem l95_m (n:Nat) {bs:List Brd} {fs:List Fld} {j:Nat} {f:Fld} {fld:Int} (hj:fs[j]?=some f) (hx:bix fld bs=some j) {P:Int} (hP:six P) (me:Int) (y:List Yr) (hy:(RP (n+3)).ld y 6=il fld) (c1 c4 c7:D) (c5 c6:Nat) (r:Rr) :
  loopR [L1000095_1 (RP (n+3)) y,L1000095_2 (RP (n+3)) y] M0 0 [.d c1,.d (il P),.d (il 0),.m (mapM bs fs),.r r,.d (il me),.d c4,.n c5,.n c6,.d c7]=outM (il me) c4 c7 c5 c6 r (mapM bs fs) (missL me P f):=by
 have:=loop_ms (σ:=Nat×List Nat) [L1000095_1 (RP (n+3)) y,L1000095_2 (RP (n+3)) y] (fun s=>enM c1 (il P) (il me) c4 c7 c5 c6 r (mapM bs fs) s.1 s.2) (fun s=>6 - s.1) (fun s=>s.1≤6∧s.2.length≤s.1)
  (fun s=>outM (il me) c4 c7 c5 c6 r (mapM bs fs) (s.2++missF me P f s.1)) ?_ M0 (0,[]) ⟨by simp,by simp⟩ (by simp only [M0];omega)
 ·exact this
 ·rintro ⟨i,acc⟩ k ⟨hi,ha⟩ ih
  simp only at hi ha
  by_cases h6:i=6
  ·subst h6
   cases acc with
   | nil=>exact ⟨_,rfl,by simp [L1000095_1,enM,outM,missF_six]⟩
   | cons a t=>exact ⟨_,rfl,by simp [L1000095_2,enM,outM,missF_six]⟩
  ·have hi':i < 6:=by omega
   have hw:=wrap_succ (show i < 7 by omega) (show 7≤4611686018427387904 by omega)
   have ih0:=ih (i+1,acc) ⟨hi',by simp only;omega⟩ (by simp only;omega)
   have ih1:=ih (i+1,acc++[i]) ⟨hi',by simp;omega⟩ (by simp only;omega)
   simp only [enM_snoc,cast1,List.append_assoc,List.cons_append,List.nil_append] at ih1
   simp only at ih0
   have h20:3*i+1≤20:=by omega
   have hlt:(i:Int) < 6:=by omega
   have hin:0≤(i:Int)∧(i:Int) < (6:Nat):=by omega
   rw [missF_succ hi']
   cases acc with
   | nil =>
    refine ⟨_,rfl,?_⟩
    simp only [enM,cast1] at ih0
    simp only [enM,L1000095_1,mapM,r_ld0,r_lds,r_lm0,r_lms,r_ln0,r_lns,r_lr0,r_lrs,r_liti,r_lss,hlt,decide_true,r_cond,if_true,r_neq,r_call,s91 _ _ hP,r_bnd0,hasP_nat hi',hy,r_find,hx,r_natN,r_inxg,r_mrows,r_row20 hj,r_addN,r_mulN,r_leN,r_cellN,Nat.zero_add,Nat.add_zero,Int.toNat_natCast,h20,get_no f hi',s86,r_not,r_rows,r_len,List.length_cons,List.length_nil,r_eqN,r_seg0,List.take,r_isNil1,r_fitsg,r_add,hw]
    rw [if_pos hin]
    by_cases h1:(i:Int)=me
    ·simp only [h1,ne_eq,not_true,decide_false,decide_true,Bool.false_eq_true,if_false,Bool.not_true,Bool.false_and]
     rw [←h1] at ih0 ⊢
     exact ih0
    ·cases h2:P.toNat.testBit i with
     | false =>
      simp only [h1,ne_eq,not_false_eq_true,decide_true,if_true,Bool.false_eq_true,if_false,Bool.and_false,Bool.false_and]
      exact ih0
     | true =>
      cases h3:isWith me i (f.no i) with
      | true =>
       simp only [h1,ne_eq,not_false_eq_true,decide_true,if_true,Bool.false_eq_true,if_false,Bool.and_false,Bool.not_true]
       exact ih0
      | false =>
       simp only [h1,ne_eq,not_false_eq_true,decide_true,if_true,Bool.not_false,decide_false,Bool.true_and]
       rw [if_pos (by decide)]
       exact ih1
   | cons a t =>
    refine ⟨_,rfl,?_⟩
    simp only [enM,cast1] at ih0
    simp only [enM,L1000095_2,mapM,r_ld0,r_lds,r_lm0,r_lms,r_ln0,r_lns,r_lr0,r_lrs,r_liti,r_lss,hlt,decide_true,r_cond,if_true,r_neq,r_call,s91 _ _ hP,r_bnd0,hasP_nat hi',hy,r_find,hx,r_natN,r_inxg,r_mrows,r_row20 hj,r_addN,r_mulN,r_leN,r_cellN,Nat.zero_add,Nat.add_zero,Int.toNat_natCast,h20,get_no f hi',s86,r_not,r_rows,r_len,List.length_cons,List.length_nil,r_eqN,r_seg0,List.take,r_fitsg,r_add,hw,List.length_map,r_app]
    rw [if_pos hin]
    by_cases h1:(i:Int)=me
    ·simp only [h1,ne_eq,not_true,decide_false,decide_true,Bool.false_eq_true,if_false,Bool.not_true,Bool.false_and]
     rw [←h1] at ih0 ⊢
     exact ih0
    ·cases h2:P.toNat.testBit i with
     | false =>
      simp only [h1,ne_eq,not_false_eq_true,decide_true,if_true,Bool.false_eq_true,if_false,Bool.and_false,Bool.false_and]
      exact ih0
     | true =>
      cases h3:isWith me i (f.no i) with
      | true =>
       simp only [h1,ne_eq,not_false_eq_true,decide_true,if_true,Bool.false_eq_true,if_false,Bool.and_false,Bool.not_true]
       exact ih0
      | false =>
       simp only [h1,ne_eq,not_false_eq_true,decide_true,if_true,Bool.not_false,decide_false,Bool.true_and]
       simp only [List.length_cons] at ha
       rw [if_pos (by omega)]
       simp only [List.map_append,List.map_cons,List.map_nil,List.length_cons] at ih1 ⊢
       exact ih1
end Go.VE
namespace Go.VE
open Go.RowKit Go.Proofs
def enL (N:Nat) (bs:List Brd) (r:Rr) (c1 c2 c5:D) (c3 c4:Nat) (i:Nat) (fs:List Fld):List Yr:=[.n N,.n N,.d (il N),.d (il i),.m (mapM bs fs),.r r,.d c1,.d c2,.n c3,.n c4,.d c5]
def outL (bs:List Brd) (r:Rr) (c1 c2 c5:D) (c3 c4:Nat) (q:List Fld×Bool):Out:=if q.2=true then some (1,[.m (mapM bs q.1),.r r,.d c1,.d c2,.n c3,.n c4,.d c5]) else some (0,[.d (bl false),.m (mapM bs q.1),.r r,.d c1,.d c2,.n c3,.n c4,.d c5])
theorem set_len (fs:List Fld) (j:Nat) (g:Fld):(fs.set j g).length=fs.length:=List.length_set ..
section
variable {Fn:Nat→List D→Out} {FnD:D→List Sh→List D→Out} {m:Nat}
theorem r_rowS {l:List Stk} {i:Nat} {s:Stk} (h:l[i]?=some s) (k:List D→Out):(real Fn FnD m).rowAt 4 (l.map rS) i k=k (rS s):=by
 rw [r_rowAtg,List.getElem?_map,h];rfl
theorem r_fnD113 (f:Int):(real Fn FnD m).fnD 113 [(real Fn FnD m).dpD [il f] 0]=.fn 113 [.dp [il f] 0]:=rfl
end
set_option maxRecDepth 20000 in
theorem l95 (n:Nat) (b:Option (List Brd)) (hb:(b.getD []).length≤4611686018427387904) (h6:∀ c∈b.getD [],six c.2) (l:List Stk) (hl:l.length≤4611686018427387904) (me:Int) (c5:D) (c3 c4:Nat) (fs:List Fld) (hf:fs.length=(b.getD []).length) :
  loopR [L1000095_6 (RP (n+3))] M0 0 (enL l.length (b.getD []) (l.map rS) (il me) (dB b) c5 c3 c4 0 fs)=outL (b.getD []) (l.map rS) (il me) (dB b) c5 c3 c4 (pread me (b.getD []) fs l):=by
 have:=range_loop (β:=List Fld) l hl (L1000095_6 (RP (n+3))) (fun i fs=>enL l.length (b.getD []) (l.map rS) (il me) (dB b) c5 c3 c4 i fs) (fun _ fs=>fs.length=(b.getD []).length)
  (fun _ r fs=>outL (b.getD []) (l.map rS) (il me) (dB b) c5 c3 c4 (pread me (b.getD []) fs r)) ?_ ?_ M0 fs hf (M0_big hl)
 ·exact this
 ·intro fs k _
  simp [L1000095_6,enL,outL,pread]
 ·intro i s r fs k hi hd hlt hw hfs ih
  have hlt':(i:Int) < (l.length:Int):=by omega
  have hin:0≤(i:Int)∧(i:Int) < (l.length:Nat):=by omega
  rw [pread]
  by_cases hs:okS s=true
  ·rw [if_pos hs]
   cases hx:bix s.2.1 (b.getD []) with
   | none =>
    have hneg:ixI s.2.1 (b.getD []) < 0:=ixI_neg.2 hx
    simp only [enL,L1000095_6,r_ld0,r_lds,r_lm0,r_lms,r_ln0,r_lns,r_lr0,r_lrs,r_lss,hlt',decide_true,r_cond,if_true,r_len,List.length_map,r_eqN,r_inxg,hin,and_self,Int.toNat_natCast,r_rowS hi,cS0,cS1,cS2,cS3,r_call,s107,r_bnd0,hs,r_not,Bool.not_true,Bool.false_eq_true,if_false,r_fnD113,s112 _ _ hb,r_liti,hneg,r_litb,r_out,r_eql,r_bnd_ite,outL]
    simp
   | some j =>
    obtain ⟨hj1,hj2⟩:=bix_some hx
    have hnn:¬ (ixI s.2.1 (b.getD []) < 0):=by rw [ixI_neg,hx];simp
    have hix:ixI s.2.1 (b.getD [])=(j:Int):=by simp [ixI,hx]
    obtain ⟨e,he⟩:∃ e,(b.getD [])[j]?=some e:=⟨_,List.getElem?_eq_getElem hj1⟩
    have hP:six e.2:=h6 e (List.mem_of_getElem? he)
    have hge:(b.getD []).getD j (0,0)=e:=by simp [List.getD_eq_getElem?_getD,he]
    obtain ⟨f,hf⟩:∃ f,fs[j]?=some f:=⟨_,List.getElem?_eq_getElem (by omega)⟩
    have hgf:fs.getD j fd0=f:=by simp [List.getD_eq_getElem?_getD,hf]
    simp only
    rw [hge,hgf]
    have ihs:∀ g,k 0 (enL l.length (b.getD []) (l.map rS) (il me) (dB b) c5 c3 c4 (i+1) (fs.set j g))=outL (b.getD []) (l.map rS) (il me) (dB b) c5 c3 c4 (pread me (b.getD []) (fs.set j g) r):=fun g=>ih _ (by rw [set_len];exact hfs)
    simp only [enL,cast1] at ihs
    simp only [enL,L1000095_6,r_ld0,r_lds,r_lm0,r_lms,r_ln0,r_lns,r_lr0,r_lrs,r_lss,hlt',decide_true,r_cond,if_true,r_len,List.length_map,r_eqN,r_inxg,hin,and_self,Int.toNat_natCast,r_rowS hi,cS0,cS1,cS2,cS3,r_call,s107,r_bnd0,hs,r_not,Bool.not_true,Bool.false_eq_true,if_false,r_fnD113,s112 _ _ hb,r_liti,hnn,decide_false,r_litb,r_out]
    rw [hix,rowB he]
    simp only [cB0,cB1,r_bnd0,r_ld0,r_lds,r_lm0,r_lms,r_ln0,r_lns,r_lr0,r_lrs]
    rcases okS_kind hs with ⟨h1,ho⟩ | h1 | ⟨h1,ho⟩ | h1
    ·have hp:=par_lt ho
     have hq:0≤s.2.2.1∧s.2.2.1 < (6:Nat):=by have:=par_iff.1 ho;omega
     have k1:3*s.2.2.1.toNat+1≤20:=by omega
     have k2:3*s.2.2.1.toNat+1+1≤20:=by omega
     unfold fstep
     simp only [h1,r_eql,decide_true,if_true,r_bnd0,r_ld0,r_lds,r_lm0,r_lms,r_ln0,r_lns,r_lr0,r_lrs,r_not,r_cond,Bool.not_true,Bool.false_eq_true,if_false,s91 _ _ hP,mapM,r_natN,r_inxg,hq,and_self,r_mrows,r_row20 hf,r_addN,r_mulN,r_leN,r_cellN,Nat.zero_add,Nat.add_zero,get_opn,get_no f hp,r_leq,r_selK1,r_find,hx,r_mset,r_setRC,set_no hf hp,r_row20 (set_at hf _),set_af (set_at hf _) hp,List.set_set,r_add,hw,k1,k2,show 19+1≤20 by decide,decide_eq_true_eq]
     by_cases g1:s.2.2.1=me
     ·simp [g1,outL,mapM]
     ·by_cases g2:hasP e.2 s.2.2.1=true
      ·by_cases g3:f.opn=true
       ·simp [g1,g2,g3,outL,mapM]
       ·by_cases g4:s.2.2.2≤f.no s.2.2.1.toNat
        ·simp [g1,g2,g3,g4,outL,mapM]
        ·have ih':=ihs { f with no:=upN f.no s.2.2.1.toNat s.2.2.2,af:=upN f.af s.2.2.1.toNat true }
         have g3':f.opn=false:=by simpa using g3
         simp only [mapM,g3'] at ih'
         simp only [g1,g2,g3',g4,if_false,r_bnd0,r_ld0,r_lds,r_lm0,r_lms,r_ln0,r_lns,r_lr0,r_lrs,r_not,r_cond,Bool.not_true,Bool.false_eq_true,decide_false,Bool.or_false]
         exact ih'
      ·simp [g1,g2,outL,mapM]
    ·unfold fstep
     simp only [h1,r_eql,show ¬ ((2:Int)=1) by decide,show ¬ ((2:Int)=3) by decide,decide_false,if_true,r_bnd0,r_ld0,r_lds,r_lm0,r_lms,r_ln0,r_lns,r_lr0,r_lrs,r_not,r_cond,Bool.not_true,Bool.false_eq_true,if_false,mapM,r_natN,r_mrows,r_row20 hf,r_addN,r_mulN,r_leN,r_cellN,Nat.zero_add,Nat.add_zero,get_wants,r_leq,r_selK2,r_find,hx,r_mset,r_setRC,set_wants hf,r_loop,e95_3,r_add,hw,show 18+1≤20 by decide,decide_eq_true_eq]
     by_cases g1:s.2.2.2≤f.wants
     ·simp [g1,outL,mapM]
     ·have ih':=ihs { f with wants:=s.2.2.2,af:=fun _=>false }
      have h0:=l95_0 (n+3) (b.getD []) (fs.set j { f with wants:=s.2.2.2 }) (set_at hf _) (il me) (dB b) c5 c3 c4 (l.map rS)
      simp only [mapM,List.set_set] at ih' h0
      simp only [g1,if_false,h0,r_bnd0,r_ld0,r_lds,r_lm0,r_lms,r_ln0,r_lns,r_lr0,r_lrs]
      exact ih'
    ·have hp:=par_lt ho
     have hq:0≤s.2.2.1∧s.2.2.1 < (6:Nat):=by have:=par_iff.1 ho;omega
     have k2:3*s.2.2.1.toNat+2+1≤20:=by omega
     unfold fstep
     simp only [h1,r_eql,show ¬ ((3:Int)=1) by decide,show ¬ ((3:Int)=2) by decide,decide_true,decide_false,if_true,r_bnd0,r_ld0,r_lds,r_lm0,r_lms,r_ln0,r_lns,r_lr0,r_lrs,r_not,r_cond,Bool.not_true,Bool.false_eq_true,if_false,s91 _ _ hP,mapM,r_natN,r_inxg,hq,and_self,r_mrows,r_row20 hf,r_addN,r_mulN,r_leN,r_cellN,Nat.zero_add,Nat.add_zero,get_ask f hp,r_leq,r_selK3,r_find,hx,r_mset,r_setRC,set_ask hf hp,r_add,hw,k2,decide_eq_true_eq]
     by_cases g1:s.2.2.1=me
     ·simp [g1,outL,mapM]
     ·by_cases g2:hasP e.2 s.2.2.1=true
      ·by_cases g4:s.2.2.2≤f.ask s.2.2.1.toNat
       ·simp [g1,g2,g4,outL,mapM]
       ·have ih':=ihs { f with ask:=upN f.ask s.2.2.1.toNat s.2.2.2 }
        simp only [mapM] at ih'
        simp only [g1,g2,g4,if_false,r_bnd0,r_ld0,r_lds,r_lm0,r_lms,r_ln0,r_lns,r_lr0,r_lrs,Bool.not_true,Bool.false_eq_true,decide_false,Bool.or_false]
        exact ih'
      ·simp [g1,g2,outL,mapM]
    ·unfold fstep
     have he1:e.1=s.2.1:=by rw [←hge];exact hj2
     have hj0:¬ ((j:Int) < 0):=by omega
     simp only [h1,r_eql,show ¬ ((4:Int)=1) by decide,show ¬ ((4:Int)=2) by decide,show ¬ ((4:Int)=3) by decide,decide_false,if_true,r_bnd0,r_ld0,r_lds,r_lm0,r_lms,r_ln0,r_lns,r_lr0,r_lrs,r_not,r_cond,Bool.not_true,Bool.false_eq_true,if_false,mapM,r_natN,r_selK4,r_find,hx,r_fnD113,s112 _ _ hb,hix,hj0,rowB he,cB0,cB1,r_lss,r_mrows,r_row20 hf,r_addN,r_mulN,r_leN,r_cellN,Nat.zero_add,Nat.add_zero,get_opn,r_eqlB,r_mset,r_setRC,r_loop,e95_4,e95_5,r_add,hw,show 19+1≤20 by decide,he1,decide_eq_true_eq]
     by_cases g1:s.2.2.2=1
     ·cases g2:f.opn with
      | true=>simp [g1,outL,mapM]
      | false =>
       have h0:=fun y hy=>l95_m (n:=n) hf hx hP me y hy (il s.2.1) (dB b) c5 c3 c4 (l.map rS)
       simp only [mapM] at h0
       simp only [g1,decide_true,show ((false==true)=true)=False by simp,if_false,if_true]
       rw [h0 _ (by simp)]
       cases hm:missL me e.2 f with
       | nil =>
        have ih':=ihs { f with opn:=true }
        simp only [mapM] at ih'
        simp only [outM,r_bnd0,r_ld0,r_lds,r_lm0,r_lms,r_ln0,r_lns,r_lr0,r_lrs,r_gtr,r_cond,show ¬ ((0:Int) < 0) by decide,decide_false,Bool.false_eq_true,if_false,r_row20 hf,set_opn hf,r_not,Bool.not_true,List.isEmpty_nil,Bool.and_false,Bool.or_false,show ((false==true)=true)=False by simp]
        exact ih'
       | cons a t =>
        have:(0:Int) < ((t.length+1:Nat):Int):=by omega
        simp only [outM,r_bnd0,r_bnd1,r_ld0,r_lds,r_lm0,r_lms,r_ln0,r_lns,r_lr0,r_lrs,r_gtr,r_cond,r_natD,this,decide_true,if_true,r_not,Bool.not_false]
        simp [outL,mapM]
     ·cases g2:f.opn with
      | true =>
       have ih':=ihs { f with opn:=false }
       simp only [mapM] at ih'
       simp only [g1,decide_false,show ((true==false)=true)=False by simp,if_false,Bool.false_eq_true,set_opn hf,r_bnd0,r_ld0,r_lds,r_lm0,r_lms,r_ln0,r_lns,r_lr0,r_lrs,r_not,r_cond,Bool.not_true,Bool.false_and,Bool.or_false]
       exact ih'
      | false=>simp [g1,outL,mapM]
  ·simp only [enL,L1000095_6,r_ld0,r_lds,r_lm0,r_lms,r_ln0,r_lns,r_lr0,r_lrs,r_lss,hlt',decide_true,r_cond,if_true,r_len,List.length_map,r_eqN,r_inxg,hin,and_self,Int.toNat_natCast,r_rowS hi,cS0,cS1,cS2,cS3,r_call,s107,r_bnd0,hs,r_not,r_out,r_litb]
   simp [outL]
theorem s1000095 (n:Nat) (b:Option (List Brd)) (hb:(b.getD []).length≤4611686018427387904) (h6:∀ c∈b.getD [],six c.2) (l:List Stk) (hl:l.length≤4611686018427387904) (me:Int) (c5:D) (c3 c4:Nat) (fs:List Fld) (hf:fs.length=(b.getD []).length) :
  FN (n+4) 1000095 [il me,dB b,il c3,il c4,c5,.sl 4 (l.map rS),.mp true (keysB (b.getD [])) (fs.map row20)] =
   some (0,[.d (bl (pread me (b.getD []) fs l).2),.d (il me),.d (dB b),.d (il c3),.d (il c4),.d c5,.d (.sl 4 (l.map rS)),.d (.mp true (keysB (b.getD [])) ((pread me (b.getD []) fs l).1.map row20))]):=by
 rw [F1000095]
 have h:=l95 n b hb h6 l hl me c5 c3 c4 fs hf
 have ha:∀ k:Mr→Out,(RP (n+3)).asM true (.mp true (keysB (b.getD [])) (fs.map row20)) k=k (mapM (b.getD []) fs):=fun _=>rfl
 simp only [enL,Int.natCast_zero] at h
 simp only [G1000095,r_rowsD,ha,r_loop,r_len,List.length_map,r_natD,r_liti,r_dN,h,outL]
 cases (pread me (b.getD []) fs l).2<;>simp [r_mpD,mapM]
end Go.VE
namespace Go.VE
open Go.RowKit Go.Proofs
def okP (me:Int) (bs:List Brd) (ss:List Stk) (h:Int):Bool :=
 par me&&(bords me bs&&(decide (ss.length≤120)&&(inn h 0 ss.length&&(pread me bs (bs.map fun _=>fd0) ss).2)))
theorem okP_W (me:Int) (bs:List Brd) (ss:List Stk) (h:Int):okP me bs ss h=okW me bs ss h:=by
 unfold okP okW
 cases hb:bords me bs with
 | false=>simp
 | true =>
  have hr:Rise bs:=by
   simp only [bords,Bool.and_eq_true] at hb
   exact okL_rise hb.1
  obtain ⟨-,p1,p2⟩:=pread_at (me:=me) hr ss (bs.map fun _=>fd0) (by simp)
  have hf:∀ i,(bs.map fun _=>fd0).getD i fd0=fd0:=fun i=>by
   simp only [List.getD_eq_getElem?_getD,List.getElem?_map]
   cases bs[i]?<;>rfl
  have e:(pread me bs (bs.map fun _=>fd0) ss).2=(ss.all (okSt bs)&&bs.all fun b=>(fread me b fd0 ss).2):=by
   rw [Bool.eq_iff_iff,Bool.and_eq_true,List.all_eq_true,List.all_eq_true]
   constructor
   ·intro h
    obtain ⟨a,b⟩:=p1 h
    refine ⟨fun s hs=>?_,fun c hc=>?_⟩
    ·obtain ⟨a1,a2⟩:=a s hs
     simp only [okSt,a1,Bool.true_and]
     cases hx:bix s.2.1 bs with
     | none=>exact absurd hx a2
     | some _=>rfl
    ·obtain ⟨i,hi,rfl⟩:=List.mem_iff_getElem.1 hc
     have:=b i hi
     rw [hf i] at this
     simp only [List.getD_eq_getElem?_getD,List.getElem?_eq_getElem hi,Option.getD_some] at this
     rw [this]
   ·rintro ⟨a,b⟩
    refine p2 (fun s hs=>?_) fun i hi=>?_
    ·have:=a s hs
     simp only [okSt,Bool.and_eq_true] at this
     refine ⟨this.1,fun hn=>?_⟩
     rw [hn] at this
     simp at this
    ·rw [hf i]
     have:=b bs[i] (List.getElem_mem hi)
     simpa only [List.getD_eq_getElem?_getD,List.getElem?_eq_getElem hi,Option.getD_some] using this
  rw [e]
section
variable {Fn:Nat→List D→Out} {FnD:D→List Sh→List D→Out} {m:Nat}
theorem keysB_len (bs:List Brd):(keysB bs).length=bs.length:=by simp [keysB]
theorem r_addK {bs:List Brd} {fs:List Fld} (hf:fs.length=bs.length) {e:Brd} (hx:bix e.1 bs=none) (g:Fld) (k:Mr→Out) :
  (real Fn FnD m).addK 0 (keysB bs,fs.map row20++[row20 g]) (il e.1) bs.length k=k (mapM (bs++[e]) (fs++[g])):=by
 have:addKD 0 (keysB bs,fs.map row20++[row20 g]) (il e.1) bs.length=some (mapM (bs++[e]) (fs++[g])):=by
  simp only [addKD,il,litD,isKey,keysB_len,true_and,List.length_append,List.length_map,hf,List.length_cons,List.length_nil]
  rw [if_pos (by omega),mFind_bix,hx]
  simp [mapM,keysB]
 simp only [real,this]
end
theorem row20_0:row20 fd0=[il 0,bl false,il 0,il 0,bl false,il 0,il 0,bl false,il 0,il 0,bl false,il 0,il 0,bl false,il 0,il 0,bl false,il 0,il 0,bl false]:=rfl
theorem bix_new {bs:List Brd} (hr:Rise bs) {i:Nat} {e:Brd} (he:bs[i]?=some e):bix e.1 (bs.take i)=none:=by
 cases hx:bix e.1 (bs.take i) with
 | none=>rfl
 | some j =>
  obtain ⟨h1,h2⟩:=bix_some hx
  have hi:i < bs.length:=by
   rcases Nat.lt_or_ge i bs.length with h | h
   ·exact h
   ·rw [List.getElem?_eq_none h] at he;cases he
  have hj:j < i:=by simp at h1;omega
  have:=List.pairwise_iff_getElem.1 hr j i (by omega) hi hj
  rw [List.getElem?_eq_getElem hi] at he
  simp only [Option.some.injEq] at he
  simp only [List.getD_eq_getElem?_getD,List.getElem?_take,hj,if_true,List.getElem?_eq_getElem (show j < bs.length by omega),Option.getD_some] at h2
  rw [he] at this
  omega
def new (bs:List Brd):List Fld:=bs.map fun _=>fd0
theorem new_snoc (bs:List Brd) (e:Brd):new (bs++[e])=new bs++[fd0]:=by simp [new]
theorem new_len (bs:List Brd):(new bs).length=bs.length:=by simp [new]
theorem take_snoc {α:Type} {l:List α} {i:Nat} {e:α} (h:l[i]?=some e):l.take (i+1)=l.take i++[e]:=by
 rw [List.take_add_one,h];rfl
theorem seg_copy (r:Rr) (z:List D):r.take r.length++((List.replicate r.length z).drop r.length).take r.length=r:=by
 simp
end Go.VE
namespace Go.VE
open Go.RowKit Go.Proofs
def pg (me:Int) (bs:List Brd) (ss:List Stk):List Fld:=(pread me bs (new bs) ss).1
def fl (me:Int) (bs:List Brd) (ss:List Stk) (j:Nat):Fld:=(fread me (bs.getD j (0,0)) fd0 ss).1
theorem pg_len {me:Int} {bs:List Brd} (hr:Rise bs) (ss:List Stk):(pg me bs ss).length=bs.length:=(pread_at hr ss (new bs) (new_len bs)).1
theorem okP_rise {me:Int} {bs:List Brd} {ss:List Stk} {h:Int} (ho:okP me bs ss h=true):Rise bs:=by
 simp only [okP,bords,Bool.and_eq_true] at ho
 exact okL_rise ho.2.1.1
theorem new_get (bs:List Brd) (i:Nat):(new bs).getD i fd0=fd0:=by
 simp only [new,List.getD_eq_getElem?_getD,List.getElem?_map]
 cases bs[i]?<;>rfl
theorem pg_at {me:Int} {bs:List Brd} {ss:List Stk} {h:Int} (ho:okP me bs ss h=true) {j:Nat} (hj:j < bs.length):(pg me bs ss)[j]?=some (fl me bs ss j):=by
 have hr:=okP_rise ho
 have ho':=ho
 simp only [okP,Bool.and_eq_true] at ho'
 have:=(pread_at (me:=me) hr ss (new bs) (new_len bs)).2.1 ho'.2.2.2.2
 have h1:=this.2 j hj
 rw [new_get] at h1
 have h2:j < (pg me bs ss).length:=by rw [pg_len hr];exact hj
 rw [List.getElem?_eq_getElem h2]
 unfold fl
 rw [h1]
 simp [pg,List.getD_eq_getElem?_getD,List.getElem?_eq_getElem (show j < (pread me bs (new bs) ss).1.length from h2)]
def ofR (me:Int) (bs:List Brd) (ss:List Stk) (h fld:Int) (bad:Int→Out) (k:Nat→Out):Out :=
 if okP me bs ss h=true then (match bix fld bs with
  | none=>bad 94
  | some j=>k j) else bad 92
def badN (e:Int):Out:=some (0,[.d nilS,.d (il e)])
def bad21 (e:Int):Out:=some (0,(z21++[il e]).map .d)
theorem getD_at {α:Type} {l:List α} {j:Nat} {e:α} (d:α) (h:l[j]?=some e):l.getD j d=e:=by simp [List.getD_eq_getElem?_getD,h]
theorem bord_at {bs:List Brd} {fld:Int} {j:Nat} (h:bix fld bs=some j):∃ e,bs[j]?=some e∧e.1=fld∧bs.getD j (0,0)=e∧j < bs.length:=by
 obtain ⟨h1,h2⟩:=bix_some h
 refine ⟨bs[j],List.getElem?_eq_getElem h1,?_,getD_at _ (List.getElem?_eq_getElem h1),h1⟩
 rw [getD_at _ (List.getElem?_eq_getElem h1)] at h2
 exact h2
theorem okW_strokes {me:Int} {bs:List Brd} {ss:List Stk} {h:Int} (ho:okW me bs ss h=true):par me=true∧bords me bs=true∧(∀ s∈ss,okS s=true):=by
 simp only [okW,Bool.and_eq_true] at ho
 exact ⟨ho.1,ho.2.1,all_okS ho.2.2.2.2.1⟩
theorem ixI_at {fld:Int} {bs:List Brd} {j:Nat} (h:bix fld bs=some j):ixI fld bs=(j:Int):=by simp [ixI,h]
theorem s80 (n:Nat) (me h:Int) (b:Option (List Brd)) (o:Option (List Stk)) (fld:Int) (hl:(o.getD []).length≤4611686018427387904) (hb:(b.getD []).length≤4611686018427387904) :
  FN (n+8) 80 [il me,dB b,dS o,il h,il fld]=ofR me (b.getD []) (o.getD []) h fld bad21 fun j=>some (0,(r21 ((b.getD []).getD j (0,0)) me (fl me (b.getD []) (o.getD []) j)++[il 0]).map .d):=by
 rw [F80]
 unfold ofR
 simp only [G80,r_call,s15 _ _ _ _ _ hl hb,← okP_W,r_bnd0,r_ld0,r_liti,r_litb,r_neq,ite_ne _ 92 (by omega),r_cond,r_out,s74 _ _ hb,r_lss,decide_eq_true_eq,ixI_neg]
 by_cases h1:okP me (b.getD []) (o.getD []) h=true
 ·have hW:=h1
  rw [okP_W] at hW
  obtain ⟨w1,w2,w3⟩:=okW_strokes hW
  simp only [h1,Bool.not_true,Bool.false_eq_true,if_false,if_true]
  cases hx:bix fld (b.getD []) with
  | none=>simp [bad21,z21]
  | some j =>
   obtain ⟨e,he,-,hg,hj⟩:=bord_at hx
   simp only [reduceCtorEq,if_false,ixI_at hx,rowB he,cB0,cB1,s75 _ _ (bords_six w2 e (List.mem_of_getElem? he)) w1 _ hl w3,r_bnd0]
   rw [hg]
   simp only [r21,List.cons_append,List.nil_append,List.map_cons,List.map_nil,r_ld0,r_lds,fl,hg]
 ·simp [h1,bad21,z21]
end Go.VE
namespace Go.VE
open Go.RowKit Go.Proofs
def odd (z:Int):Bool:=decide (z.tmod 2=1)
def cleanF (me o:Int) (f:Fld):Bool:=isWith me o (f.no o.toNat)&&(odd f.wants&&f.af o.toNat)
end Go.VE
namespace Go.VE
open Go.RowKit Go.Proofs
def rN (o:Nat):List D:=[il o]
def dN (l:List Nat):D:=match l with
 | []=>nilS
 | a::t=>.sl 1 ((a::t).map rN)
theorem s89 (n:Nat) (b:Brd) (me:Int) (hm:par me=true) (f:Fld) {o:Int} (ho:par o=true):FN (n+2) 89 (r21 b me f++[il me,il o])=some (0,[.d (bl (cleanF me o f))]):=by
 have h88:=s88 n b me f (par_lt ho)
 rw [Int.toNat_of_nonneg (par_iff.1 ho).1] at h88
 have hw:=wan_me hm f
 simp only [r21,List.cons_append,List.nil_append] at h88 ⊢
 rw [F89]
 simp only [G89,r_call,h88,r_bnd0,r_ld0,r_cond,r_selIg,cleanF,odd]
 rw [if_pos (show 0≤me∧me < (6:Nat) by have:=par_iff.1 hm;omega),if_pos (show 0≤o∧o < (6:Nat) by have:=par_iff.1 ho;omega)]
 have key:∀ q:D,q=il f.wants→∀ g:Nat→Bool,(if isWith me o (f.no o.toNat)=true then (RP (n+1)).bin .rem false q ((RP (n+1)).lit (.int .i64 2)) fun x1=>(RP (n+1)).bin .eql false x1 ((RP (n+1)).lit (.int .i64 1)) fun x2=>(RP (n+1)).cond x2 (selR [some (0,[.d (bl (g 0))]),some (0,[.d (bl (g 1))]),some (0,[.d (bl (g 2))]),some (0,[.d (bl (g 3))]),some (0,[.d (bl (g 4))]),some (0,[.d (bl (g 5))])] o.toNat) (some (0,[.d (bl false)])) else (some (0,[.d (bl false)]):Out))=some (0,[.d (bl (isWith me o (f.no o.toNat)&&(decide (f.wants.tmod 2=1)&&g o.toNat)))]):=by
  rintro q rfl g
  have hs:selR [some (0,[.d (bl (g 0))]),some (0,[.d (bl (g 1))]),some (0,[.d (bl (g 2))]),some (0,[.d (bl (g 3))]),some (0,[.d (bl (g 4))]),some (0,[.d (bl (g 5))])] o.toNat=some (0,[.d (bl (g o.toNat))]):=by
   have hlt:=par_lt ho
   generalize o.toNat=t at hlt ⊢
   match t,hlt with
   | 0,_=>rfl
   | 1,_=>rfl
   | 2,_=>rfl
   | 3,_=>rfl
   | 4,_=>rfl
   | 5,_=>rfl
  simp only [r_liti,r_rem _ _ _ _ (show (2:Int)≠0 by decide),r_eql,r_cond,hs,decide_eq_true_eq]
  cases isWith me o (f.no o.toNat) with
  | false=>simp
  | true =>
   by_cases h2:f.wants.tmod 2=1<;>simp [h2]
 have hlt:=par_lt hm
 generalize me.toNat=t at hlt hw ⊢
 match t,hlt with
 | 0,_=>exact key _ (by rw [hw]) f.af
 | 1,_=>exact key _ (by rw [hw]) f.af
 | 2,_=>exact key _ (by rw [hw]) f.af
 | 3,_=>exact key _ (by rw [hw]) f.af
 | 4,_=>exact key _ (by rw [hw]) f.af
 | 5,_=>exact key _ (by rw [hw]) f.af
theorem r_inx6n {Fn:Nat→List D→Out} {FnD:D→List Sh→List D→Out} {m:Nat} {i:Nat} (h:i < 6) (k:Nat→Out):(real Fn FnD m).inx (il i) 6 k=k i:=by
 rw [r_inxg,if_pos (by omega),Int.toNat_natCast]
theorem fit1 {n:Nat} (b:Nat) (hb:b≤32) (hn:n≤4294967296):(n+1+(0+1))*b≤140737488355328∧n+1+(0+1)≤9223372036854775807:=by
 have:(n+1+(0+1))*b≤(n+1+(0+1))*32:=Nat.mul_le_mul_left _ hb
 omega
end Go.VE
namespace Go.VE
open Go.RowKit Go.Proofs
end Go.VE
namespace Go.VE
open Go.RowKit Go.Proofs
end Go.VE
namespace Go.VE
open Go.RowKit Go.Proofs
set_option maxRecDepth 100000
section
variable {Δ N R W M E Ω:Type} (p:Pr Δ N R W M E Ω)
end
theorem bnd_eq {n:Nat} {X X' r:Out} {ks:List (List Yr→Out)} (h:X=X') (h2:(RP n).bnd X' ks=r):(RP n).bnd X ks=r:=h ▸ h2
end Go.VE
namespace Go.VE
open Go.RowKit Go.Proofs
set_option maxRecDepth 100000
section
variable {Fn:Nat→List D→Out} {FnD:D→List Sh→List D→Out} {m:Nat}
theorem r_findM (bs:List Brd) (fs:List Fld) (f:Int) (k:Nat→Out) (e:Out):(real Fn FnD m).find 0 (mapM bs fs) (il f) k e=match bix f bs with
  | none=>e
  | some j=>k j:=by
 rw [show mapM bs fs=(keysB bs,fs.map row20) from rfl,r_find]
 cases bix f bs<;>rfl
theorem r_mrowsM (bs:List Brd) (fs:List Fld):(real Fn FnD m).mrows (mapM bs fs)=fs.map row20:=rfl
end
end Go.VE
namespace Go.VE
open Go.RowKit Go.Proofs
set_option maxRecDepth 100000
theorem fstep_ask {me P:Int} {f g:Fld} {s:Stk} (h:fstep me P f s=some g) (hf:∀ o:Nat,f.ask o≠0→P.toNat.testBit o=true):∀ o:Nat,g.ask o≠0→P.toNat.testBit o=true:=by
 unfold fstep at h
 repeat' split at h
 all_goals first
  | (cases h;done)
  | (simp only [Option.some.injEq] at h;subst h;exact hf)
  | skip
 ·rename_i hc
  simp only [Option.some.injEq] at h
  subst h
  intro o ho
  simp only [upN] at ho
  by_cases he:o=s.2.2.1.toNat
  ·have hp:hasP P s.2.2.1=true:=by
    cases hh:hasP P s.2.2.1 with
    | true=>rfl
    | false=>simp [hh] at hc
   have:=par_iff.1 (hasP_par hp)
   rw [he,← hasP_nat (P:=P) (par_lt (hasP_par hp)),Int.toNat_of_nonneg this.1]
   exact hp
  ·rw [if_neg (fun h=>he h.symm)] at ho
   exact hf o ho
theorem fread_ask (me:Int) (b:Brd):∀ (ss:List Stk) (f:Fld),(∀ o:Nat,f.ask o≠0→b.2.toNat.testBit o=true)→∀ o:Nat,(fread me b f ss).1.ask o≠0→b.2.toNat.testBit o=true
 | [],_,hf=>hf
 | s::r,f,hf=>by
  unfold fread
  split
  ·cases hs:fstep me b.2 f s with
   | none=>exact hf
   | some g=>exact fread_ask me b r g (fstep_ask hs hf)
  ·exact fread_ask me b r f hf
end Go.VE
namespace Go.VE
open Go.RowKit Go.Proofs
end Go.VE
