/- Book: strips by the reference. -/
import Derived.Test.YtipddjojdgapiaaGreatDoorMg0
import Derived.Test.YtipddjojdgapiaaGreatDoorMt
import Derived.KernelRfl
namespace Go.VE
open Go.RowKit Go.Proofs Go.Lib
set_option maxRecDepth 100000
theorem s78 (n:Nat) (q:Int) (s:Strp):FN (n+2) 78 [il q,il s.no,il s.sz,sD s.tx]=some (0,[.d (bl (wholeZ q s))]):=by
 rw [F78]
 obtain ⟨no,sz,tx⟩:=s
 simp only [G78,r_call,r_liti,r_litb,s73,r_bnd0,r_ld0,r_not,r_cond,r_out,r_lenSs,r_neq,r_rem _ _ _ _ (show (2:Int)≠0 by decide),r_quo _ _ _ _ (show (2:Int)≠0 by decide),r_eql,wholeZ,r_add]
 by_cases h1:inZ no 0 59=true
 ·by_cases h2:inZ sz 14 240=true
  ·have hz:=inZ_iff.1 h2
   simp only [h1,h2,Bool.not_true,Bool.false_eq_true,if_false,Bool.true_and,wrap_id (show -9223372036854775808≤sz+1 by omega) (show sz+1≤9223372036854775807 by omega),half2 (show 0≤sz by omega),wrap_id (show -9223372036854775808≤(sz+1) / 2 by omega) (show (sz+1) / 2≤9223372036854775807 by omega)]
   by_cases h3:(tx.length:Int)=(sz+1) / 2
   ·simp only [h3,ne_eq,not_true,decide_false,Bool.false_eq_true,if_false,decide_true,Bool.true_and,s102 _ tx (by omega),r_bnd0,r_ld0,r_not,r_cond]
    by_cases h4:tx.all okB=true
    ·simp only [h4,Bool.not_true,Bool.false_eq_true,if_false,Bool.true_and]
     by_cases h5:q=1
     ·simp only [h5,not_true,decide_false,Bool.false_eq_true,if_false,Bool.false_or]
      have hm:sz.tmod 2=sz % 2:=Int.tmod_eq_emod_of_nonneg (by omega)
      rw [hm]
      by_cases h6:sz % 2=0
      ·simp [h6]
      ·obtain ⟨k,hk⟩:∃ k,tx.length=k+1:=⟨tx.length - 1,by omega⟩
       obtain ⟨b,hb,hl⟩:=last_at hk
       have hw:IntKind.i64.wrap ((sz+1) / 2 - 1)=(k:Int):=by rw [wrap_id (by omega) (by omega)];omega
       simp only [h6,decide_false,Bool.false_eq_true,if_false,Bool.false_or,r_sub,hw,r_atSs hb,r_litU,r_eqlU32,r_out,hl]
     ·simp [h5]
    ·simp [h4]
   ·simp [h3]
  ·simp [h1,h2]
 ·simp [h1]
theorem s19 (n:Nat) (q:Int) (s:Strp):FN (n+3) 19 [il q,il s.no,il s.sz,sD s.tx]=some (0,[.d (il (if inZ q 0 2=true then (if wholeZ q s=true then 0 else 84) else 1))]):=by
 rw [F19]
 simp only [G19,r_call,r_liti,s73,s78,r_bnd0,r_ld0,r_not,r_cond,r_out]
 by_cases h1:inZ q 0 2=true
 ·by_cases h2:wholeZ q s=true<;>simp [h1,h2]
 ·simp [h1]
section
variable {Fn:Nat→List D→Out} {FnD:D→List Sh→List D→Out} {m:Nat}
theorem r_cvU {n:Nat} (h:n < 256) (k:D→Out):(real Fn FnD m).cvI .u8 (il n) k=k (un n):=by
 simp only [real,il,wrap8 h];rfl
theorem r_cvI8 (n:Nat) (h:n < 256) (k:D→Out):(real Fn FnD m).cvI .i64 (un n) k=k (il n):=by
 simp only [real,un,wrap_id (show -9223372036854775808≤(n:Int) by omega) (show (n:Int)≤9223372036854775807 by omega)];rfl
theorem r_strB1 (b:UInt8) (k:D→Out):(real Fn FnD m).strB [[ub b]] k=k (sD [b]):=r_strBs [b] k
end
theorem un_of {n:Nat} (h:n < 256):un n=ub (UInt8.ofNat n):=by
 rw [un_ub,UInt8.toNat_ofNat']
 congr 1
 omega
theorem ten0:(10:Int)≠0:=by decide
theorem s145 (n:Nat):∀ (k v:Nat),v < 10 ^ (k+1)→k≤8→FN (n+k+1) 145 [il v]=some (0,[.d (sD (decDigits v))])
 | 0,v,h,_=>by
  have h10:v < 10:=by omega
  have w:IntKind.i64.wrap (48+(v:Int))=((48+v:Nat):Int):=by rw [wrap_id (by omega) (by omega)];omega
  rw [F145,decDigits_one h10]
  simp only [G145,r_liti,r_lss,show ¬ ((v:Int) < -9) by omega,show ¬ ((v:Int) < 0) by omega,show (v:Int) < 10 by omega,decide_false,decide_true,Bool.false_eq_true,if_false,if_true,r_cond,r_add,w,r_cvU (show 48+v < 256 by omega),r_natN,r_rows,r_len,List.length_cons,List.length_nil,r_eqN,r_seg0,un_of (show 48+v < 256 by omega),List.take_succ_cons,List.take_nil,r_strB1,r_out]
 | k+1,v,h,hk=>by
  by_cases h10:v < 10
  ·have w:IntKind.i64.wrap (48+(v:Int))=((48+v:Nat):Int):=by rw [wrap_id (by omega) (by omega)];omega
   rw [F145,decDigits_one h10]
   simp only [G145,r_liti,r_lss,show ¬ ((v:Int) < -9) by omega,show ¬ ((v:Int) < 0) by omega,show (v:Int) < 10 by omega,decide_false,decide_true,Bool.false_eq_true,if_false,if_true,r_cond,r_add,w,r_cvU (show 48+v < 256 by omega),r_natN,r_rows,r_len,List.length_cons,List.length_nil,r_eqN,r_seg0,un_of (show 48+v < 256 by omega),List.take_succ_cons,List.take_nil,r_strB1,r_out]
  ·have hp:10 ^ (k+1+1)≤10 ^ 10:=Nat.pow_le_pow_right (by decide) (by omega)
   have ih:=s145 n k (v / 10) (by rw [Nat.pow_succ] at h;omega) (by omega)
   rw [show n+k+1=n+(k+1) by omega] at ih
   have e1:(v:Int).tmod 10=((v % 10:Nat):Int):=by rw [Int.tmod_eq_emod_of_nonneg (by omega)];rfl
   have e2:(v:Int).tdiv 10=((v / 10:Nat):Int):=by rw [Int.tdiv_eq_ediv_of_nonneg (by omega)];rfl
   have w1:IntKind.i64.wrap (48+((v % 10:Nat):Int))=((48+v % 10:Nat):Int):=by rw [wrap_id (by omega) (by omega)];omega
   have w2:IntKind.i64.wrap ((v / 10:Nat):Int)=((v / 10:Nat):Int):=wrap_id (by omega) (by omega)
   have hl:=dec_lenK k (v / 10) (by rw [Nat.pow_succ] at h;omega)
   have ha:(decDigits (v / 10)).length+[UInt8.ofNat (48+v % 10)].length≤9223372036854775807:=by simp only [List.length_cons,List.length_nil];omega
   rw [F145,decDigits_ten h10]
   simp only [G145,r_liti,r_lss,show ¬ ((v:Int) < -9) by omega,show ¬ ((v:Int) < 0) by omega,show ¬ ((v:Int) < 10) by omega,decide_false,Bool.false_eq_true,if_false,r_cond,r_quo _ _ _ _ ten0,r_rem _ _ _ _ ten0,e1,e2,w2,r_call,ih,r_bnd0,r_ld0,r_add,w1,r_cvU (show 48+v % 10 < 256 by omega),r_natN,r_rows,r_len,List.length_cons,List.length_nil,r_eqN,if_true,r_seg0,un_of (show 48+v % 10 < 256 by omega),List.take_succ_cons,List.take_nil,r_strB1,r_addSs ha,r_out]
theorem t145 (n:Nat) {z:Int} (h:0≤z∧z≤9999):FN (n+4) 145 [il z]=some (0,[.d (sD (dcZ z))]):=by
 have:=s145 n 3 z.toNat (by omega) (by decide)
 rw [Int.toNat_of_nonneg h.1] at this
 exact this
def txtN (l:List Int):List UInt8:=l.flatMap fun z=>dcZ z++[32]
theorem txtN_snoc (l:List Int) (z:Int):txtN (l++[z])=txtN l++dcZ z++[32]:=by simp [txtN]
theorem txtN_len:∀ l:List Int,(∀ z∈l,0≤z∧z≤9999)→(txtN l).length≤5*l.length
 | [],_=>by simp [txtN]
 | z::l,h=>by
  have h1:=dec_len4 (n:=z.toNat) (by have:=h z (by simp);omega)
  have h2:=txtN_len l fun y hy=>h y (by simp [hy])
  simp only [txtN,List.flatMap_cons,List.length_append,List.length_cons,List.length_nil,dcZ] at h2 ⊢
  omega
theorem l115 (n:Nat) (c0 c1 c2 c3 c4 c5 c6 c7:D) (l:List Int) (hl:l.length=7) (hz:∀ z∈l,0≤z∧z≤9999) :
  loopR [L115_0 (RP (n+4))] M0 0 [.d c0,.d c1,.d c2,.d c3,.d c4,.d c5,.d c6,.d c7,.d (sD []),.n 7,.n 7,.d (il 7),.d (il 0),.r (l.map fun z=>[il z])]=some (0,[.d c0,.d c1,.d c2,.d c3,.d c4,.d c5,.d c6,.d c7,.d (sD (txtN l))]):=by
 have:=range_loop (β:=List Int) l (by omega) (L115_0 (RP (n+4))) (fun i acc=>[.d c0,.d c1,.d c2,.d c3,.d c4,.d c5,.d c6,.d c7,.d (sD (txtN acc)),.n 7,.n 7,.d (il 7),.d (il i),.r (l.map fun z=>[il z])])
  (fun i acc=>acc=l.take i) (fun _ r acc=>some (0,[.d c0,.d c1,.d c2,.d c3,.d c4,.d c5,.d c6,.d c7,.d (sD (txtN (acc++r)))])) ?_ ?_ M0 [] (by simp) (M0_big (by omega))
 ·simpa [txtN] using this
 ·intro acc k _
  simp only [L115_0,r_ld0,r_lds,hl,r_lss,show ¬ (((7:Nat):Int) < 7) by decide,decide_false,Bool.false_eq_true,if_false,r_cond,r_out,List.append_nil]
 ·intro i z r acc k hi hd hlt hw hacc ih
  rw [hl] at hlt
  have hlt':(i:Int) < 7:=by omega
  have hz':=hz z (List.mem_of_getElem? hi)
  have hlen:(l.map fun z=>[il z]).length=7:=by rw [List.length_map,hl]
  have hr:(l.map fun z=>[il z])[i]?=some [il z]:=by rw [List.getElem?_map,hi];rfl
  have hal:(txtN acc).length≤35:=by
   have:=txtN_len acc fun y hy=>hz y (List.mem_of_mem_take (hacc ▸ hy))
   have h2:acc.length≤7:=by rw [hacc,List.length_take];omega
   omega
  have hd4:=dec_len4 (n:=z.toNat) (by omega)
  have ha1:(txtN acc).length+(dcZ z).length≤9223372036854775807:=by unfold dcZ;omega
  have ha2:(txtN acc++dcZ z).length+[(32:UInt8)].length≤9223372036854775807:=by simp only [List.length_append,List.length_cons,List.length_nil];unfold dcZ;omega
  have h32:((.lit (.string ⟨#[32]⟩):D))=sD [32]:=rfl
  have ih':=ih (acc++[z]) (by rw [List.take_add_one,hi,← hacc];rfl)
  rw [cast1,txtN_snoc] at ih'
  rw [List.append_assoc acc,List.singleton_append] at ih'
  have hx:(0:Int)≤(i:Int)∧(i:Int) < ((7:Nat):Int):=by omega
  simp only [L115_0,r_ld0,r_lds,r_ln0,r_lns,r_lr0,r_lrs,r_lss,hlt',decide_true,if_true,r_cond,r_len,hlen,r_eqN,r_inxg,if_pos hx,Int.toNat_natCast,r_rowAtg,hr,List.length_cons,List.length_nil,r_cell0,r_call,t145 n hz',r_bnd0,r_addSs ha1,r_litS,h32,r_addSs ha2,r_liti,r_add,hw,ih']
theorem s115 (n:Nat) (r:Rec) (h:okR r=true):FN (n+5) 115 (recR r)=some (0,[.d (sD (txt r))]):=by
 have hs:=okR_small h
 have hl:=txt_len h
 have hx:r.tx.length≤160:=by
  simp only [okR,Bool.and_eq_true,decide_eq_true_eq] at h
  exact h.1.1.2.2.2.2.2.2.2
 have hn:=txtN_len (numsR r) hs
 have e:txt r=txtN (numsR r)++r.tx:=rfl
 have h7:(numsR r).length=7:=rfl
 have l:=l115 n (il r.p) (il r.no) (il r.kd) (il r.dy) (il r.kn) (il r.op) (il r.on) (sD r.tx) (numsR r) h7 hs
 have ha:(txtN (numsR r)).length+r.tx.length≤9223372036854775807:=by omega
 rw [e]
 have e2:(numsR r).map (fun z=>[il z])=[[il r.p],[il r.no],[il r.kd],[il r.dy],[il r.kn],[il r.op],[il r.on]]:=rfl
 rw [e2] at l
 show FN (n+5) 115 [il r.p,il r.no,il r.kd,il r.dy,il r.kn,il r.op,il r.on,sD r.tx]=_
 rw [F115]
 have e7:((7:Nat):Int)=7:=rfl
 simp only [G115,r_loop,r_litSe,r_natN,r_natD,e7,r_liti,r_rows,l,r_bnd0,r_ld0,r_lds,r_addSs ha,r_out]
end Go.VE
namespace Go.VE
open Go.RowKit Go.Proofs Go.Lib
set_option maxRecDepth 100000
theorem s148 (n:Nat) {x y:UInt8} (hx:okB x=true) (hy:okB y=true):FN (n+1) 148 [ub x,ub y]=some (0,[.d (ub (addB x y))]):=by
 have h1:=okB_bnd hx
 have h2:=okB_bnd hy
 have w1:IntKind.i64.wrap ((x.toNat:Int) - 32)=((x.toNat - 32:Nat):Int):=by rw [wrap_id (by omega) (by omega)];omega
 have w2:IntKind.i64.wrap (((x.toNat - 32:Nat):Int)+(y.toNat:Int))=((x.toNat - 32+y.toNat:Nat):Int):=by rw [wrap_id (by omega) (by omega)];omega
 have w3:IntKind.i64.wrap (((x.toNat - 32+y.toNat:Nat):Int) - 32)=((x.toNat - 32+(y.toNat - 32):Nat):Int):=by rw [wrap_id (by omega) (by omega)];omega
 have e1:(((x.toNat - 32+(y.toNat - 32):Nat):Int)).tmod 95=(((x.toNat - 32+(y.toNat - 32)) % 95:Nat):Int):=by rw [Int.tmod_eq_emod_of_nonneg (by omega)];rfl
 have w4:IntKind.i64.wrap (32+(((x.toNat - 32+(y.toNat - 32)) % 95:Nat):Int))=((32+(x.toNat - 32+(y.toNat - 32)) % 95:Nat):Int):=by rw [wrap_id (by omega) (by omega)];omega
 have e2:un (32+(x.toNat - 32+(y.toNat - 32)) % 95)=ub (addB x y):=by rw [un_ub,addB_nat]
 have h95:(95:Int)≠0:=by decide
 rw [un_ub x,un_ub y,F148]
 simp only [G148,r_cvI8 _ x.toNat_lt,r_cvI8 _ y.toNat_lt,r_liti,r_sub,w1,r_add,w2,w3,r_rem _ _ _ _ h95,e1,w4,r_cvU (show 32+(x.toNat - 32+(y.toNat - 32)) % 95 < 256 by omega),e2,r_out]
theorem s133 (n:Nat) {x y:UInt8} (hx:okB x=true) (hy:okB y=true):FN (n+1) 133 [ub y,ub x]=some (0,[.d (ub (subB y x))]):=by
 have h1:=okB_bnd hx
 have h2:=okB_bnd hy
 have w1:IntKind.i64.wrap ((y.toNat:Int) - (x.toNat:Int))=(y.toNat:Int) - (x.toNat:Int):=wrap_id (by omega) (by omega)
 have w2:IntKind.i64.wrap ((y.toNat:Int) - (x.toNat:Int)+95)=((y.toNat+95 - x.toNat:Nat):Int):=by rw [wrap_id (by omega) (by omega)];omega
 have e1:(((y.toNat+95 - x.toNat:Nat):Int)).tmod 95=(((y.toNat+95 - x.toNat) % 95:Nat):Int):=by rw [Int.tmod_eq_emod_of_nonneg (by omega)];rfl
 have w4:IntKind.i64.wrap (32+(((y.toNat+95 - x.toNat) % 95:Nat):Int))=((32+(y.toNat+95 - x.toNat) % 95:Nat):Int):=by rw [wrap_id (by omega) (by omega)];omega
 have e2:un (32+(y.toNat+95 - x.toNat) % 95)=ub (subB y x):=by rw [un_ub,subB_nat]
 have h95:(95:Int)≠0:=by decide
 rw [un_ub x,un_ub y,F133]
 simp only [G133,r_cvI8 _ x.toNat_lt,r_cvI8 _ y.toNat_lt,r_liti,r_sub,w1,r_add,w2,r_rem _ _ _ _ h95,e1,w4,r_cvU (show 32+(y.toNat+95 - x.toNat) % 95 < 256 by omega),e2,r_out]
theorem third_nil (q:Nat):third q []=[]:=rfl
theorem third_one (q:Nat) (x:UInt8):third q [x]=[pick3 q (x,32)]:=rfl
theorem third_two (q:Nat) (x y:UInt8) (r:List UInt8):third q (x::y::r)=pick3 q (x,y)::third q r:=rfl
def E131 (s:List UInt8) (q i:Nat) (acc:List UInt8):List Yr:=[.d (sD s),.d (il q),.n acc.length,.n acc.length,.d (il i),.r (acc.map rU)]
theorem st131 (n:Nat) (s:List UInt8) (q:Nat) (hq:q < 3) (hs:s.all okB=true) (hl:s.length≤1000) (i:Nat) (x y:UInt8) (acc:List UInt8) (hi:s[i]?=some x) (hy:s[i+1]?=some y∨(s[i+1]?=none∧y=32)) (ha:acc.length≤i) (k:Nat→List Yr→Out) :
  L131_0 (RP (n+1)) k (E131 s q i acc)=k 0 (E131 s q (i+2) (acc++[pick3 q (x,y)])):=by
 have hlt:i < s.length:=(List.getElem?_eq_some_iff.1 hi).1
 have ox:okB x=true:=List.all_eq_true.1 hs x (List.mem_of_getElem? hi)
 have oy:okB y=true:=by
  rcases hy with hy | ⟨_,rfl⟩
  ·exact List.all_eq_true.1 hs y (List.mem_of_getElem? hy)
  ·exact okB_32
 have hlt':(i:Int) < (s.length:Int):=by omega
 have w1:IntKind.i64.wrap ((i:Int)+1)=((i+1:Nat):Int):=by rw [wrap_id (by omega) (by omega)];omega
 have w2:IntKind.i64.wrap ((i:Int)+2)=((i+2:Nat):Int):=by rw [wrap_id (by omega) (by omega)];omega
 have fit:∀ b:UInt8,((acc.length+[[ub b]].length)*1≤140737488355328∧acc.length+[[ub b]].length≤9223372036854775807):=fun b=>by simp only [List.length_cons,List.length_nil];omega
 have hm:(acc.map rU).length=acc.length:=List.length_map _
 have key:∀ b:UInt8,E131 s q (i+2) (acc++[b])=[.d (sD s),.d (il q),.n (acc.length+1),.n (acc.length+1),.d (il ((i+2:Nat):Int)),.r (acc.map rU++[[ub b]])]:=fun b=>by
  simp only [E131,List.length_append,List.length_singleton,List.map_append];rfl
 have hj:∀ o:Out,o=k 0 (E131 s q (i+2) (acc++[pick3 q (x,y)]))→o=k 0 (E131 s q (i+2) (acc++[pick3 q (x,y)])):=fun _ h=>h
 rw [key]
 match q,hq with
 | 0,_ =>
  rcases hy with hy | ⟨hy,rfl⟩
  ·have hlt2:i+1 < s.length:=(List.getElem?_eq_some_iff.1 hy).1
   simp only [E131,L131_0,r_ld0,r_lds,r_ln0,r_lns,r_lr0,r_lrs,r_lenSs,r_lss,hlt',decide_true,if_true,r_cond,r_atSs hi,r_liti,r_add,w1,show ((i+1:Nat):Int) < (s.length:Int) by omega,r_atSs hy,r_bnd0,r_out,r_eql,show ((0:Nat):Int)=0 by rfl,r_natN,r_rows,r_len,List.length_cons,List.length_nil,r_eqN,hm,r_seg0,List.take_succ_cons,List.take_nil,r_addN,r_fitsg,Nat.zero_add,w2,r_app]
   rw [if_pos (by omega)]
   rfl
  ·have hlt2:¬ (i+1 < s.length):=by rw [List.getElem?_eq_none_iff] at hy;omega
   simp only [E131,L131_0,r_ld0,r_lds,r_ln0,r_lns,r_lr0,r_lrs,r_lenSs,r_lss,hlt',decide_true,if_true,r_cond,r_atSs hi,r_liti,r_add,w1,show ¬ (((i+1:Nat):Int) < (s.length:Int)) by omega,decide_false,Bool.false_eq_true,if_false,r_litU,r_bnd0,r_out,r_eql,show ((0:Nat):Int)=0 by rfl,r_natN,r_rows,r_len,List.length_cons,List.length_nil,r_eqN,hm,r_seg0,List.take_succ_cons,List.take_nil,r_addN,r_fitsg,Nat.zero_add,w2,r_app]
   rw [if_pos (by omega)]
   rfl
 | 1,_ =>
  rcases hy with hy | ⟨hy,rfl⟩
  ·have hlt2:i+1 < s.length:=(List.getElem?_eq_some_iff.1 hy).1
   simp only [E131,L131_0,r_ld0,r_lds,r_ln0,r_lns,r_lr0,r_lrs,r_lenSs,r_lss,hlt',decide_true,if_true,r_cond,r_atSs hi,r_liti,r_add,w1,show ((i+1:Nat):Int) < (s.length:Int) by omega,r_atSs hy,r_bnd0,r_out,r_eql,show ((1:Nat):Int)=1 by rfl,show ¬ ((1:Int)=0) by decide,decide_false,Bool.false_eq_true,if_false,r_natN,r_rows,r_len,List.length_cons,List.length_nil,r_eqN,hm,r_seg0,List.take_succ_cons,List.take_nil,r_addN,r_fitsg,Nat.zero_add,w2,r_app]
   rw [if_pos (by omega)]
   rfl
  ·have hlt2:¬ (i+1 < s.length):=by rw [List.getElem?_eq_none_iff] at hy;omega
   simp only [E131,L131_0,r_ld0,r_lds,r_ln0,r_lns,r_lr0,r_lrs,r_lenSs,r_lss,hlt',decide_true,if_true,r_cond,r_atSs hi,r_liti,r_add,w1,show ¬ (((i+1:Nat):Int) < (s.length:Int)) by omega,decide_false,Bool.false_eq_true,if_false,r_litU,r_bnd0,r_out,r_eql,show ((1:Nat):Int)=1 by rfl,show ¬ ((1:Int)=0) by decide,r_natN,r_rows,r_len,List.length_cons,List.length_nil,r_eqN,hm,r_seg0,List.take_succ_cons,List.take_nil,r_addN,r_fitsg,Nat.zero_add,w2,r_app]
   rw [if_pos (by omega)]
   rfl
 | 2,_ =>
  rcases hy with hy | ⟨hy,rfl⟩
  ·have hlt2:i+1 < s.length:=(List.getElem?_eq_some_iff.1 hy).1
   simp only [E131,L131_0,r_ld0,r_lds,r_ln0,r_lns,r_lr0,r_lrs,r_lenSs,r_lss,hlt',decide_true,if_true,r_cond,r_atSs hi,r_liti,r_add,w1,show ((i+1:Nat):Int) < (s.length:Int) by omega,r_atSs hy,r_bnd0,r_out,r_eql,show ((2:Nat):Int)=2 by rfl,show ¬ ((2:Int)=0) by decide,show ¬ ((2:Int)=1) by decide,decide_false,Bool.false_eq_true,if_false,r_call,s148 n ox oy,r_natN,r_rows,r_len,List.length_cons,List.length_nil,r_eqN,hm,r_seg0,List.take_succ_cons,List.take_nil,r_addN,r_fitsg,Nat.zero_add,w2,r_app]
   rw [if_pos (by omega)]
   rfl
  ·have hlt2:¬ (i+1 < s.length):=by rw [List.getElem?_eq_none_iff] at hy;omega
   have c:=s148 n ox okB_32
   have e32:ub 32=.lit (.int .u8 32):=rfl
   rw [e32] at c
   simp only [E131,L131_0,r_ld0,r_lds,r_ln0,r_lns,r_lr0,r_lrs,r_lenSs,r_lss,hlt',decide_true,if_true,r_cond,r_atSs hi,r_liti,r_add,w1,show ¬ (((i+1:Nat):Int) < (s.length:Int)) by omega,decide_false,Bool.false_eq_true,if_false,r_litU,r_bnd0,r_out,r_eql,show ((2:Nat):Int)=2 by rfl,show ¬ ((2:Int)=0) by decide,show ¬ ((2:Int)=1) by decide,r_call,c,r_natN,r_rows,r_len,List.length_cons,List.length_nil,r_eqN,hm,r_seg0,List.take_succ_cons,List.take_nil,r_addN,r_fitsg,Nat.zero_add,w2,r_app]
   rw [if_pos (by omega)]
   rfl
theorem l131 (n:Nat) (s:List UInt8) (q:Nat) (hq:q < 3) (hs:s.all okB=true) (hl:s.length≤1000) :
  loopR [L131_0 (RP (n+1))] M0 0 (E131 s q 0 [])=some (0,[.n (third q s).length,.n (third q s).length,.r ((third q s).map rU)]):=by
 have:=loop_ms (σ:=Nat×List UInt8) [L131_0 (RP (n+1))] (fun st=>(0,E131 s q st.1 st.2)) (fun st=>s.length+1 - st.1) (fun st=>st.1≤s.length+1∧st.2.length≤st.1)
  (fun st=>some (0,[.n (st.2++third q (s.drop st.1)).length,.n (st.2++third q (s.drop st.1)).length,.r ((st.2++third q (s.drop st.1)).map rU)])) ?_ M0 (0,[]) ⟨by simp,by simp⟩ (by simp only [M0];omega)
 ·simpa using this
 ·rintro ⟨i,acc⟩ k ⟨h1,h2⟩ ih
  refine ⟨_,rfl,?_⟩
  simp only at h1 h2
  by_cases hi:i < s.length
  ·obtain ⟨x,hx⟩:∃ x,s[i]?=some x:=⟨s[i],by simp [hi]⟩
   cases hy:s[i+1]? with
   | some y =>
    have hd:s.drop i=x::y::s.drop (i+2):=by
     have hi2:i+1 < s.length:=(List.getElem?_eq_some_iff.1 hy).1
     rw [List.drop_eq_getElem_cons hi,List.drop_eq_getElem_cons hi2]
     have e1:s[i]=x:=by have:=hx;rw [List.getElem?_eq_getElem hi] at this;exact Option.some.inj this
     have e2:s[i+1]=y:=by have:=hy;rw [List.getElem?_eq_getElem hi2] at this;exact Option.some.inj this
     rw [e1,e2]
    have hi2:i+1 < s.length:=(List.getElem?_eq_some_iff.1 hy).1
    rw [st131 n s q hq hs hl i x y acc hx (.inl hy) h2 k]
    have:=ih (i+2,acc++[pick3 q (x,y)]) ⟨by simp only;omega,by simp only [List.length_append,List.length_singleton];omega⟩ (by simp only;omega)
    rw [this]
    simp only
    rw [hd,third_two,List.append_assoc,List.singleton_append]
   | none =>
    have hi2:s.length=i+1:=by rw [List.getElem?_eq_none_iff] at hy;omega
    have hd:s.drop i=[x]:=by
     rw [List.drop_eq_getElem_cons hi,List.drop_of_length_le (by omega)]
     have e1:s[i]=x:=by have:=hx;rw [List.getElem?_eq_getElem hi] at this;exact Option.some.inj this
     rw [e1]
    rw [st131 n s q hq hs hl i x 32 acc hx (.inr ⟨hy,rfl⟩) h2 k]
    have:=ih (i+2,acc++[pick3 q (x,32)]) ⟨by simp only;omega,by simp only [List.length_append,List.length_singleton];omega⟩ (by simp only;omega)
    rw [this]
    simp only
    rw [hd,third_one,List.drop_of_length_le (by omega),third_nil,List.append_nil]
  ·have hlt':¬ ((i:Int) < (s.length:Int)):=by omega
   simp only
   rw [List.drop_of_length_le (by omega),third_nil,List.append_nil]
   simp only [E131,L131_0,r_ld0,r_lds,r_ln0,r_lns,r_lr0,r_lrs,r_lenSs,r_lss,hlt',decide_false,Bool.false_eq_true,if_false,r_cond,r_out]
theorem s131 (n:Nat) (s:List UInt8) (q:Nat) (hq:q < 3) (hs:s.all okB=true) (hl:s.length≤1000):FN (n+2) 131 [sD s,il q]=some (0,[.d (sD (third q s))]):=by
 rw [F131]
 have l:=l131 n s q hq hs hl
 have hm:((third q s).map rU).length=(third q s).length:=List.length_map _
 have ht:((third q s).map rU).take (third q s).length=(third q s).map rU:=List.take_of_length_le (by simp)
 simp only [E131,List.length_nil,List.map_nil] at l
 have l':loopR [L131_0 (RP (n+1))] M0 0 [.d (sD s),.d (il q),.n 0,.n 0,.d (il 0),.r []]=_:=l
 simp only [G131,r_loop,r_natN,r_liti,r_rows,l',r_bnd0,r_ln0,r_lns,r_lr0,r_lrs,r_len,hm,r_eqN,if_true,r_seg0,ht,r_strBs,r_out]
theorem loopA0 (b0 b1:(Nat→List Yr→Out)→List Yr→Out) (n:Nat) (ys:List Yr):loopR [b0,b1] (n+1) 0 ys=b0 (loopR [b0,b1] n) ys:=rfl
theorem loopA1 (b0 b1:(Nat→List Yr→Out)→List Yr→Out) (n:Nat) (ys:List Yr):loopR [b0,b1] (n+1) 1 ys=b1 (loopR [b0,b1] n) ys:=rfl
theorem s74 (n:Nat) (r:Rec) (no:Int) (h:okR r=true):FN (n+6) 74 (recR r++[il no])=some (0,[.d (dP (some [spZ no (txt r) 0,spZ no (txt r) 1,spZ no (txt r) 2]))]):=by
 have h1:=s115 n r h
 have hs:=txt_all h
 have hl:=txt_len h
 have t0:FN (n+5) 131 [sD (txt r),il 0]=_:=s131 (n+3) (txt r) 0 (by decide) hs (by omega)
 have t1:FN (n+5) 131 [sD (txt r),il 1]=_:=s131 (n+3) (txt r) 1 (by decide) hs (by omega)
 have t2:FN (n+5) 131 [sD (txt r),il 2]=_:=s131 (n+3) (txt r) 2 (by decide) hs (by omega)
 have w0:IntKind.i64.wrap (0+1)=1:=by decide
 have w1:IntKind.i64.wrap (1+1)=2:=by decide
 have w2:IntKind.i64.wrap (2+1)=3:=by decide
 have f:∀ k:Nat,k≤3→(k*32≤140737488355328∧k≤9223372036854775807):=fun k hk=>by omega
 have f1:(1*32≤140737488355328∧1≤9223372036854775807):=f 1 (by decide)
 have f2:((1+1)*32≤140737488355328∧1+1≤9223372036854775807):=f 2 (by decide)
 have f3:((1+1+1)*32≤140737488355328∧1+1+1≤9223372036854775807):=f 3 (by decide)
 have l:∀ t,t=txt r→loopR [L74_0 (RP (n+5)),L74_1 (RP (n+5))] M0 0 [.d (il no),.d (sD t),.d (il 0)]=some (1,[.n 3,.n 3,.r [[il no,il t.length,sD (third 0 t)],[il no,il t.length,sD (third 1 t)],[il no,il t.length,sD (third 2 t)]]]):=by
  rintro t rfl
  rw [show M0=18446744073709551612+4 from rfl,loopA0]
  simp only [L74_0,r_ld0,r_lds,r_liti,r_lss,show ((0:Int) < 3) by decide,decide_true,r_cond,if_true,r_lenSs,r_call,t0,r_bnd0,r_natN,r_rows,r_len,List.length_cons,List.length_nil,Nat.zero_add,r_eqN,r_seg0,List.take_succ_cons,List.take_nil,r_isNil1,r_fitsg,f1,and_self,r_add,w0]
  rw [show (18446744073709551612+3:Nat)=18446744073709551612+2+1 from rfl,loopA1]
  simp only [L74_1,r_ld0,r_lds,r_ln0,r_lns,r_lr0,r_lrs,r_liti,r_lss,show ((1:Int) < 3) by decide,decide_true,r_cond,if_true,r_lenSs,r_call,t1,r_bnd0,r_natN,r_rows,r_len,List.length_cons,List.length_nil,Nat.zero_add,r_eqN,r_seg0,List.take_succ_cons,List.take_nil,r_addN,r_fitsg,f2,and_self,r_add,w1,r_app,List.cons_append,List.nil_append]
  rw [show (18446744073709551612+2:Nat)=18446744073709551612+1+1 from rfl,loopA1]
  simp only [L74_1,r_ld0,r_lds,r_ln0,r_lns,r_lr0,r_lrs,r_liti,r_lss,show ((2:Int) < 3) by decide,decide_true,r_cond,if_true,r_lenSs,r_call,t2,r_bnd0,r_natN,r_rows,r_len,List.length_cons,List.length_nil,Nat.zero_add,r_eqN,r_seg0,List.take_succ_cons,List.take_nil,r_addN,r_fitsg,f3,and_self,r_add,w2,r_app,List.cons_append,List.nil_append]
  rw [loopA1]
  simp only [L74_1,r_ld0,r_lds,r_ln0,r_lns,r_lr0,r_lrs,r_liti,r_lss,show ¬ ((3:Int) < 3) by decide,decide_false,Bool.false_eq_true,r_cond,if_false,r_out]
 have l':=l (txt r) rfl
 generalize txt r=t at h1 l' ⊢
 obtain ⟨p,nn,kd,dy,kn,op,on,tx⟩:=r
 show FN (n+6) 74 [il p,il nn,il kd,il dy,il kn,il op,il on,sD tx,il no]=_
 simp only [recR] at h1
 rw [F74]
 simp only [G74,r_call,h1,r_bnd0,r_ld0,r_loop,r_liti,l',r_bnd1,r_ln0,r_lns,r_lr0,r_lrs,r_len,List.length_cons,List.length_nil,Nat.zero_add,r_eqN,if_true,r_seg0,List.take_succ_cons,List.take_zero,r_slD,r_out]
 rfl
theorem s14 (n:Nat) (r:Rec) (no:Int):FN (n+7) 14 (recR r++[il no])=some (0,if okR r=true then (if inZ no 0 59=true then [.d (dP (some [spZ no (txt r) 0,spZ no (txt r) 1,spZ no (txt r) 2])),.d (il 0)] else [.d (.lit (.slice none 0 0)),.d (il 1)]) else [.d (.lit (.slice none 0 0)),.d (il 80)]):=by
 have h1:=s35 (n+2) r
 have h2:=s74 n r no
 generalize txt r=t at h2 ⊢
 obtain ⟨p,nn,kd,dy,kn,op,on,tx⟩:=r
 show FN (n+7) 14 [il p,il nn,il kd,il dy,il kn,il op,il on,sD tx,il no]=_
 simp only [recR,List.cons_append,List.nil_append] at h1 h2
 rw [F14]
 simp only [G14,r_call,h1,r_bnd0,r_ld0,r_liti,r_neq,r_cond,s73,r_not,r_litNil,r_out]
 by_cases hr:okR ⟨p,nn,kd,dy,kn,op,on,tx⟩=true
 ·by_cases hn:inZ no 0 59=true
  ·simp only [hr,hn,if_true,ne_eq,not_true,decide_false,Bool.false_eq_true,if_false,Bool.not_true,h2 hr,r_bnd0,r_ld0]
  ·simp [hr,hn]
 ·simp [hr]
end Go.VE
namespace Go.VE
open Go.RowKit Go.Proofs Go.Lib
set_option maxRecDepth 100000
theorem l79 (n q o:Nat) (hqo:okP q o) (a1 a2 a5 a6:D) (A B:List UInt8) (hA:A.all okB=true) (hB:B.all okB=true) (hl:A.length=B.length) (hn:A.length≤1000) :
  loopR [L79_0 (RP (n+1))] M0 0 [.d (il q),.d (il o),.d a1,.d a2,.d (sD A),.d a5,.d a6,.d (sD B),.n 0,.n 0,.d (il 0),.r []] =
   some (0,[.d a1,.d a2,.d (sD A),.n (2*A.length),.n (2*A.length),.r ((prs q o (A.zip B)).map rU)]):=by
 have hz:(A.zip B).length=A.length:=by rw [List.length_zip];omega
 have:=range_loop (β:=List UInt8) (A.zip B) (by omega) (L79_0 (RP (n+1))) (fun i acc=>[.d (il q),.d (il o),.d a1,.d a2,.d (sD A),.d a5,.d a6,.d (sD B),.n acc.length,.n acc.length,.d (il i),.r (acc.map rU)])
  (fun i acc=>acc.length=2*i)
  (fun _ r acc=>some (0,[.d a1,.d a2,.d (sD A),.n (acc++prs q o r).length,.n (acc++prs q o r).length,.r ((acc++prs q o r).map rU)])) ?_ ?_ M0 [] rfl (M0_big (by omega))
 ·simp only [List.length_nil,List.map_nil,List.nil_append,prs_len,hz] at this
  exact this
 ·intro acc k hacc
  rw [hz] at hacc ⊢
  simp only [L79_0,r_ld0,r_lds,r_lenSs,r_lss,Int.lt_irrefl,decide_false,r_cond,Bool.false_eq_true,if_false,r_out,r_ln0,r_lns,r_lr0,r_lrs,prs,List.flatMap_nil,List.append_nil]
 ·intro i x r acc k hi hd hlt hw hacc ih
  obtain ⟨a,b⟩:=x
  rw [hz] at hlt
  obtain ⟨ha,hb⟩:=List.getElem?_zip_eq_some.1 hi
  have oa:okB a=true:=List.all_eq_true.1 hA a (List.mem_of_getElem? ha)
  have ob:okB b=true:=List.all_eq_true.1 hB b (List.mem_of_getElem? hb)
  have hlt':(i:Int) < (A.length:Int):=by omega
  have hm:(acc.map rU).length=acc.length:=List.length_map _
  have hf:(acc.length+(1+1))*1≤140737488355328∧acc.length+(1+1)≤9223372036854775807:=by omega
  have fin:∀ x y:UInt8,pairOf q o a b=[x,y]→k 0 [.d (il q),.d (il o),.d a1,.d a2,.d (sD A),.d a5,.d a6,.d (sD B),.n (acc.length+(1+1)),.n (acc.length+(1+1)),.d (il ((i:Int)+1)),.r (acc.map rU++[[ub x],[ub y]])] =
    some (0,[.d a1,.d a2,.d (sD A),.n (acc++prs q o ((a,b)::r)).length,.n (acc++prs q o ((a,b)::r)).length,.r ((acc++prs q o ((a,b)::r)).map rU)]):=fun x y hxy=>by
   have h:=ih (acc++[x,y]) (by simp [hacc];omega)
   rw [cast1,List.map_append,List.length_append] at h
   have e:acc++prs q o ((a,b)::r)=acc++[x,y]++prs q o r:=by
    rw [List.append_assoc];unfold prs;rw [List.flatMap_cons,hxy]
   rw [e]
   exact h
  rcases hqo with ⟨rfl,rfl⟩ | ⟨rfl,rfl⟩ | ⟨rfl,rfl⟩
  ·have f:=fin a b rfl
   have ea:∀ k:D→Out,(RP (n+1)).eqs [1,1] false [il ((0:Nat):Int),il ((1:Nat):Int)] [il 0,il 2] k=k (bl false):=fun k=>by rw [r_eqs2];rfl
   have eb:∀ k:D→Out,(RP (n+1)).eqs [1,1] false [il ((0:Nat):Int),il ((1:Nat):Int)] [il 1,il 2] k=k (bl false):=fun k=>by rw [r_eqs2];rfl
   simp only [L79_0,r_ld0,r_lds,r_ln0,r_lns,r_lr0,r_lrs,r_lenSs,r_lss,hlt',decide_true,r_cond,if_true,r_atSs ha,r_atSs hb,r_liti,ea,eb,r_cond,decide_false,Bool.false_eq_true,if_false,r_bnd0,r_out,r_natN,r_rows,r_len,List.length_cons,List.length_nil,Nat.zero_add,r_eqN,hm,r_seg0,List.take_succ_cons,List.take_zero,r_addN,r_fitsg,if_pos hf,r_add,hw,r_app]
   exact f
  ·have f:=fin a (subB b a) rfl
   have ea:∀ k:D→Out,(RP (n+1)).eqs [1,1] false [il ((0:Nat):Int),il ((2:Nat):Int)] [il 0,il 2] k=k (bl true):=fun k=>by rw [r_eqs2];rfl
   have eb:∀ k:D→Out,(RP (n+1)).eqs [1,1] false [il ((0:Nat):Int),il ((2:Nat):Int)] [il 1,il 2] k=k (bl false):=fun k=>by rw [r_eqs2];rfl
   simp only [L79_0,r_ld0,r_lds,r_ln0,r_lns,r_lr0,r_lrs,r_lenSs,r_lss,hlt',decide_true,r_cond,if_true,r_atSs ha,r_atSs hb,r_liti,ea,eb,r_cond,and_self,decide_false,Bool.false_eq_true,if_false,r_call,s133 n oa ob,r_bnd0,r_out,r_natN,r_rows,r_len,List.length_cons,List.length_nil,Nat.zero_add,r_eqN,hm,r_seg0,List.take_succ_cons,List.take_zero,r_addN,r_fitsg,if_pos hf,r_add,hw,r_app]
   exact f
  ·have f:=fin (subB b a) a rfl
   have ea:∀ k:D→Out,(RP (n+1)).eqs [1,1] false [il ((1:Nat):Int),il ((2:Nat):Int)] [il 0,il 2] k=k (bl false):=fun k=>by rw [r_eqs2];rfl
   have eb:∀ k:D→Out,(RP (n+1)).eqs [1,1] false [il ((1:Nat):Int),il ((2:Nat):Int)] [il 1,il 2] k=k (bl true):=fun k=>by rw [r_eqs2];rfl
   simp only [L79_0,r_ld0,r_lds,r_ln0,r_lns,r_lr0,r_lrs,r_lenSs,r_lss,hlt',decide_true,r_cond,if_true,r_atSs ha,r_atSs hb,r_liti,ea,eb,r_cond,and_self,decide_false,Bool.false_eq_true,if_false,r_call,s133 n oa ob,r_bnd0,r_out,r_natN,r_rows,r_len,List.length_cons,List.length_nil,Nat.zero_add,r_eqN,hm,r_seg0,List.take_succ_cons,List.take_zero,r_addN,r_fitsg,if_pos hf,r_add,hw,r_app]
   exact f
theorem s79 (n q o:Nat) (hqo:okP q o) (no no' z':D) (z:Int) (A B:List UInt8) (hA:A.all okB=true) (hB:B.all okB=true) (hz:0≤z∧z≤1000) (h1:(A.length:Int)=(z+1) / 2) (h2:A.length=B.length) :
  FN (n+2) 79 [il q,il o,no,il z,sD A,no',z',sD B]=some (0,[.d (sD (mended q o z.toNat A B))]):=by
 rw [F79]
 have hl:=l79 n q o hqo no (il z) no' z' A B hA hB h2 (by omega)
 have hp:(prs q o (A.zip B)).length=2*A.length:=by rw [prs_len,List.length_zip];omega
 have hpl:((prs q o (A.zip B)).map rU).length=2*A.length:=by rw [List.length_map,hp]
 simp only [G79,r_loop,r_natN,r_liti,r_rows,hl,r_bnd0,r_ld0,r_lds,r_ln0,r_lns,r_lr0,r_lrs,r_len,hpl,r_eqN,if_true,r_cutH _ _ _ _ (show 0≤z∧z≤((2*A.length:Nat):Int) by omega),r_seg0,← List.map_take,r_strBs,r_out,prs_mended]
theorem s16 (n:Nat) (q:Int) (s:Strp) (o:Int) (t:Strp):FN (n+3) 16 [il q,il s.no,il s.sz,sD s.tx,il o,il t.no,il t.sz,sD t.tx]=some (0,[.d (sD (mendZ q s o t).1),.d (il (mendZ q s o t).2)]):=by
 rw [F16]
 simp only [G16,r_call,r_liti,s73,s78,r_bnd0,r_ld0,r_lds,r_not,r_cond,r_out,r_eql,r_neq,r_gtr,r_litSe,mendZ]
 by_cases h1:inZ q 0 2=true
 ·by_cases h2:inZ o 0 2=true
  ·by_cases h3:q=o
   ·simp [h1,h2,h3]
   ·by_cases h4:wholeZ q s=true
    ·by_cases h5:wholeZ o t=true
     ·by_cases h6:s.no=t.no
      ·by_cases h7:s.sz=t.sz
       ·obtain ⟨_,hz,hl,ha⟩:=wholeZ_iff h4
        obtain ⟨_,_,hl',ha'⟩:=wholeZ_iff h5
        rw [h7] at hl hz
        by_cases h8:o < q
        ·have c:=s79 n o.toNat q.toNat (okP_of h2 h1 h8) (il t.no) (il s.no) (il s.sz) t.sz t.tx s.tx ha' ha (by omega) hl' (by omega)
         rw [toN h1,toN h2] at c
         simp only [h1,h2,h3,h4,h5,h6,h7,h8,ne_eq,not_true,not_false_eq_true,decide_true,decide_false,Bool.not_true,Bool.false_eq_true,if_false,if_true,Bool.and_self,r_bnd0,r_ld0,r_lds]
         rw [h6,h7] at c
         rw [c]
         simp only [r_bnd0,r_ld0]
        ·have h9:q < o:=by omega
         have c:=s79 n q.toNat o.toNat (okP_of h1 h2 h9) (il s.no) (il t.no) (il t.sz) t.sz s.tx t.tx ha ha' (by omega) hl (by omega)
         rw [toN h1,toN h2] at c
         simp only [h1,h2,h3,h4,h5,h6,h7,h8,ne_eq,not_true,not_false_eq_true,decide_true,decide_false,Bool.not_true,Bool.false_eq_true,if_false,if_true,Bool.and_self,r_bnd0,r_ld0,r_lds]
         rw [h6] at c
         rw [c]
         simp only [r_bnd0,r_ld0]
       ·simp [h1,h2,h3,h4,h5,h6,h7]
      ·simp [h1,h2,h3,h4,h5,h6]
     ·simp [h1,h2,h3,h4,h5]
    ·simp [h1,h2,h3,h4]
  ·simp [h1,h2]
 ·simp [h1]
theorem l17 (n:Nat) (a b:Option (List Strp)) (hl:(a.getD []).length=(b.getD []).length) (hn:(a.getD []).length≤4611686018427387904) :
  loopR [L17_0 (RP n)] M0 0 [.d (dP a),.d (dP b),.d (il (a.getD []).length),.d (il 0)]=allO (decide (a.getD []=b.getD [])):=by
 have:=range_loop (β:=Unit) (a.getD []) hn (L17_0 (RP n)) (fun i _=>[.d (dP a),.d (dP b),.d (il (a.getD []).length),.d (il i)]) (fun _ _=>True)
  (fun i r _=>allO (decide (r=(b.getD []).drop i))) ?_ ?_ M0 () trivial (M0_big hn)
 ·simpa using this
 ·intro _ k _
  have:(b.getD []).drop (a.getD []).length=[]:=by rw [List.drop_of_length_le (by omega)]
  simp only [L17_0,r_ld0,r_lds,r_lss,Int.lt_irrefl,decide_false,Bool.false_eq_true,if_false,r_cond,r_out,this,decide_true,allO]
 ·intro i x r _ k hi hd hlt hw _ ih
  have hlt':(i:Int) < ((a.getD []).length:Int):=by omega
  obtain ⟨y,hy⟩:∃ y,(b.getD [])[i]?=some y:=⟨(b.getD [])[i]'(by omega),by simp⟩
  have hdy:(b.getD []).drop i=y::(b.getD []).drop (i+1):=by
   have hi2:i < (b.getD []).length:=by omega
   rw [List.drop_eq_getElem_cons hi2]
   have e1:(b.getD [])[i]=y:=by have:=hy;rw [List.getElem?_eq_getElem hi2] at this;exact Option.some.inj this
   rw [e1]
  have ih':=ih () trivial
  rw [cast1] at ih'
  have e3:∀ (s t:Strp) (k:D→Out),(RP n).eqs [1,1,2] true [il s.no,il s.sz,sD s.tx] [il t.no,il t.sz,sD t.tx] k=k (bl (!decide (s=t))):=fun s t k=>r_eqSp true s t k
  simp only [L17_0,r_ld0,r_lds,r_lss,hlt',decide_true,if_true,r_cond,rowP hi,rowP hy,cP0,cP1,cP2,e3,r_liti,r_litb,r_add,hw,ih',r_out,hdy,List.cons.injEq]
  by_cases h:x=y
  ·simp [h]
  ·simp [h,allO]
theorem s17 (n:Nat) (a b:Option (List Strp)) (hn:(a.getD []).length≤4611686018427387904):FN (n+1) 17 [dP a,dP b]=some (0,[.d (bl (decide (a.getD []=b.getD [])))]):=by
 rw [F17]
 simp only [G17,lenL,r_neq,r_cond,r_loop,r_liti,r_litb,r_out]
 by_cases hl:(a.getD []).length=(b.getD []).length
 ·rw [l17 n a b hl hn]
  by_cases h:a.getD []=b.getD []
  ·simp [h,allO]
  ·have:¬ (((a.getD []).length:Int)≠((b.getD []).length:Int)):=by omega
   simp only [this,decide_false,Bool.false_eq_true,if_false,h,allO,r_bnd0,r_ld0]
 ·have h1:((a.getD []).length:Int)≠((b.getD []).length:Int):=by omega
  have h2:a.getD []≠b.getD []:=fun e=>hl (by rw [e])
  simp only [h1,ne_eq,not_false_eq_true,decide_true,if_true,h2,decide_false]
end Go.VE
namespace Go.VE
open Go.RowKit Go.Proofs
set_option maxRecDepth 1000000
def TK:List UInt8:=[97,32,107,101,121]
def recS:Rec:=⟨2,0,5,10,12,0,0,TK⟩
def TX:List UInt8:=txt recS
def T0:List UInt8:=third 0 TX
def T1:List UInt8:=third 1 TX
def T2:List UInt8:=third 2 TX
theorem ve80:FN 14 80 []=some (0,[.d (il 2),.d (il 0),.d (il 5),.d (il 10),.d (il 12),.d (il 0),.d (il 0),.d (sD TK)]):=by kernel_rfl
theorem ve13:FN 14 13 [il 2,il 0,il 5,il 10,il 12,il 0,il 0,sD TK,il 0]=some (0,[.d (.sl 3 [[il 0,il 21,sD T0],[il 0,il 21,sD T1],[il 0,il 21,sD T2]]),.d (il 0)]):=by kernel_rfl
theorem ve15a:FN 14 15 [il 0,il 0,il 21,sD T0,il 2,il 0,il 21,sD T2]=some (0,[.d (sD TX),.d (il 0)]):=by kernel_rfl
theorem ve15b:FN 14 15 [il 2,il 0,il 21,sD T2,il 1,il 0,il 21,sD T1]=some (0,[.d (sD TX),.d (il 0)]):=by kernel_rfl
theorem ve15c:FN 14 15 [il 0,il 0,il 21,sD T0,il 0,il 0,il 21,sD T0]=some (0,[.d (sD []),.d (il 1)]):=by kernel_rfl
theorem ve18a:FN 14 18 [il 0,il 0,il 21,sD T1]=some (0,[.d (il 0)]):=by kernel_rfl
theorem ve18b:FN 14 18 [il 1,il 0,il 21,sD T0]=some (0,[.d (il 84)]):=by kernel_rfl
theorem ve21:FN 14 21 [.lit (.slice none 0 0),.lit (.slice none 0 0),.lit (.slice none 0 0),il 0,il 0,il 0,.lit (.slice none 0 0),il 2,il 0,il 5,il 10,il 12,il 0,il 0,sD TK]=some (0,[.d (.sl 3 [[il 0,il 21,sD T0]]),.d (.sl 3 [[il 0,il 21,sD T1]]),.d (.sl 3 [[il 0,il 21,sD T2]]),.d (il 0),.d (il 0),.d (il 0),.d (.sl 8 [[il 2,il 0,il 5,il 10,il 12,il 0,il 0,sD TK]]),.d (il 0)]):=by kernel_rfl
theorem ve29a:FN 14 29 [.sl 3 [[il 0,il 21,sD T0]],.sl 3 [[il 0,il 21,sD T1]],.sl 3 [[il 0,il 21,sD T2]],il 0,il 0,il 0,.sl 1 [[il 3],[il 2],[il 0],[il 0],[il 0],[il 2],[il 0]]]=some (0,[.d (.sl 3 [[il 0,il 21,sD T0]]),.d (.sl 3 []),.d (.sl 3 [[il 0,il 21,sD T2]]),.d (il 0),.d (il 0),.d (il 0)]):=by kernel_rfl
theorem ve23a:FN 14 23 [.sl 3 [[il 0,il 21,sD T0]],.sl 3 [],.sl 3 [[il 0,il 21,sD T2]],il 0,il 0,il 0]=some (0,[.d (.sl 3 [[il 0,il 21,sD T0]]),.d (.sl 3 [[il 0,il 21,sD T1]]),.d (.sl 3 [[il 0,il 21,sD T2]]),.d (il 1),.d (il 1),.d (il 1),.d (.sl 8 [[il 2,il 0,il 5,il 10,il 12,il 0,il 0,sD TK]])]):=by kernel_rfl
theorem ve29b:FN 14 29 [.sl 3 [[il 0,il 21,sD T0]],.sl 3 [[il 0,il 21,sD T1]],.sl 3 [[il 0,il 21,sD T2]],il 0,il 0,il 0,.sl 1 [[il 3],[il 2],[il 0],[il 0],[il 0],[il 1],[il 4]]]=some (0,[.d (.sl 3 [[il 0,il 21,sD T0]]),.d (.sl 3 []),.d (.sl 3 [[il 0,il 21,sD (T2.take 4)]]),.d (il 0),.d (il 0),.d (il 0)]):=by kernel_rfl
theorem ve23b:FN 14 23 [.sl 3 [[il 0,il 21,sD T0]],.sl 3 [],.sl 3 [[il 0,il 21,sD (T2.take 4)]],il 0,il 0,il 0]=some (0,[.d (.lit (.slice none 0 0)),.d (.lit (.slice none 0 0)),.d (.lit (.slice none 0 0)),.d (il 0),.d (il 0),.d (il 0),.d (.lit (.slice none 0 0))]):=by kernel_rfl
theorem ve27:FN 14 27 [.sl 3 [[il 0,il 21,sD T0]],.sl 3 [[il 0,il 21,sD T1]],.sl 3 [[il 0,il 21,sD T2]],il 0,il 0,il 0]=some (0,[.d (.sl 3 [[il 0,il 21,sD T0]]),.d (.sl 3 [[il 0,il 21,sD T1]]),.d (.sl 3 [[il 0,il 21,sD T2]]),.d (il 1),.d (il 1),.d (il 1)]):=by kernel_rfl
theorem ve29c:FN 14 29 [.sl 3 [[il 0,il 21,sD T0]],.sl 3 [[il 0,il 21,sD T1]],.sl 3 [[il 0,il 21,sD T2]],il 1,il 1,il 1,.sl 1 [[il 1]]]=some (0,[.d (.sl 3 [[il 0,il 21,sD T0]]),.d (.lit (.slice none 0 0)),.d (.sl 3 [[il 0,il 21,sD T2]]),.d (il 1),.d (il 0),.d (il 1)]):=by kernel_rfl
theorem ve23c:FN 14 23 [.sl 3 [[il 0,il 21,sD T0]],.lit (.slice none 0 0),.sl 3 [[il 0,il 21,sD T2]],il 1,il 0,il 1]=some (0,[.d (.sl 3 [[il 0,il 21,sD T0]]),.d (.sl 3 [[il 0,il 21,sD T1]]),.d (.sl 3 [[il 0,il 21,sD T2]]),.d (il 1),.d (il 1),.d (il 1),.d (.sl 8 [[il 2,il 0,il 5,il 10,il 12,il 0,il 0,sD TK]])]):=by kernel_rfl
theorem ve37a:FN 14 37 [il 2]=some (0,[.d (il 2),.d (.lit (.slice none 0 0)),.d (.lit (.slice none 0 0)),.d (.lit (.slice none 0 0)),.d (il 0),.d (il 0),.d (il 0),.d (.lit (.slice none 0 0)),.d (il 0),.d (il 0),.d (il 0),.d (il 0),.d (il 0),.d (il 0),.d (il 0),.d (il 0),.d (il 0),.d (il 0),.d (il 0),.d (il 0),.d (il 0),.d (il 0),.d (il 0),.d (il 0),.d (il 0),.d (il 0),.d (il 0),.d (il 0),.d (il 0),.d (il 0),.d (il 0),.d (il 0),.d (il 0),.d (il 0),.d (il 0),.d (il 0),.d (il 0),.d (il 0),.d (il 0),.d (il 0),.d (il 0),.d (il 0),.d (il 0),.d (il 0),.d (il 0)]):=by kernel_rfl
theorem ve39:FN 14 39 [il 2,.lit (.slice none 0 0),.lit (.slice none 0 0),.lit (.slice none 0 0),il 0,il 0,il 0,.lit (.slice none 0 0),il 0,il 0,il 0,il 0,il 0,il 0,il 0,il 0,il 0,il 0,il 0,il 0,il 0,il 0,il 0,il 0,il 0,il 0,il 0,il 0,il 0,il 0,il 0,il 0,il 0,il 0,il 0,il 0,il 0,il 0,il 0,il 0,il 0,il 0,il 0,il 0,il 2,il 0,il 5,il 10,il 12,il 0,il 0,sD TK]=some (0,[.d (il 2),.d (.sl 3 [[il 0,il 21,sD T0]]),.d (.sl 3 [[il 0,il 21,sD T1]]),.d (.sl 3 [[il 0,il 21,sD T2]]),.d (il 0),.d (il 0),.d (il 0),.d (.sl 8 [[il 2,il 0,il 5,il 10,il 12,il 0,il 0,sD TK]]),.d (il 0),.d (il 0),.d (il 0),.d (il 0),.d (il 0),.d (il 0),.d (il 0),.d (il 0),.d (il 0),.d (il 0),.d (il 0),.d (il 0),.d (il 0),.d (il 0),.d (il 0),.d (il 0),.d (il 0),.d (il 0),.d (il 0),.d (il 0),.d (il 0),.d (il 0),.d (il 0),.d (il 0),.d (il 0),.d (il 0),.d (il 0),.d (il 0),.d (il 0),.d (il 0),.d (il 0),.d (il 0),.d (il 0),.d (il 0),.d (il 0),.d (il 0),.d (il 2),.d (il 0),.d (il 5),.d (il 10),.d (il 12),.d (il 0),.d (il 0),.d (sD TK),.d (il 0)]):=by kernel_rfl
theorem ve41:FN 14 41 [il 2,.sl 3 [[il 0,il 21,sD T0]],.sl 3 [[il 0,il 21,sD T1]],.sl 3 [[il 0,il 21,sD T2]],il 0,il 0,il 0,.sl 8 [[il 2,il 0,il 5,il 10,il 12,il 0,il 0,sD TK]],il 0,il 0,il 0,il 0,il 0,il 0,il 0,il 0,il 0,il 0,il 0,il 0,il 0,il 0,il 0,il 0,il 0,il 0,il 0,il 0,il 0,il 0,il 0,il 0,il 0,il 0,il 0,il 0,il 0,il 0,il 0,il 0,il 0,il 0,il 0,il 0,il 3,il 2]=some (0,[.d (il 2),.d (.sl 3 [[il 0,il 21,sD T0]]),.d (.sl 3 [[il 0,il 21,sD T1]]),.d (.sl 3 [[il 0,il 21,sD T2]]),.d (il 1),.d (il 1),.d (il 1),.d (.sl 8 [[il 2,il 0,il 5,il 10,il 12,il 0,il 0,sD TK]]),.d (il 0),.d (il 0),.d (il 0),.d (il 0),.d (il 0),.d (il 0),.d (il 0),.d (il 0),.d (il 0),.d (il 0),.d (il 0),.d (il 0),.d (il 0),.d (il 0),.d (il 0),.d (il 0),.d (il 0),.d (il 0),.d (il 0),.d (il 0),.d (il 0),.d (il 0),.d (il 0),.d (il 0),.d (il 0),.d (il 0),.d (il 0),.d (il 0),.d (il 0),.d (il 0),.d (il 0),.d (il 0),.d (il 0),.d (il 0),.d (il 0),.d (il 0),.d (il 2),.d (il 3),.d (il 2),.d (il 1),.d (il 1),.d (.lit (.slice none 0 0)),.d (il 0)]):=by kernel_rfl
theorem ve37b:FN 14 37 [il 3]=some (0,[.d (il 3),.d (.lit (.slice none 0 0)),.d (.lit (.slice none 0 0)),.d (.lit (.slice none 0 0)),.d (il 0),.d (il 0),.d (il 0),.d (.lit (.slice none 0 0)),.d (il 0),.d (il 0),.d (il 0),.d (il 0),.d (il 0),.d (il 0),.d (il 0),.d (il 0),.d (il 0),.d (il 0),.d (il 0),.d (il 0),.d (il 0),.d (il 0),.d (il 0),.d (il 0),.d (il 0),.d (il 0),.d (il 0),.d (il 0),.d (il 0),.d (il 0),.d (il 0),.d (il 0),.d (il 0),.d (il 0),.d (il 0),.d (il 0),.d (il 0),.d (il 0),.d (il 0),.d (il 0),.d (il 0),.d (il 0),.d (il 0),.d (il 0),.d (il 0)]):=by kernel_rfl
theorem ve43a:FN 14 43 [il 3,.lit (.slice none 0 0),.lit (.slice none 0 0),.lit (.slice none 0 0),il 0,il 0,il 0,.lit (.slice none 0 0),il 0,il 0,il 0,il 0,il 0,il 0,il 0,il 0,il 0,il 0,il 0,il 0,il 0,il 0,il 0,il 0,il 0,il 0,il 0,il 0,il 0,il 0,il 0,il 0,il 0,il 0,il 0,il 0,il 0,il 0,il 0,il 0,il 0,il 0,il 0,il 0,il 2,il 3,il 2,il 1,il 1,.lit (.slice none 0 0)]=some (0,[.d (il 3),.d (.lit (.slice none 0 0)),.d (.lit (.slice none 0 0)),.d (.lit (.slice none 0 0)),.d (il 0),.d (il 0),.d (il 0),.d (.lit (.slice none 0 0)),.d (il 0),.d (il 0),.d (il 0),.d (il 0),.d (il 0),.d (il 0),.d (il 0),.d (il 0),.d (il 0),.d (il 0),.d (il 0),.d (il 0),.d (il 0),.d (il 0),.d (il 1),.d (il 0),.d (il 0),.d (il 0),.d (il 0),.d (il 0),.d (il 0),.d (il 0),.d (il 0),.d (il 0),.d (il 0),.d (il 0),.d (il 0),.d (il 0),.d (il 0),.d (il 0),.d (il 0),.d (il 0),.d (il 0),.d (il 0),.d (il 0),.d (il 0),.d (.sl 6 [[il 3,il 2,il 2,il 0,il 0,.lit (.slice none 0 0)]]),.d (il 0)]):=by kernel_rfl
theorem ve43b:FN 14 43 [il 2,.sl 3 [[il 0,il 21,sD T0]],.sl 3 [[il 0,il 21,sD T1]],.sl 3 [[il 0,il 21,sD T2]],il 1,il 1,il 1,.sl 8 [[il 2,il 0,il 5,il 10,il 12,il 0,il 0,sD TK]],il 0,il 0,il 0,il 0,il 0,il 0,il 0,il 0,il 0,il 0,il 0,il 0,il 0,il 0,il 0,il 0,il 0,il 0,il 0,il 0,il 0,il 0,il 0,il 0,il 0,il 0,il 0,il 0,il 0,il 0,il 0,il 0,il 0,il 0,il 0,il 0,il 3,il 2,il 2,il 0,il 0,.lit (.slice none 0 0)]=some (0,[.d (il 2),.d (.sl 3 [[il 0,il 21,sD T0]]),.d (.sl 3 [[il 0,il 21,sD T1]]),.d (.sl 3 [[il 0,il 21,sD T2]]),.d (il 1),.d (il 1),.d (il 1),.d (.sl 8 [[il 2,il 0,il 5,il 10,il 12,il 0,il 0,sD TK]]),.d (il 0),.d (il 0),.d (il 0),.d (il 0),.d (il 0),.d (il 0),.d (il 0),.d (il 0),.d (il 0),.d (il 0),.d (il 0),.d (il 0),.d (il 0),.d (il 0),.d (il 0),.d (il 0),.d (il 0),.d (il 0),.d (il 0),.d (il 0),.d (il 0),.d (il 0),.d (il 0),.d (il 0),.d (il 0),.d (il 0),.d (il 0),.d (il 0),.d (il 0),.d (il 0),.d (il 0),.d (il 0),.d (il 0),.d (il 0),.d (il 0),.d (il 0),.d (.sl 6 [[il 2,il 3,il 2,il 1,il 0,.sl 8 [[il 2,il 0,il 5,il 10,il 12,il 0,il 0,sD TK]]]]),.d (il 0)]):=by kernel_rfl
theorem ve43c:FN 14 43 [il 3,.lit (.slice none 0 0),.lit (.slice none 0 0),.lit (.slice none 0 0),il 0,il 0,il 0,.lit (.slice none 0 0),il 0,il 0,il 0,il 0,il 0,il 0,il 0,il 0,il 0,il 0,il 0,il 0,il 0,il 0,il 1,il 0,il 0,il 0,il 0,il 0,il 0,il 0,il 0,il 0,il 0,il 0,il 0,il 0,il 0,il 0,il 0,il 0,il 0,il 0,il 0,il 0,il 2,il 3,il 2,il 1,il 0,.sl 8 [[il 2,il 0,il 5,il 10,il 12,il 0,il 0,sD TK]]]=some (0,[.d (il 3),.d (.sl 3 [[il 0,il 21,sD T0]]),.d (.sl 3 [[il 0,il 21,sD T1]]),.d (.sl 3 [[il 0,il 21,sD T2]]),.d (il 1),.d (il 1),.d (il 1),.d (.sl 8 [[il 2,il 0,il 5,il 10,il 12,il 0,il 0,sD TK]]),.d (il 0),.d (il 0),.d (il 0),.d (il 0),.d (il 0),.d (il 0),.d (il 0),.d (il 0),.d (il 0),.d (il 0),.d (il 0),.d (il 0),.d (il 0),.d (il 0),.d (il 1),.d (il 0),.d (il 0),.d (il 0),.d (il 0),.d (il 0),.d (il 0),.d (il 0),.d (il 0),.d (il 0),.d (il 0),.d (il 0),.d (il 0),.d (il 0),.d (il 0),.d (il 0),.d (il 0),.d (il 0),.d (il 0),.d (il 0),.d (il 0),.d (il 0),.d (.lit (.slice none 0 0)),.d (il 0)]):=by kernel_rfl
end Go.VE
