/- Book: Join: the program and the reference. -/
import Derived.Test.YtipddjojdgapiaaGreatDoorMg1
import Derived.Test.YtipddjojdgapiaaGreatDoorMt
import Derived.KernelRfl
import Derived.Shelf.Strings.BuilderF
import Derived.Shelf.LaysM
import Derived.Shelf.LaysC
import Derived.Shelf.Strconv.Itoa3
import Derived.Shelf.Strconv.AtoiAll
import Derived.Shelf.Strings.Search2
import Derived.Test.YtipddjojdgapiaaGreatDoorChecked
namespace Go.VE
open Go.RowKit Go.Proofs Go.Lib
set_option maxRecDepth 100000
noncomputable abbrev FD (n:Nat):D→List Sh→List D→Out:=FnDof Tryz.prog (cf3 tb Tryz.prog) (FN n)
theorem FnDof_fn {P:Program} {cfg:Cf3} {Fn:Nat→List D→Out} {f:Nat} {caps:List D} {sh:List Sh} {ds:List D} {vs:List VD} (h3:f < 2000000) (hv:vdsOf sh ds=some vs):FnDof P cfg Fn (.fn f caps) sh ds=FnV cfg Fn f (vs++caps.map .one):=by
 simp only [FnDof,hv,if_pos h3]
theorem FD_gen {T:Tb3} {P:Program} {Fn:Nat→List D→Out} {f:Nat} {caps:List D} {sh sh':List Sh} {ds:List D} {vs:List VD} {xs:List D} {z:D} (hlt:f < 1000000) (hv:vdsOf sh ds=some vs) (hash:T.ash f=some sh') (hx:flatV sh' (vs++caps.map .one)=some xs)
  (hr:T.rsk f=[[(false,[.d])]]) (hf:Fn f xs=some (0,[.d z])):FnDof P (cf3 T P) Fn (.fn f caps) sh ds=some (0,[.d z]):=by
 have h1:(cf3 T P).ash f=some sh':=by simp only [cf3,if_pos hlt,hash]
 have h2:isOneD ((cf3 T P).rsk f)=true:=by simp only [cf3,hr];rfl
 have h3:f < 2000000:=Nat.lt_of_lt_of_le hlt (by decide)
 rw [FnDof_fn h3 hv]
 simp only [FnV,h1,hx,h2,if_true,hf]
theorem s120 (n:Nat) (x r:Rec):FN (n+1) 120 (recR x++recR r)=some (0,[.d (bl (decide (x.p=r.p∧x.no=r.no)))]):=by
 obtain ⟨a1,a2,a3,a4,a5,a6,a7,a8⟩:=x
 obtain ⟨b1,b2,b3,b4,b5,b6,b7,b8⟩:=r
 show FN (n+1) 120 [il a1,il a2,il a3,il a4,il a5,il a6,il a7,sD a8,il b1,il b2,il b3,il b4,il b5,il b6,il b7,sD b8]=_
 rw [F120]
 simp only [G120,r_eqs2,r_out]
 rfl
theorem d120 (n:Nat) (x r:Rec):FD (n+1) (.fn 120 [.dp (recR r) 0]) [.agg 8] (recR x)=some (0,[.d (bl (decide (x.p=r.p∧x.no=r.no)))]) :=
 FD_gen (sh':=[.agg 8,.ptr 8]) (vs:=[.agg (recR x)]) (xs:=recR x++recR r) (by decide) rfl (by kernel_rfl) rfl (by kernel_rfl) (s120 n x r)
theorem s119 (n:Nat) (o:Option (List Rec)) (r:Rec) (hl:(o.getD []).length≤4611686018427387904):FN (n+2) 119 [dR o,.fn 120 [.dp (recR r) 0]]=some (0,[.d (il (fdZ (fdx r.p r.no (o.getD []))))]):=by
 rw [F119]
 have:=range_loop (β:=Unit) (o.getD []) hl (L119_0 (RP (n+1))) (fun i _=>[.d (dR o),.d (.fn 120 [.dp (recR r) 0]),.d (il (o.getD []).length),.d (il i)]) (fun _ _=>True) (fun i t _=>fdO i (fdx r.p r.no t)) ?_ ?_ M0 () trivial (M0_big hl)
 ·have this':loopR [L119_0 (RP (n+1))] M0 0 [.d (dR o),.d (.fn 120 [.dp (recR r) 0]),.d (il (o.getD []).length),.d (il 0)]=fdO 0 (fdx r.p r.no (o.getD [])):=this
  simp only [G119,lenL,r_loop,r_liti,this']
  cases fdx r.p r.no (o.getD []) with
  | none=>rfl
  | some j=>simp [fdO,fdZ]
 ·intro _ k _
  simp only [L119_0,r_ld0,r_lds,r_lss,Int.lt_irrefl,decide_false,Bool.false_eq_true,if_false,r_cond,r_out]
  rfl
 ·intro i c t _ k hi hd hlt hw _ ih
  have hlt':(i:Int) < ((o.getD []).length:Int):=by omega
  have ih':=ih () trivial
  rw [cast1] at ih'
  have cc:FnDof Tryz.prog (cf3 tb Tryz.prog) (FN (n+1)) (.fn 120 [.dp (recR r) 0]) [.agg 8] [il c.p,il c.no,il c.kd,il c.dy,il c.kn,il c.op,il c.on,sD c.tx]=_:=d120 n c r
  simp only [L119_0,r_ld0,r_lds,r_lss,hlt',decide_true,if_true,r_cond,rowR hi,cR0,cR1,cR2,cR3,cR4,cR5,cR6,cR7,r_callD,cc,r_bnd0,decide_eq_true_eq,r_out,r_liti,r_add,hw,ih',fdx]
  by_cases h:c.p=r.p∧c.no=r.no
  ·rw [if_pos h,if_pos h];rfl
  ·rw [if_neg h,if_neg h]
   cases fdx r.p r.no t with
   | none=>rfl
   | some j=>simp only [Option.map_some,fdO];congr 5;omega
def jn (a:List Rec):List Rec→Option (List Rec)
 | []=>some []
 | r::t=>match a.find? (fun x=>sameI x r) with
  | none=>(jn a t).map (r::·)
  | some x=>if x=r then jn a t else none
theorem jn_nil:∀ b,jn [] b=some b
 | []=>rfl
 | r::t=>by rw [jn,List.find?_nil];simp only [jn_nil t,Option.map_some]
theorem jn_spec {a:List Rec} (ha:isLog a=true):∀ b,match jn a b with
  | none=>clash a b
  | some f=>¬ clash a b∧f=freshG a b
 | []=>by
  refine ⟨?_,rfl⟩
  rintro ⟨x,_,r,hr,_⟩
  cases hr
 | r::t=>by
  have ih:=jn_spec ha t
  unfold jn
  cases hf:a.find? (fun x=>sameI x r) with
  | none =>
   have hn:∀ x∈a,¬ sameI x r=true:=fun x hx=>List.find?_eq_none.1 hf x hx
   have hany:(a.any fun x=>sameI x r)=false:=List.any_eq_false.2 hn
   have hfr:freshG a (r::t)=r::freshG a t:=by
    unfold freshG
    rw [List.filter_cons,if_pos (by rw [hany];rfl)]
   have hcl:clash a (r::t)↔clash a t:=by
    constructor
    ·rintro ⟨x,hx,y,hy,h1,h2⟩
     rcases List.mem_cons.1 hy with rfl | hy
     ·exact absurd h1 (hn x hx)
     ·exact ⟨x,hx,y,hy,h1,h2⟩
    ·rintro ⟨x,hx,y,hy,h1,h2⟩
     exact ⟨x,hx,y,List.mem_cons_of_mem _ hy,h1,h2⟩
   cases hj:jn a t with
   | none =>
    rw [hj] at ih
    exact hcl.2 ih
   | some f =>
    rw [hj] at ih
    simp only [Option.map_some]
    exact ⟨fun h=>ih.1 (hcl.1 h),by rw [hfr,ih.2]⟩
  | some x =>
   have hx:x∈a:=List.mem_of_find?_eq_some hf
   have hs:sameI x r=true:=List.find?_some (p:=fun x=>sameI x r) hf
   have hany:(a.any fun x=>sameI x r)=true:=List.any_eq_true.2 ⟨x,hx,hs⟩
   have hfr:freshG a (r::t)=freshG a t:=by
    unfold freshG
    rw [List.filter_cons,if_neg (by rw [hany];simp)]
   simp only
   by_cases he:x=r
   ·rw [if_pos he]
    have hcl:clash a (r::t)↔clash a t:=by
     constructor
     ·rintro ⟨z,hz,y,hy,h1,h2⟩
      rcases List.mem_cons.1 hy with rfl | hy
      ·exact absurd (same_eq ha hz (by rw [←he];exact hx) h1) h2
      ·exact ⟨z,hz,y,hy,h1,h2⟩
     ·rintro ⟨z,hz,y,hy,h1,h2⟩
      exact ⟨z,hz,y,List.mem_cons_of_mem _ hy,h1,h2⟩
    cases hj:jn a t with
    | none =>
     rw [hj] at ih
     exact hcl.2 ih
    | some f =>
     rw [hj] at ih
     exact ⟨fun h=>ih.1 (hcl.1 h),by rw [hfr,ih.2]⟩
   ·rw [if_neg he]
    exact ⟨x,hx,r,by simp,hs,he⟩
def joinJ (a b:List Rec):List Rec×Int:=match jn a b with
 | none=>([],82)
 | some f=>if 60 < (a++f).length then ([],2) else (srt (a++f),0)
theorem joinJ_P {a b:List Rec} (ha:isLog a=true):joinJ a b=joinP a b:=by
 have h:=jn_spec ha b
 unfold joinJ joinP
 cases hj:jn a b with
 | none =>
  rw [hj] at h
  rw [if_pos h]
 | some f =>
  rw [hj] at h
  simp only
  rw [if_neg h.1,h.2]
  rfl
def joinZ (a b:List Rec):List Rec×Int:=if (bookB a&&bookB b)=true then joinJ a b else ([],81)
def jnO (acc:List Rec):Option (List Rec)→Out
 | none=>some (0,[.d (il 82)])
 | some f=>some (1,[.n (acc++f).length,.n (acc++f).length,.r ((acc++f).map recR)])
theorem l58_0 (n:Nat) (a b:Option (List Rec)) (hla:(a.getD []).length≤60) (hlb:(b.getD []).length≤60) (l0:List Rec) (h0:l0.length≤60) (c119:∀ r,FN n 119 [dR a,.fn 120 [.dp (recR r) 0]]=some (0,[.d (il (fdZ (fdx r.p r.no (a.getD []))))])) :
  loopR [L58_0 (RP n)] M0 0 [.d (dR a),.n l0.length,.n l0.length,.d (dR b),.d (il (b.getD []).length),.d (il 0),.r (l0.map recR)]=jnO l0 (jn (a.getD []) (b.getD [])):=by
 have:=range_loop (β:=List Rec) (b.getD []) (by omega) (L58_0 (RP n)) (fun i acc=>[.d (dR a),.n acc.length,.n acc.length,.d (dR b),.d (il (b.getD []).length),.d (il i),.r (acc.map recR)]) (fun i acc=>acc.length≤60+i)
  (fun _ t acc=>jnO acc (jn (a.getD []) t)) ?_ ?_ M0 l0 (by omega) (M0_big (by omega))
 ·exact this
 ·intro acc k _
  simp only [L58_0,r_ld0,r_lds,r_ln0,r_lns,r_lr0,r_lrs,r_lss,Int.lt_irrefl,decide_false,Bool.false_eq_true,if_false,r_cond,r_out,jn,jnO,List.append_nil]
 ·intro i c t acc k hi hd hlt hw hI ih
  have hlt':(i:Int) < ((b.getD []).length:Int):=by omega
  have cc:FN n 119 [dR a,.fn 120 [.dp [il c.p,il c.no,il c.kd,il c.dy,il c.kn,il c.op,il c.on,sD c.tx] 0]]=_:=c119 c
  have hf:=fdx_find c (a.getD [])
  have hm:(acc.map recR).length=acc.length:=List.length_map _
  have f1:(acc.length+1)*72≤140737488355328∧acc.length+1≤9223372036854775807:=by omega
  rw [jn]
  cases hx:fdx c.p c.no (a.getD []) with
  | none =>
   rw [hx] at hf cc
   simp only at hf
   simp only [fdZ] at cc
   rw [hf]
   have ih':=ih (acc++[c]) (by simp;omega)
   rw [cast1,List.length_append,List.length_singleton,List.map_append,List.map_cons,List.map_nil] at ih'
   have e:jnO acc ((jn (a.getD []) t).map (c::·))=jnO (acc++[c]) (jn (a.getD []) t):=by
    cases jn (a.getD []) t with
    | none=>rfl
    | some f=>simp only [Option.map_some,jnO,List.append_assoc,List.singleton_append]
   simp only
   rw [e,← ih']
   simp only [L58_0,r_ld0,r_lds,r_ln0,r_lns,r_lr0,r_lrs,r_lss,hlt',decide_true,if_true,r_cond,rowR hi,cR0,cR1,cR2,cR3,cR4,cR5,cR6,cR7,r_fnD,r_dpD,r_call,cc,r_bnd0,r_litsg,List.all_cons,List.all_nil,yl_i,Bool.and_true,r_liti,show ((-1:Int) < 0) by decide,r_natN,r_rows,r_len,List.length_cons,List.length_nil,Nat.zero_add,r_eqN,hm,r_seg0,List.take_succ_cons,List.take_zero,r_addN,r_fitsg,if_pos f1,r_add,hw,r_app]
   rfl
  | some j =>
   rw [hx] at hf cc
   simp only at hf
   simp only [fdZ] at cc
   obtain ⟨x,hj,hf⟩:=hf
   rw [hf]
   have ih':=ih acc (by omega)
   rw [cast1] at ih'
   have hnj:¬ ((j:Int) < 0):=by omega
   simp only [L58_0,r_ld0,r_lds,r_ln0,r_lns,r_lr0,r_lrs,r_lss,hlt',decide_true,if_true,r_cond,rowR hi,cR0,cR1,cR2,cR3,cR4,cR5,cR6,cR7,r_fnD,r_dpD,r_call,cc,r_bnd0,r_litsg,List.all_cons,List.all_nil,yl_i,Bool.and_true,r_liti,hnj,decide_false,Bool.false_eq_true,if_false,rowR hj,eqR,r_out,r_add,hw,ih']
   by_cases he:x=c
   ·simp only [he,decide_true,Bool.not_true,Bool.false_eq_true,if_false,if_true]
   ·simp only [he,decide_false,Bool.not_false,if_true,if_false,jnO]
theorem l58_1 (n:Nat) (b:Option (List Rec)) (hlb:(b.getD []).length≤60) (c119:∀ r,FN n 119 [dR none,.fn 120 [.dp (recR r) 0]]=some (0,[.d (il (-1))])) :
  loopR [L58_1 (RP n),L58_2 (RP n)] M0 0 [.d (dR none),.d (dR none),.d (dR b),.d (il (b.getD []).length),.d (il 0)]=match b.getD [] with
   | []=>some (1,[.d (dR none)])
   | c::t=>some (2,[.n (c::t).length,.n (c::t).length,.r ((c::t).map recR)]):=by
 refine two_loop (b.getD []) (by omega) (L58_1 (RP n)) (L58_2 (RP n)) [.d (dR none),.d (dR none),.d (dR b),.d (il (b.getD []).length),.d (il 0)] (fun i=>[.d (dR none),.n ((b.getD []).take i).length,.n ((b.getD []).take i).length,.d (dR b),.d (il (b.getD []).length),.d (il i),.r (((b.getD []).take i).map recR)]) (fun i=>0 < i)
  (fun _ _=>match b.getD [] with
   | []=>some (1,[.d (dR none)])
   | c::t=>some (2,[.n (c::t).length,.n (c::t).length,.r ((c::t).map recR)])) ?_ ?_ ?_ ?_
 ·intro h k
  rw [h]
  simp only [L58_1,r_ld0,r_lds,h,List.length_nil,r_lss,show ¬ ((0:Int) < ((0:Nat):Int)) by decide,decide_false,Bool.false_eq_true,if_false,r_cond,r_out]
 ·intro c r k h ih
  have hi:(b.getD [])[0]?=some c:=by rw [h];rfl
  have hlt:(0:Int) < (((b.getD []).length:Nat):Int):=by rw [h];simp only [List.length_cons];omega
  have rr:∀ k:List D→Out,(RP n).rowD 8 (dR b) (il 0) k=k (recR c):=fun k=>rowR (i:=0) hi k
  have w1:IntKind.i64.wrap (0+1)=1:=by decide
  have cc:FN n 119 [dR none,.fn 120 [.dp [il c.p,il c.no,il c.kd,il c.dy,il c.kn,il c.op,il c.on,sD c.tx] 0]]=_:=c119 c
  have hnil:∀ k:Out,(RP n).nilD (dR none) k=k:=fun k=>rfl
  have hf:1*72≤140737488355328∧1≤9223372036854775807:=by decide
  have ih':=ih (by decide)
  rw [take_one h] at ih'
  simp only [L58_1,r_ld0,r_lds,r_lss,hlt,decide_true,if_true,r_cond,rr,cR0,cR1,cR2,cR3,cR4,cR5,cR6,cR7,r_fnD,r_dpD,r_call,cc,r_bnd0,r_litsg,List.all_cons,List.all_nil,yl_i,Bool.and_true,r_liti,show ((-1:Int) < 0) by decide,r_natN,r_rows,r_len,List.length_cons,List.length_nil,Nat.zero_add,r_eqN,hnil,r_seg0,List.take_succ_cons,List.take_zero,r_isNil1,r_fitsg,if_pos hf,r_add,w1]
  exact ih'
 ·intro h0 k
  simp only [L58_2,r_ld0,r_lds,r_ln0,r_lns,r_lr0,r_lrs,r_lss,Int.lt_irrefl,decide_false,Bool.false_eq_true,if_false,r_cond,r_out,List.take_length]
  cases h:b.getD [] with
  | nil=>rw [h] at h0;exact absurd h0 (by decide)
  | cons c t=>rfl
 ·intro i c r k hi0 hi hd hlt hw _ ih
  have hlt':(i:Int) < (((b.getD []).length:Nat):Int):=by omega
  have cc:FN n 119 [dR none,.fn 120 [.dp [il c.p,il c.no,il c.kd,il c.dy,il c.kn,il c.op,il c.on,sD c.tx] 0]]=_:=c119 c
  have hm:(((b.getD []).take i).map recR).length=((b.getD []).take i).length:=List.length_map _
  have hlen:((b.getD []).take i).length=i:=by rw [List.length_take];omega
  have f1:(((b.getD []).take i).length+1)*72≤140737488355328∧((b.getD []).take i).length+1≤9223372036854775807:=by omega
  have ih':=ih (Nat.succ_pos i)
  rw [cast1,take_snoc hi,List.length_append,List.length_singleton,List.map_append,List.map_cons,List.map_nil] at ih'
  simp only [L58_2,r_ld0,r_lds,r_ln0,r_lns,r_lr0,r_lrs,r_lss,hlt',decide_true,if_true,r_cond,rowR hi,cR0,cR1,cR2,cR3,cR4,cR5,cR6,cR7,r_fnD,r_dpD,r_call,cc,r_bnd0,r_litsg,List.all_cons,List.all_nil,yl_i,Bool.and_true,r_liti,show ((-1:Int) < 0) by decide,r_natN,r_rows,r_len,List.length_cons,List.length_nil,Nat.zero_add,r_eqN,hm,r_seg0,List.take_succ_cons,List.take_zero,r_addN,r_fitsg,if_pos f1,r_add,hw,r_app]
  exact ih'
theorem tail_sort (n:Nat) (l:List Rec) (hl:l.length≤120) (hd:l.length≤60→isLog l=true):∃ q,((RP (n+7)).lenD (.sl 8 (l.map recR)) fun x7=>(RP (n+7)).bin .gtr false x7 (il 60) fun x8=>(RP (n+7)).cond x8 (some (0,[.d (.lit (.slice none 0 0)),.d (il 2)])) ((RP (n+7)).bnd (FN (n+7) 121 [.sl 8 (l.map recR)]) [fun y9=>some (0,[.d ((RP (n+7)).ld y9 0),.d (il 0)])]))=some (0,[.d (dR q),.d (il (if 60 < l.length then 2 else 0))])∧q.getD []=if 60 < l.length then [] else srt l:=by
 by_cases h:60 < l.length
 ·have h':(60:Int) < (l.length:Int):=by omega
  refine ⟨none,?_,by rw [if_pos h];rfl⟩
  rw [if_pos h,r_lenD,List.length_map]
  simp only [r_gtr,h',decide_true,r_cond,if_true]
  rfl
 ·have h':¬ ((60:Int) < (l.length:Int)):=by omega
  have hlg:=hd (by omega)
  have c:FN (n+7) 121 [.sl 8 (l.map recR)]=some (0,[.d (dR (some (insort l)))]):=t121 (n+5) l (by omega) (log_diff hlg)
  refine ⟨some (insort l),?_,by rw [if_neg h,Option.getD_some,insort_eq hlg]⟩
  rw [if_neg h,r_lenD,List.length_map]
  simp only [r_gtr,h',decide_false,r_cond,Bool.false_eq_true,if_false,c,r_bnd0,r_ld0]
theorem jn_log {a b f:List Rec} (ha:isLog a=true) (hb:isLog b=true) (hj:jn a b=some f) (hl:(a++f).length≤60):isLog (a++f)=true:=by
 have h:=jn_spec ha b
 rw [hj] at h
 obtain ⟨_,rfl⟩:=h
 exact joined_log ha hb hl
theorem jn_le (a:List Rec):∀ (b:List Rec) {f:List Rec},jn a b=some f→f.length≤b.length
 | [],f,h=>by
  simp only [jn,Option.some.injEq] at h
  subst h
  exact Nat.le_refl _
 | r::t,f,h=>by
  unfold jn at h
  split at h
  ·obtain ⟨g,hg,rfl⟩:=Option.map_eq_some_iff.1 h
   have:=jn_le a t hg
   simp only [List.length_cons];omega
  ·split at h
   ·have:=jn_le a t h
    simp only [List.length_cons];omega
   ·cases h
theorem s58 (n:Nat) (a b:Option (List Rec)) (hla:(a.getD []).length≤4611686018427387904) (hlb:(b.getD []).length≤4611686018427387904):∃ q,FN (n+8) 58 [dR a,dR b]=some (0,[.d (dR q),.d (il (joinZ (a.getD []) (b.getD [])).2)])∧q.getD []=(joinZ (a.getD []) (b.getD [])).1:=by
 have ca:=s60 n a hla
 have cb:=s60 n b hlb
 have hk0:chkZ true=0:=rfl
 have hk1:chkZ false=81:=rfl
 rw [F58]
 unfold joinZ
 by_cases hba:bookB (a.getD [])=true
 ·rw [hba] at ca ⊢
  by_cases hbb:bookB (b.getD [])=true
  ·rw [hbb] at cb ⊢
   have hA:=(bookB_iff _).1 hba
   have hB:=(bookB_iff _).1 hbb
   have h60:=log_len hA.1
   have h61:=log_len hB.1
   rw [if_pos (show (true&&true)=true from rfl)]
   cases a with
   | some l =>
    simp only [Option.getD_some] at *
    have c:=s83 (n+6) l (by omega)
    have hm:(l.map recR).length=l.length:=List.length_map _
    have lp:=l58_0 (n+7) (some l) b (by simpa using h60) h61 l h60 (fun r=>s119 (n+5) (some l) r (by simpa using hla))
    simp only [Option.getD_some] at lp
    unfold joinJ
    cases hj:jn l (b.getD []) with
    | none =>
     rw [hj] at lp
     refine ⟨none,?_,rfl⟩
     simp only [G58,lenL,r_call,ca,cb,hk0,c,r_bnd0,r_ld0,r_neq,ne_eq,not_true,decide_false,Bool.false_eq_true,if_false,r_cond,r_lr0,r_len,hm,r_loop,r_liti,lp,jnO,r_litNil,r_out]
     rfl
    | some f =>
     rw [hj] at lp
     have hfl:=jn_le l _ hj
     have hm2:((l++f).map recR).length=(l++f).length:=List.length_map _
     have ht:((l++f).map recR).take (l++f).length=(l++f).map recR:=List.take_of_length_le (by simp)
     obtain ⟨q,e1,e2⟩:=tail_sort n (l++f) (by rw [List.length_append];omega) (fun h=>jn_log hA.1 hB.1 hj h)
     refine ⟨q,?_,?_⟩
     ·simp only [G58,lenL,r_call,ca,cb,hk0,c,r_bnd0,r_ld0,r_neq,ne_eq,not_true,decide_false,Bool.false_eq_true,if_false,r_cond,r_lr0,r_len,hm,r_loop,r_liti,lp,jnO,r_bnd1,r_ln0,r_lns,r_lr0,r_lrs,hm2,r_eqN,if_true,r_seg0,ht,r_slD,r_litNil,r_out]
      rw [e1]
      by_cases h:60 < (l++f).length
      ·simp only [if_pos h]
      ·simp only [if_neg h]
     ·rw [e2]
      by_cases h:60 < (l++f).length
      ·simp only [if_pos h]
      ·simp only [if_neg h]
   | none =>
    simp only [Option.getD_none] at *
    have c:=s83n (n+6)
    have hnil:(dR none:D)=.lit (.slice none 0 0):=rfl
    have lp:=l58_1 (n+7) b h61 (fun r=>s119 (n+5) none r (by simp))
    unfold joinJ
    rw [jn_nil]
    simp only [List.nil_append]
    cases hb:b.getD [] with
    | nil =>
     rw [hb] at lp
     have c2:FN (n+7) 121 [.lit (.slice none 0 0)]=_:=t121n (n+5)
     rw [hnil] at ca lp c2
     refine ⟨none,?_,?_⟩
     ·rw [hnil]
      simp only [G58,lenL,r_call,ca,cb,hk0,c,r_bnd0,r_bnd1,r_ld0,r_neq,ne_eq,not_true,decide_false,Bool.false_eq_true,if_false,r_cond,r_loop,r_liti,hb,lp,r_lenN,r_gtr,show ¬ ((60:Int) < 0) by decide,c2,r_litNil,r_out]
      rfl
     ·rw [if_neg (by decide)];rfl
    | cons x t =>
     rw [hb] at lp hbb hB h61
     rw [hnil] at ca lp
     have hm2:((x::t).map recR).length=(x::t).length:=List.length_map _
     have ht:((x::t).map recR).take (x::t).length=(x::t).map recR:=List.take_of_length_le (by simp)
     obtain ⟨q,e1,e2⟩:=tail_sort n (x::t) (by omega) (fun _=>hB.1)
     refine ⟨q,?_,?_⟩
     ·rw [hnil]
      simp only [G58,lenL,r_call,ca,cb,hk0,c,r_bnd0,r_bnd1,r_ld0,r_neq,ne_eq,not_true,decide_false,Bool.false_eq_true,if_false,r_cond,r_loop,r_liti,hb,lp,r_bnd2,r_ln0,r_lns,r_lr0,r_lrs,r_len,hm2,r_eqN,if_true,r_seg0,ht,r_slD,r_litNil,r_out]
      rw [e1]
      by_cases h:60 < (x::t).length
      ·simp only [if_pos h]
      ·simp only [if_neg h]
     ·rw [e2]
      by_cases h:60 < (x::t).length
      ·simp only [if_pos h]
      ·simp only [if_neg h]
  ·rw [Bool.not_eq_true] at hbb
   rw [hbb] at cb ⊢
   refine ⟨none,?_,rfl⟩
   simp only [G58,r_call,ca,cb,hk0,hk1,r_bnd0,r_ld0,r_neq,ne_eq,not_true,show ¬ ((81:Int)=0) by decide,not_false_eq_true,decide_true,decide_false,Bool.false_eq_true,if_false,if_true,r_cond,r_liti,r_litNil,r_out]
   rfl
 ·rw [Bool.not_eq_true] at hba
  rw [hba] at ca ⊢
  refine ⟨none,?_,rfl⟩
  simp only [G58,r_call,ca,hk1,r_bnd0,r_ld0,r_neq,ne_eq,show ¬ ((81:Int)=0) by decide,not_false_eq_true,decide_true,if_true,r_cond,r_liti,r_litNil,r_out]
  rfl
end Go.VE
namespace Go.VE
open Go.RowKit Go.Proofs Go.Lib
set_option maxRecDepth 100000
def srtZ (l:List Rec):List Rec×Int:=if isLog l=true then (srt l,0) else ([],81)
theorem s59 (n:Nat) (o:Option (List Rec)) (hl:(o.getD []).length≤4611686018427387904):∃ q,FN (n+7) 59 [dR o]=some (0,[.d (dR q),.d (il (srtZ (o.getD [])).2)])∧q.getD []=(srtZ (o.getD [])).1:=by
 have h:=s122 n o hl
 rw [F59]
 unfold srtZ
 by_cases hk:isLog (o.getD [])=true
 ·have h60:=log_len hk
  have c:FN (n+6) 121 [dR o]=some (0,[.d (dR (o.map insort))]):=by
   cases o with
   | none=>exact t121n (n+4)
   | some l=>exact t121 (n+4) l (by simp only [Option.getD_some] at h60;omega) (log_diff hk)
  rw [hk] at h
  rw [if_pos hk]
  refine ⟨o.map insort,?_,?_⟩
  ·simp only [G59,r_call,h,c,r_bnd0,r_ld0,r_not,Bool.not_true,r_cond,Bool.false_eq_true,if_false,r_liti,r_out]
  ·cases o with
   | none=>rfl
   | some l=>exact insort_eq hk
 ·rw [Bool.not_eq_true] at hk
  rw [hk] at h
  rw [if_neg (by simp [hk])]
  refine ⟨none,?_,rfl⟩
  simp only [G59,r_call,h,r_bnd0,r_ld0,r_not,Bool.not_false,r_cond,if_true,r_liti,r_litNil,r_out]
  rfl
end Go.VE
namespace Go.VE
open Go.RowKit Go.Proofs
set_option maxRecDepth 1000000
def TK:List UInt8:=[97,32,107,101,121]
def recS:Rec:=⟨2,0,5,10,12,0,0,TK⟩
def TX:List UInt8:=txt recS
def T0:List UInt8:=third 0 TX
def T1:List UInt8:=third 1 TX
def T2:List UInt8:=third 2 TX
theorem ve80:FN 14 80 []=some (0,[.d (il 2),.d (il 0),.d (il 5),.d (il 10),.d (il 12),.d (il 0),.d (il 0),.d (sD TK)]):=by kernel_rfl
theorem ve13:FN 14 13 [il 2,il 0,il 5,il 10,il 12,il 0,il 0,sD TK,il 0]=some (0,[.d (.sl 3 [[il 0,il 21,sD T0],[il 0,il 21,sD T1],[il 0,il 21,sD T2]]),.d (il 0)]):=by kernel_rfl
theorem ve15a:FN 14 15 [il 0,il 0,il 21,sD T0,il 2,il 0,il 21,sD T2]=some (0,[.d (sD TX),.d (il 0)]):=by kernel_rfl
theorem ve15b:FN 14 15 [il 2,il 0,il 21,sD T2,il 1,il 0,il 21,sD T1]=some (0,[.d (sD TX),.d (il 0)]):=by kernel_rfl
theorem ve15c:FN 14 15 [il 0,il 0,il 21,sD T0,il 0,il 0,il 21,sD T0]=some (0,[.d (sD []),.d (il 1)]):=by kernel_rfl
theorem ve18a:FN 14 18 [il 0,il 0,il 21,sD T1]=some (0,[.d (il 0)]):=by kernel_rfl
theorem ve18b:FN 14 18 [il 1,il 0,il 21,sD T0]=some (0,[.d (il 84)]):=by kernel_rfl
theorem ve21:FN 14 21 [.lit (.slice none 0 0),.lit (.slice none 0 0),.lit (.slice none 0 0),il 0,il 0,il 0,.lit (.slice none 0 0),il 2,il 0,il 5,il 10,il 12,il 0,il 0,sD TK]=some (0,[.d (.sl 3 [[il 0,il 21,sD T0]]),.d (.sl 3 [[il 0,il 21,sD T1]]),.d (.sl 3 [[il 0,il 21,sD T2]]),.d (il 0),.d (il 0),.d (il 0),.d (.sl 8 [[il 2,il 0,il 5,il 10,il 12,il 0,il 0,sD TK]]),.d (il 0)]):=by kernel_rfl
theorem ve29a:FN 14 29 [.sl 3 [[il 0,il 21,sD T0]],.sl 3 [[il 0,il 21,sD T1]],.sl 3 [[il 0,il 21,sD T2]],il 0,il 0,il 0,.sl 1 [[il 3],[il 2],[il 0],[il 0],[il 0],[il 2],[il 0]]]=some (0,[.d (.sl 3 [[il 0,il 21,sD T0]]),.d (.sl 3 []),.d (.sl 3 [[il 0,il 21,sD T2]]),.d (il 0),.d (il 0),.d (il 0)]):=by kernel_rfl
theorem ve23a:FN 14 23 [.sl 3 [[il 0,il 21,sD T0]],.sl 3 [],.sl 3 [[il 0,il 21,sD T2]],il 0,il 0,il 0]=some (0,[.d (.sl 3 [[il 0,il 21,sD T0]]),.d (.sl 3 [[il 0,il 21,sD T1]]),.d (.sl 3 [[il 0,il 21,sD T2]]),.d (il 1),.d (il 1),.d (il 1),.d (.sl 8 [[il 2,il 0,il 5,il 10,il 12,il 0,il 0,sD TK]])]):=by kernel_rfl
theorem ve29b:FN 14 29 [.sl 3 [[il 0,il 21,sD T0]],.sl 3 [[il 0,il 21,sD T1]],.sl 3 [[il 0,il 21,sD T2]],il 0,il 0,il 0,.sl 1 [[il 3],[il 2],[il 0],[il 0],[il 0],[il 1],[il 4]]]=some (0,[.d (.sl 3 [[il 0,il 21,sD T0]]),.d (.sl 3 []),.d (.sl 3 [[il 0,il 21,sD (T2.take 4)]]),.d (il 0),.d (il 0),.d (il 0)]):=by kernel_rfl
theorem ve23b:FN 14 23 [.sl 3 [[il 0,il 21,sD T0]],.sl 3 [],.sl 3 [[il 0,il 21,sD (T2.take 4)]],il 0,il 0,il 0]=some (0,[.d (.lit (.slice none 0 0)),.d (.lit (.slice none 0 0)),.d (.lit (.slice none 0 0)),.d (il 0),.d (il 0),.d (il 0),.d (.lit (.slice none 0 0))]):=by kernel_rfl
theorem ve27:FN 14 27 [.sl 3 [[il 0,il 21,sD T0]],.sl 3 [[il 0,il 21,sD T1]],.sl 3 [[il 0,il 21,sD T2]],il 0,il 0,il 0]=some (0,[.d (.sl 3 [[il 0,il 21,sD T0]]),.d (.sl 3 [[il 0,il 21,sD T1]]),.d (.sl 3 [[il 0,il 21,sD T2]]),.d (il 1),.d (il 1),.d (il 1)]):=by kernel_rfl
theorem ve29c:FN 14 29 [.sl 3 [[il 0,il 21,sD T0]],.sl 3 [[il 0,il 21,sD T1]],.sl 3 [[il 0,il 21,sD T2]],il 1,il 1,il 1,.sl 1 [[il 1]]]=some (0,[.d (.sl 3 [[il 0,il 21,sD T0]]),.d (.lit (.slice none 0 0)),.d (.sl 3 [[il 0,il 21,sD T2]]),.d (il 1),.d (il 0),.d (il 1)]):=by kernel_rfl
theorem ve23c:FN 14 23 [.sl 3 [[il 0,il 21,sD T0]],.lit (.slice none 0 0),.sl 3 [[il 0,il 21,sD T2]],il 1,il 0,il 1]=some (0,[.d (.sl 3 [[il 0,il 21,sD T0]]),.d (.sl 3 [[il 0,il 21,sD T1]]),.d (.sl 3 [[il 0,il 21,sD T2]]),.d (il 1),.d (il 1),.d (il 1),.d (.sl 8 [[il 2,il 0,il 5,il 10,il 12,il 0,il 0,sD TK]])]):=by kernel_rfl
theorem ve37a:FN 14 37 [il 2]=some (0,[.d (il 2),.d (.lit (.slice none 0 0)),.d (.lit (.slice none 0 0)),.d (.lit (.slice none 0 0)),.d (il 0),.d (il 0),.d (il 0),.d (.lit (.slice none 0 0)),.d (il 0),.d (il 0),.d (il 0),.d (il 0),.d (il 0),.d (il 0),.d (il 0),.d (il 0),.d (il 0),.d (il 0),.d (il 0),.d (il 0),.d (il 0),.d (il 0),.d (il 0),.d (il 0),.d (il 0),.d (il 0),.d (il 0),.d (il 0),.d (il 0),.d (il 0),.d (il 0),.d (il 0),.d (il 0),.d (il 0),.d (il 0),.d (il 0),.d (il 0),.d (il 0),.d (il 0),.d (il 0),.d (il 0),.d (il 0),.d (il 0),.d (il 0),.d (il 0)]):=by kernel_rfl
theorem ve39:FN 14 39 [il 2,.lit (.slice none 0 0),.lit (.slice none 0 0),.lit (.slice none 0 0),il 0,il 0,il 0,.lit (.slice none 0 0),il 0,il 0,il 0,il 0,il 0,il 0,il 0,il 0,il 0,il 0,il 0,il 0,il 0,il 0,il 0,il 0,il 0,il 0,il 0,il 0,il 0,il 0,il 0,il 0,il 0,il 0,il 0,il 0,il 0,il 0,il 0,il 0,il 0,il 0,il 0,il 0,il 2,il 0,il 5,il 10,il 12,il 0,il 0,sD TK]=some (0,[.d (il 2),.d (.sl 3 [[il 0,il 21,sD T0]]),.d (.sl 3 [[il 0,il 21,sD T1]]),.d (.sl 3 [[il 0,il 21,sD T2]]),.d (il 0),.d (il 0),.d (il 0),.d (.sl 8 [[il 2,il 0,il 5,il 10,il 12,il 0,il 0,sD TK]]),.d (il 0),.d (il 0),.d (il 0),.d (il 0),.d (il 0),.d (il 0),.d (il 0),.d (il 0),.d (il 0),.d (il 0),.d (il 0),.d (il 0),.d (il 0),.d (il 0),.d (il 0),.d (il 0),.d (il 0),.d (il 0),.d (il 0),.d (il 0),.d (il 0),.d (il 0),.d (il 0),.d (il 0),.d (il 0),.d (il 0),.d (il 0),.d (il 0),.d (il 0),.d (il 0),.d (il 0),.d (il 0),.d (il 0),.d (il 0),.d (il 0),.d (il 0),.d (il 2),.d (il 0),.d (il 5),.d (il 10),.d (il 12),.d (il 0),.d (il 0),.d (sD TK),.d (il 0)]):=by kernel_rfl
theorem ve41:FN 14 41 [il 2,.sl 3 [[il 0,il 21,sD T0]],.sl 3 [[il 0,il 21,sD T1]],.sl 3 [[il 0,il 21,sD T2]],il 0,il 0,il 0,.sl 8 [[il 2,il 0,il 5,il 10,il 12,il 0,il 0,sD TK]],il 0,il 0,il 0,il 0,il 0,il 0,il 0,il 0,il 0,il 0,il 0,il 0,il 0,il 0,il 0,il 0,il 0,il 0,il 0,il 0,il 0,il 0,il 0,il 0,il 0,il 0,il 0,il 0,il 0,il 0,il 0,il 0,il 0,il 0,il 0,il 0,il 3,il 2]=some (0,[.d (il 2),.d (.sl 3 [[il 0,il 21,sD T0]]),.d (.sl 3 [[il 0,il 21,sD T1]]),.d (.sl 3 [[il 0,il 21,sD T2]]),.d (il 1),.d (il 1),.d (il 1),.d (.sl 8 [[il 2,il 0,il 5,il 10,il 12,il 0,il 0,sD TK]]),.d (il 0),.d (il 0),.d (il 0),.d (il 0),.d (il 0),.d (il 0),.d (il 0),.d (il 0),.d (il 0),.d (il 0),.d (il 0),.d (il 0),.d (il 0),.d (il 0),.d (il 0),.d (il 0),.d (il 0),.d (il 0),.d (il 0),.d (il 0),.d (il 0),.d (il 0),.d (il 0),.d (il 0),.d (il 0),.d (il 0),.d (il 0),.d (il 0),.d (il 0),.d (il 0),.d (il 0),.d (il 0),.d (il 0),.d (il 0),.d (il 0),.d (il 0),.d (il 2),.d (il 3),.d (il 2),.d (il 1),.d (il 1),.d (.lit (.slice none 0 0)),.d (il 0)]):=by kernel_rfl
theorem ve37b:FN 14 37 [il 3]=some (0,[.d (il 3),.d (.lit (.slice none 0 0)),.d (.lit (.slice none 0 0)),.d (.lit (.slice none 0 0)),.d (il 0),.d (il 0),.d (il 0),.d (.lit (.slice none 0 0)),.d (il 0),.d (il 0),.d (il 0),.d (il 0),.d (il 0),.d (il 0),.d (il 0),.d (il 0),.d (il 0),.d (il 0),.d (il 0),.d (il 0),.d (il 0),.d (il 0),.d (il 0),.d (il 0),.d (il 0),.d (il 0),.d (il 0),.d (il 0),.d (il 0),.d (il 0),.d (il 0),.d (il 0),.d (il 0),.d (il 0),.d (il 0),.d (il 0),.d (il 0),.d (il 0),.d (il 0),.d (il 0),.d (il 0),.d (il 0),.d (il 0),.d (il 0),.d (il 0)]):=by kernel_rfl
theorem ve43a:FN 14 43 [il 3,.lit (.slice none 0 0),.lit (.slice none 0 0),.lit (.slice none 0 0),il 0,il 0,il 0,.lit (.slice none 0 0),il 0,il 0,il 0,il 0,il 0,il 0,il 0,il 0,il 0,il 0,il 0,il 0,il 0,il 0,il 0,il 0,il 0,il 0,il 0,il 0,il 0,il 0,il 0,il 0,il 0,il 0,il 0,il 0,il 0,il 0,il 0,il 0,il 0,il 0,il 0,il 0,il 2,il 3,il 2,il 1,il 1,.lit (.slice none 0 0)]=some (0,[.d (il 3),.d (.lit (.slice none 0 0)),.d (.lit (.slice none 0 0)),.d (.lit (.slice none 0 0)),.d (il 0),.d (il 0),.d (il 0),.d (.lit (.slice none 0 0)),.d (il 0),.d (il 0),.d (il 0),.d (il 0),.d (il 0),.d (il 0),.d (il 0),.d (il 0),.d (il 0),.d (il 0),.d (il 0),.d (il 0),.d (il 0),.d (il 0),.d (il 1),.d (il 0),.d (il 0),.d (il 0),.d (il 0),.d (il 0),.d (il 0),.d (il 0),.d (il 0),.d (il 0),.d (il 0),.d (il 0),.d (il 0),.d (il 0),.d (il 0),.d (il 0),.d (il 0),.d (il 0),.d (il 0),.d (il 0),.d (il 0),.d (il 0),.d (.sl 6 [[il 3,il 2,il 2,il 0,il 0,.lit (.slice none 0 0)]]),.d (il 0)]):=by kernel_rfl
theorem ve43b:FN 14 43 [il 2,.sl 3 [[il 0,il 21,sD T0]],.sl 3 [[il 0,il 21,sD T1]],.sl 3 [[il 0,il 21,sD T2]],il 1,il 1,il 1,.sl 8 [[il 2,il 0,il 5,il 10,il 12,il 0,il 0,sD TK]],il 0,il 0,il 0,il 0,il 0,il 0,il 0,il 0,il 0,il 0,il 0,il 0,il 0,il 0,il 0,il 0,il 0,il 0,il 0,il 0,il 0,il 0,il 0,il 0,il 0,il 0,il 0,il 0,il 0,il 0,il 0,il 0,il 0,il 0,il 0,il 0,il 3,il 2,il 2,il 0,il 0,.lit (.slice none 0 0)]=some (0,[.d (il 2),.d (.sl 3 [[il 0,il 21,sD T0]]),.d (.sl 3 [[il 0,il 21,sD T1]]),.d (.sl 3 [[il 0,il 21,sD T2]]),.d (il 1),.d (il 1),.d (il 1),.d (.sl 8 [[il 2,il 0,il 5,il 10,il 12,il 0,il 0,sD TK]]),.d (il 0),.d (il 0),.d (il 0),.d (il 0),.d (il 0),.d (il 0),.d (il 0),.d (il 0),.d (il 0),.d (il 0),.d (il 0),.d (il 0),.d (il 0),.d (il 0),.d (il 0),.d (il 0),.d (il 0),.d (il 0),.d (il 0),.d (il 0),.d (il 0),.d (il 0),.d (il 0),.d (il 0),.d (il 0),.d (il 0),.d (il 0),.d (il 0),.d (il 0),.d (il 0),.d (il 0),.d (il 0),.d (il 0),.d (il 0),.d (il 0),.d (il 0),.d (.sl 6 [[il 2,il 3,il 2,il 1,il 0,.sl 8 [[il 2,il 0,il 5,il 10,il 12,il 0,il 0,sD TK]]]]),.d (il 0)]):=by kernel_rfl
theorem ve43c:FN 14 43 [il 3,.lit (.slice none 0 0),.lit (.slice none 0 0),.lit (.slice none 0 0),il 0,il 0,il 0,.lit (.slice none 0 0),il 0,il 0,il 0,il 0,il 0,il 0,il 0,il 0,il 0,il 0,il 0,il 0,il 0,il 0,il 1,il 0,il 0,il 0,il 0,il 0,il 0,il 0,il 0,il 0,il 0,il 0,il 0,il 0,il 0,il 0,il 0,il 0,il 0,il 0,il 0,il 0,il 2,il 3,il 2,il 1,il 0,.sl 8 [[il 2,il 0,il 5,il 10,il 12,il 0,il 0,sD TK]]]=some (0,[.d (il 3),.d (.sl 3 [[il 0,il 21,sD T0]]),.d (.sl 3 [[il 0,il 21,sD T1]]),.d (.sl 3 [[il 0,il 21,sD T2]]),.d (il 1),.d (il 1),.d (il 1),.d (.sl 8 [[il 2,il 0,il 5,il 10,il 12,il 0,il 0,sD TK]]),.d (il 0),.d (il 0),.d (il 0),.d (il 0),.d (il 0),.d (il 0),.d (il 0),.d (il 0),.d (il 0),.d (il 0),.d (il 0),.d (il 0),.d (il 0),.d (il 0),.d (il 1),.d (il 0),.d (il 0),.d (il 0),.d (il 0),.d (il 0),.d (il 0),.d (il 0),.d (il 0),.d (il 0),.d (il 0),.d (il 0),.d (il 0),.d (il 0),.d (il 0),.d (il 0),.d (il 0),.d (il 0),.d (il 0),.d (il 0),.d (il 0),.d (il 0),.d (.lit (.slice none 0 0)),.d (il 0)]):=by kernel_rfl
end Go.VE
namespace Go.Proofs
open Go.Shelf
def Tryz.lays169_ren:Go.Shelf.Ren:=⟨fun | 169=>143 | n=>n,fun | 70=>202 | 9=>9 | 0=>0 | 72=>204 | 37=>190 | 127=>218 | 3=>3 | 5=>5 | n=>n,fun | n=>n⟩
theorem Tryz.lays169:Go.Proofs.Lays.n169 Tryz.prog Tryz.lays169_ren:={
 mixed:=by kernel_rfl
 f169:=Tryz.func143.trans (congrArg some (by kernel_rfl))
 t0:=Tryz.underlying0
 a0:=Tryz.isAgg0
 z0:=Tryz.sizeOf0
 v0:=Tryz.zeroValue0
 t3:=Tryz.underlying3
 a3:=Tryz.isAgg3
 z3:=Tryz.sizeOf3
 v3:=Tryz.zeroValue3
 t9:=Tryz.underlying9
 a9:=Tryz.isAgg9
 z9:=Tryz.sizeOf9
 v9:=Tryz.zeroValue9
 t37:=Tryz.underlying190
 a37:=Tryz.isAgg190
 z37:=Tryz.sizeOf190
 v37:=Tryz.zeroValue190
 t70:=Tryz.underlying202
 a70:=Tryz.isAgg202
 z70:=Tryz.sizeOf202
 v70:=Tryz.zeroValue202
 t72:=Tryz.underlying204
 a72:=Tryz.isAgg204
 z72:=Tryz.sizeOf204
 v72:=Tryz.zeroValue204
 t127:=Tryz.underlying218
 a127:=Tryz.isAgg218
 z127:=Tryz.sizeOf218
 v127:=Tryz.zeroValue218 }
theorem Tryz.Builder_Extra_169:Builder.Extra Tryz.prog Tryz.lays169_ren:={
 sizeBuilder:=by kernel_rfl
 liesBuilder:=by kernel_rfl
 t5:=Tryz.underlying5
 a5:=Tryz.isAgg5
 z5:=Tryz.sizeOf5
 v5:=Tryz.zeroValue5
 infoByte:=by kernel_rfl
 cellsByte:=by kernel_rfl
 sizeByte:=by kernel_rfl
 neB5:=by decide }
open Go.RowKit in
theorem Tryz.Builder_String_any_f (B b:Nat) (l:List UInt8) (w:World) (h:Lib.IsBuilderF 204 5 B b (Lib.byteCells l) w) (hBw:B≤w.heap.size) :
  Calls Tryz.prog 143 #[.pointer (some ⟨b,0,none⟩)] w fun e w'=>e=.returned (.string ⟨l.toArray⟩)∧(Lib.IsBuilderF 204 5 B b (Lib.byteCells l) w'∧Below B w w'):=Any.Builder_String_any_f Tryz.lays169 Tryz.Builder_Extra_169 B b l w h hBw
def Tryz.laysM171_ren:Go.Shelf.Ren:=⟨fun | 171=>142 | 243=>152 | 246=>163 | 283=>182 | 284=>183 | 285=>184 | 286=>185 | 129=>174 | 317=>198 | 318=>199 | 319=>200 | 320=>201 | 337=>207 | 338=>208 | n=>n,fun | 3=>3 | 9=>9 | 2=>2 | 4=>4 | 171=>247 | 0=>0 | 53=>239 | 37=>190 | 5=>5 | 173=>249 | 212=>263 | 51=>237 | 20=>20 | 213=>264 | 46=>222 | 232=>274 | 233=>275 | n=>n,fun | 17=>3 | 18=>4 | 19=>5 | n=>n⟩
theorem Tryz.laysM171:Go.Proofs.LaysM.n171 Tryz.prog Tryz.laysM171_ren:={
 mixed:=by kernel_rfl
 f129:=Tryz.func174.trans (congrArg some (by kernel_rfl))
 f171:=Tryz.func142.trans (congrArg some (by kernel_rfl))
 f243:=Tryz.func152.trans (congrArg some (by kernel_rfl))
 f246:=Tryz.func163.trans (congrArg some (by kernel_rfl))
 f283:=Tryz.func182.trans (congrArg some (by kernel_rfl))
 f284:=Tryz.func183.trans (congrArg some (by kernel_rfl))
 f285:=Tryz.func184.trans (congrArg some (by kernel_rfl))
 f286:=Tryz.func185.trans (congrArg some (by kernel_rfl))
 f317:=Tryz.func198.trans (congrArg some (by kernel_rfl))
 f318:=Tryz.func199.trans (congrArg some (by kernel_rfl))
 f319:=Tryz.func200.trans (congrArg some (by kernel_rfl))
 f320:=Tryz.func201.trans (congrArg some (by kernel_rfl))
 f337:=Tryz.func207.trans (congrArg some (by kernel_rfl))
 f338:=Tryz.func208.trans (congrArg some (by kernel_rfl))
 t0:=Tryz.underlying0
 a0:=Tryz.isAgg0
 z0:=Tryz.sizeOf0
 v0:=Tryz.zeroValue0
 t2:=Tryz.underlying2
 a2:=Tryz.isAgg2
 z2:=Tryz.sizeOf2
 v2:=Tryz.zeroValue2
 t3:=Tryz.underlying3
 a3:=Tryz.isAgg3
 z3:=Tryz.sizeOf3
 v3:=Tryz.zeroValue3
 t4:=Tryz.underlying4
 a4:=Tryz.isAgg4
 z4:=Tryz.sizeOf4
 v4:=Tryz.zeroValue4
 t5:=Tryz.underlying5
 a5:=Tryz.isAgg5
 z5:=Tryz.sizeOf5
 v5:=Tryz.zeroValue5
 t9:=Tryz.underlying9
 a9:=Tryz.isAgg9
 z9:=Tryz.sizeOf9
 v9:=Tryz.zeroValue9
 t20:=Tryz.underlying20
 a20:=Tryz.isAgg20
 z20:=Tryz.sizeOf20
 v20:=Tryz.zeroValue20
 t37:=Tryz.underlying190
 a37:=Tryz.isAgg190
 z37:=Tryz.sizeOf190
 v37:=Tryz.zeroValue190
 t46:=Tryz.underlying222
 a46:=Tryz.isAgg222
 z46:=Tryz.sizeOf222
 v46:=Tryz.zeroValue222
 t51:=Tryz.underlying237
 a51:=Tryz.isAgg237
 z51:=Tryz.sizeOf237
 v51:=Tryz.zeroValue237
 t53:=Tryz.underlying239
 a53:=Tryz.isAgg239
 z53:=Tryz.sizeOf239
 v53:=Tryz.zeroValue239
 t171:=Tryz.underlying247
 a171:=Tryz.isAgg247
 z171:=Tryz.sizeOf247
 v171:=Tryz.zeroValue247
 t173:=Tryz.underlying249
 a173:=Tryz.isAgg249
 z173:=Tryz.sizeOf249
 v173:=Tryz.zeroValue249
 t212:=Tryz.underlying263
 a212:=Tryz.isAgg263
 z212:=Tryz.sizeOf263
 v212:=Tryz.zeroValue263
 t213:=Tryz.underlying264
 a213:=Tryz.isAgg264
 z213:=Tryz.sizeOf264
 t232:=Tryz.underlying274
 a232:=Tryz.isAgg274
 z232:=Tryz.sizeOf274
 v232:=Tryz.zeroValue274
 t233:=Tryz.underlying275
 a233:=Tryz.isAgg275
 z233:=Tryz.sizeOf275
 v233:=Tryz.zeroValue275
 g17:=by kernel_rfl
 g18:=by kernel_rfl
 g19:=by kernel_rfl
 i0:=by kernel_rfl
 i2:=by kernel_rfl
 i3:=by kernel_rfl
 i4:=by kernel_rfl
 i5:=by kernel_rfl
 i9:=by kernel_rfl
 i20:=by kernel_rfl
 i37:=by kernel_rfl
 i46:=by kernel_rfl
 i51:=by kernel_rfl
 i53:=by kernel_rfl
 i171:=by kernel_rfl
 i173:=by kernel_rfl
 i212:=by kernel_rfl
 i232:=by kernel_rfl
 i233:=by kernel_rfl
 m17:=by kernel_rfl
 m18:=by kernel_rfl
 m19:=by kernel_rfl }
open Go.RowKit Go.Sort Go.Lib in
theorem Tryz.strconv_Itoa (n:Int) (h0:-9223372036854775808≤n) (h1:n≤9223372036854775807) (w:World) (htab:Lib.TabIs Tryz.prog w "internal/strconv.uint64pow10" .u64 Lib.pow10Tab) :
  Calls Tryz.prog 142 #[.int .i64 n] w fun e w'=>e=.returned (.string ⟨(Lib.itoa n).toArray⟩)∧∃ k os,w'=grow (w.drewN k) os:=Any.strconv_Itoa Tryz.laysM171 n h0 h1 w htab
def Tryz.laysC172_ren:Go.Shelf.Ren:=⟨fun | 172=>150 | 244=>160 | 245=>161 | 247=>177 | 279=>178 | 280=>179 | 281=>180 | 282=>181 | 287=>195 | 316=>196 | 171=>142 | 205=>197 | 321=>205 | 322=>206 | 243=>152 | 246=>163 | 283=>182 | 284=>183 | 285=>184 | 286=>185 | 129=>174 | 317=>198 | 318=>199 | 319=>200 | 320=>201 | 337=>207 | 338=>208 | n=>n,fun | 9=>9 | 3=>3 | 75=>207 | 76=>208 | 4=>4 | 5=>5 | 167=>241 | 37=>190 | 0=>0 | 85=>242 | 2=>2 | 168=>244 | 53=>239 | 175=>257 | 46=>222 | 210=>260 | 127=>218 | 145=>273 | 143=>271 | 21=>21 | 171=>247 | 173=>249 | 212=>263 | 51=>237 | 20=>20 | 213=>264 | 232=>274 | 233=>275 | 80=>211 | n=>n,fun | 15=>1 | 16=>2 | 17=>3 | 18=>4 | 19=>5 | n=>n⟩
theorem Tryz.laysC172:Go.Proofs.LaysC.n172 Tryz.prog Tryz.laysC172_ren:={
 mixed:=by kernel_rfl
 f129:=Tryz.func174.trans (congrArg some (by kernel_rfl))
 f171:=Tryz.func142.trans (congrArg some (by kernel_rfl))
 f172:=Tryz.func150.trans (congrArg some (by kernel_rfl))
 f205:=Tryz.func197.trans (congrArg some (by kernel_rfl))
 f243:=Tryz.func152.trans (congrArg some (by kernel_rfl))
 f244:=Tryz.func160.trans (congrArg some (by kernel_rfl))
 f245:=Tryz.func161.trans (congrArg some (by kernel_rfl))
 f246:=Tryz.func163.trans (congrArg some (by kernel_rfl))
 f247:=Tryz.func177.trans (congrArg some (by kernel_rfl))
 f279:=Tryz.func178.trans (congrArg some (by kernel_rfl))
 f280:=Tryz.func179.trans (congrArg some (by kernel_rfl))
 f281:=Tryz.func180.trans (congrArg some (by kernel_rfl))
 f282:=Tryz.func181.trans (congrArg some (by kernel_rfl))
 f283:=Tryz.func182.trans (congrArg some (by kernel_rfl))
 f284:=Tryz.func183.trans (congrArg some (by kernel_rfl))
 f285:=Tryz.func184.trans (congrArg some (by kernel_rfl))
 f286:=Tryz.func185.trans (congrArg some (by kernel_rfl))
 f287:=Tryz.func195.trans (congrArg some (by kernel_rfl))
 f316:=Tryz.func196.trans (congrArg some (by kernel_rfl))
 f317:=Tryz.func198.trans (congrArg some (by kernel_rfl))
 f318:=Tryz.func199.trans (congrArg some (by kernel_rfl))
 f319:=Tryz.func200.trans (congrArg some (by kernel_rfl))
 f320:=Tryz.func201.trans (congrArg some (by kernel_rfl))
 f321:=Tryz.func205.trans (congrArg some (by kernel_rfl))
 f322:=Tryz.func206.trans (congrArg some (by kernel_rfl))
 f337:=Tryz.func207.trans (congrArg some (by kernel_rfl))
 f338:=Tryz.func208.trans (congrArg some (by kernel_rfl))
 t0:=Tryz.underlying0
 a0:=Tryz.isAgg0
 z0:=Tryz.sizeOf0
 v0:=Tryz.zeroValue0
 t2:=Tryz.underlying2
 a2:=Tryz.isAgg2
 z2:=Tryz.sizeOf2
 v2:=Tryz.zeroValue2
 t3:=Tryz.underlying3
 a3:=Tryz.isAgg3
 z3:=Tryz.sizeOf3
 v3:=Tryz.zeroValue3
 t4:=Tryz.underlying4
 a4:=Tryz.isAgg4
 z4:=Tryz.sizeOf4
 v4:=Tryz.zeroValue4
 t5:=Tryz.underlying5
 a5:=Tryz.isAgg5
 z5:=Tryz.sizeOf5
 v5:=Tryz.zeroValue5
 t9:=Tryz.underlying9
 a9:=Tryz.isAgg9
 z9:=Tryz.sizeOf9
 v9:=Tryz.zeroValue9
 t20:=Tryz.underlying20
 a20:=Tryz.isAgg20
 z20:=Tryz.sizeOf20
 v20:=Tryz.zeroValue20
 t21:=Tryz.underlying21
 a21:=Tryz.isAgg21
 z21:=Tryz.sizeOf21
 v21:=Tryz.zeroValue21
 t37:=Tryz.underlying190
 a37:=Tryz.isAgg190
 z37:=Tryz.sizeOf190
 v37:=Tryz.zeroValue190
 t46:=Tryz.underlying222
 a46:=Tryz.isAgg222
 z46:=Tryz.sizeOf222
 v46:=Tryz.zeroValue222
 t51:=Tryz.underlying237
 a51:=Tryz.isAgg237
 z51:=Tryz.sizeOf237
 v51:=Tryz.zeroValue237
 t53:=Tryz.underlying239
 a53:=Tryz.isAgg239
 z53:=Tryz.sizeOf239
 v53:=Tryz.zeroValue239
 t75:=Tryz.underlying207
 a75:=Tryz.isAgg207
 z75:=Tryz.sizeOf207
 v75:=Tryz.zeroValue207
 t76:=Tryz.underlying208
 a76:=Tryz.isAgg208
 z76:=Tryz.sizeOf208
 v76:=Tryz.zeroValue208
 t85:=Tryz.underlying242
 a85:=Tryz.isAgg242
 z85:=Tryz.sizeOf242
 v85:=Tryz.zeroValue242
 t127:=Tryz.underlying218
 a127:=Tryz.isAgg218
 z127:=Tryz.sizeOf218
 v127:=Tryz.zeroValue218
 t143:=Tryz.underlying271
 a143:=Tryz.isAgg271
 z143:=Tryz.sizeOf271
 v143:=Tryz.zeroValue271
 t145:=Tryz.underlying273
 a145:=Tryz.isAgg273
 z145:=Tryz.sizeOf273
 v145:=Tryz.zeroValue273
 t167:=Tryz.underlying241
 a167:=Tryz.isAgg241
 z167:=Tryz.sizeOf241
 v167:=Tryz.zeroValue241
 t168:=Tryz.underlying244
 a168:=Tryz.isAgg244
 z168:=Tryz.sizeOf244
 v168:=Tryz.zeroValue244
 t171:=Tryz.underlying247
 a171:=Tryz.isAgg247
 z171:=Tryz.sizeOf247
 v171:=Tryz.zeroValue247
 t173:=Tryz.underlying249
 a173:=Tryz.isAgg249
 z173:=Tryz.sizeOf249
 v173:=Tryz.zeroValue249
 t175:=Tryz.underlying257
 a175:=Tryz.isAgg257
 z175:=Tryz.sizeOf257
 v175:=Tryz.zeroValue257
 t210:=Tryz.underlying260
 a210:=Tryz.isAgg260
 z210:=Tryz.sizeOf260
 v210:=Tryz.zeroValue260
 t212:=Tryz.underlying263
 a212:=Tryz.isAgg263
 z212:=Tryz.sizeOf263
 v212:=Tryz.zeroValue263
 t213:=Tryz.underlying264
 a213:=Tryz.isAgg264
 z213:=Tryz.sizeOf264
 t232:=Tryz.underlying274
 a232:=Tryz.isAgg274
 z232:=Tryz.sizeOf274
 v232:=Tryz.zeroValue274
 t233:=Tryz.underlying275
 a233:=Tryz.isAgg275
 z233:=Tryz.sizeOf275
 v233:=Tryz.zeroValue275
 g15:=by kernel_rfl
 g16:=by kernel_rfl
 g17:=by kernel_rfl
 g18:=by kernel_rfl
 g19:=by kernel_rfl
 t80:=Tryz.underlying211
 a80:=Tryz.isAgg211
 z80:=Tryz.sizeOf211
 v80:=Tryz.zeroValue211
 i0:=by kernel_rfl
 i2:=by kernel_rfl
 i3:=by kernel_rfl
 i4:=by kernel_rfl
 i5:=by kernel_rfl
 i9:=by kernel_rfl
 i20:=by kernel_rfl
 i21:=by kernel_rfl
 i37:=by kernel_rfl
 i46:=by kernel_rfl
 i51:=by kernel_rfl
 i53:=by kernel_rfl
 i75:=by kernel_rfl
 i76:=by kernel_rfl
 i80:=by kernel_rfl
 i85:=by kernel_rfl
 i127:=by kernel_rfl
 i143:=by kernel_rfl
 i145:=by kernel_rfl
 i167:=by kernel_rfl
 i168:=by kernel_rfl
 i171:=by kernel_rfl
 i173:=by kernel_rfl
 i175:=by kernel_rfl
 i210:=by kernel_rfl
 i212:=by kernel_rfl
 i232:=by kernel_rfl
 i233:=by kernel_rfl
 m15:=by kernel_rfl
 m16:=by kernel_rfl
 m17:=by kernel_rfl
 m18:=by kernel_rfl
 m19:=by kernel_rfl
 c0:=by kernel_rfl
 c2:=by kernel_rfl
 c3:=by kernel_rfl
 c4:=by kernel_rfl
 c5:=by kernel_rfl
 c9:=by kernel_rfl
 c20:=by kernel_rfl
 c21:=by kernel_rfl
 c37:=by kernel_rfl
 c46:=by kernel_rfl
 c51:=by kernel_rfl
 c53:=by kernel_rfl
 c75:=by kernel_rfl
 c76:=by kernel_rfl
 c80:=by kernel_rfl
 c85:=by kernel_rfl
 c127:=by kernel_rfl
 c143:=by kernel_rfl
 c145:=by kernel_rfl
 c167:=by kernel_rfl
 c168:=by kernel_rfl
 c171:=by kernel_rfl
 c173:=by kernel_rfl
 c175:=by kernel_rfl
 c210:=by kernel_rfl
 c212:=by kernel_rfl
 c213:=by kernel_rfl
 c232:=by kernel_rfl
 c233:=by kernel_rfl }
open Go.RowKit in
theorem Tryz.strconv_Atoi_ok (s:ByteArray) (hmax:s.size≤9223372036854775806) (v:Int) (h:Lib.atoiAll s.data.toList=.ok v) (w:World) :
  Calls Tryz.prog 150 #[.string s] w fun e w'=>e=.returned (.tuple #[.int .i64 v,.nilIface])∧(w'=w∨∃ t,w'=Lib.bytesWorld w 5 t):=Any.strconv_Atoi_ok Tryz.laysC172 s hmax v h w
open Go.RowKit in
theorem Tryz.strconv_Atoi_syntax (s:ByteArray) (hlim:s.size≤281474976710656) (h:Lib.atoiAll s.data.toList=Go.Lib.NumEnd.syntax) (ev:Value) (w:World) (hv:w.cell? ⟨1,0,none⟩=some ev) (hev:ev=.nilIface∨∃ te pe,ev=.iface te pe) :
  Calls Tryz.prog 150 #[.string s] w fun e w'=>∃ N,e=.returned (.tuple #[.int .i64 (0),.iface 244 (.pointer (some ⟨N,0,none⟩))])∧w.heap.size≤N∧w'.heap[N]?=some (.cells #[.string ⟨#[65,116,111,105]⟩,.string s,ev] 260 (0,0))∧Below w.heap.size w w':=Any.strconv_Atoi_syntax Tryz.laysC172 s hlim h ev w hv hev
open Go.RowKit in
theorem Tryz.strconv_Atoi_range (s:ByteArray) (hlim:s.size≤281474976710656) (h:Lib.atoiAll s.data.toList=.range) (ev:Value) (w:World) (hv:w.cell? ⟨2,0,none⟩=some ev) (hev:ev=.nilIface∨∃ te pe,ev=.iface te pe) :
  Calls Tryz.prog 150 #[.string s] w fun e w'=>∃ N,e=.returned (.tuple #[.int .i64 (Lib.atoiSat s.data.toList),.iface 244 (.pointer (some ⟨N,0,none⟩))])∧w.heap.size≤N∧w'.heap[N]?=some (.cells #[.string ⟨#[65,116,111,105]⟩,.string s,ev] 260 (0,0))∧Below w.heap.size w w':=Any.strconv_Atoi_range Tryz.laysC172 s hlim h ev w hv hev
def Tryz.lays219_ren:Go.Shelf.Ren:=⟨fun | 219=>176 | 217=>191 | 225=>192 | 224=>193 | 267=>194 | 266=>203 | 314=>204 | n=>n,fun | 9=>9 | 3=>3 | 4=>4 | 5=>5 | 46=>222 | 146=>268 | 51=>237 | n=>n,fun | 1=>0 | n=>n⟩
theorem Tryz.lays219:Go.Proofs.Lays.n219 Tryz.prog Tryz.lays219_ren:={
 mixed:=by kernel_rfl
 f217:=Tryz.func191.trans (congrArg some (by kernel_rfl))
 f219:=Tryz.func176.trans (congrArg some (by kernel_rfl))
 f224:=Tryz.func193.trans (congrArg some (by kernel_rfl))
 f225:=Tryz.func192.trans (congrArg some (by kernel_rfl))
 f266:=Tryz.func203.trans (congrArg some (by kernel_rfl))
 f267:=Tryz.func194.trans (congrArg some (by kernel_rfl))
 f314:=Tryz.func204.trans (congrArg some (by kernel_rfl))
 t3:=Tryz.underlying3
 a3:=Tryz.isAgg3
 z3:=Tryz.sizeOf3
 v3:=Tryz.zeroValue3
 t4:=Tryz.underlying4
 a4:=Tryz.isAgg4
 z4:=Tryz.sizeOf4
 v4:=Tryz.zeroValue4
 t5:=Tryz.underlying5
 a5:=Tryz.isAgg5
 z5:=Tryz.sizeOf5
 v5:=Tryz.zeroValue5
 t9:=Tryz.underlying9
 a9:=Tryz.isAgg9
 z9:=Tryz.sizeOf9
 v9:=Tryz.zeroValue9
 t46:=Tryz.underlying222
 a46:=Tryz.isAgg222
 z46:=Tryz.sizeOf222
 v46:=Tryz.zeroValue222
 t51:=Tryz.underlying237
 a51:=Tryz.isAgg237
 z51:=Tryz.sizeOf237
 v51:=Tryz.zeroValue237
 t146:=Tryz.underlying268
 a146:=Tryz.isAgg268
 z146:=Tryz.sizeOf268
 v146:=Tryz.zeroValue268
 g1:=by kernel_rfl }
open Go.RowKit Go.Lib in
theorem Tryz.stringslite_Index_one (s:ByteArray) (c:UInt8) (w:World) :
  Calls Tryz.prog 176 #[.string s,.string ⟨#[c]⟩] w fun e w'=>e=.returned (.int .i64 (Lib.indexByte s.data.toList c))∧w'=w:=Any.stringslite_Index_one Tryz.lays219 s c w
def rhoB:Go.Shelf.Ren:=⟨fun x=>if x=166 then 141 else if x=240 then 151 else if x=276 then 162 else if x=169 then 143 else 0,fun x=>if x=72 then 204 else if x=70 then 202 else if x=37 then 190 else if x=164 then 225 else if x=75 then 207 else if x=127 then 218 else if x=80 then 211 else x,fun x=>x⟩
theorem lays166B:Go.Proofs.Lays.n166 Tryz.prog rhoB where
 mixed:=by kernel_rfl
 f166:=by kernel_rfl
 f240:=by kernel_rfl
 f276:=by kernel_rfl
 t0:=by kernel_rfl
 a0:=fun w=>by kernel_rfl
 z0:=fun w=>by kernel_rfl
 v0:=fun w=>by kernel_rfl
 t3:=by kernel_rfl
 a3:=fun w=>by kernel_rfl
 z3:=fun w=>by kernel_rfl
 v3:=fun w=>by kernel_rfl
 t4:=by kernel_rfl
 a4:=fun w=>by kernel_rfl
 z4:=fun w=>by kernel_rfl
 v4:=fun w=>by kernel_rfl
 t9:=by kernel_rfl
 a9:=fun w=>by kernel_rfl
 z9:=fun w=>by kernel_rfl
 v9:=fun w=>by kernel_rfl
 t20:=by kernel_rfl
 a20:=fun w=>by kernel_rfl
 z20:=fun w=>by kernel_rfl
 v20:=fun w=>by kernel_rfl
 t37:=by kernel_rfl
 a37:=fun w=>by kernel_rfl
 z37:=fun w=>by kernel_rfl
 v37:=fun w=>by kernel_rfl
 t70:=by kernel_rfl
 a70:=fun w=>by kernel_rfl
 z70:=fun w=>by kernel_rfl
 v70:=fun w=>by kernel_rfl
 t72:=by kernel_rfl
 a72:=fun w=>by kernel_rfl
 z72:=fun w=>by kernel_rfl
 v72:=fun w=>by kernel_rfl
 t75:=by kernel_rfl
 a75:=fun w=>by kernel_rfl
 z75:=fun w=>by kernel_rfl
 v75:=fun w=>by kernel_rfl
 t164:=by kernel_rfl
 a164:=fun w=>by kernel_rfl
 z164:=fun w=>by kernel_rfl
 v164:=fun w=>by kernel_rfl
theorem extraB:Go.Proofs.Builder.Extra Tryz.prog rhoB where
 sizeBuilder:=by kernel_rfl
 liesBuilder:=by kernel_rfl
 t5:=by kernel_rfl
 a5:=fun w=>by kernel_rfl
 z5:=fun w=>by kernel_rfl
 v5:=fun w=>by kernel_rfl
 infoByte:=by kernel_rfl
 cellsByte:=by kernel_rfl
 sizeByte:=by kernel_rfl
 neB5:=by decide
theorem Tryz.Builder_WriteString_f (B b:Nat) (bs:List Value) (s:ByteArray) (w:World) (h:Lib.IsBuilderF 204 5 B b bs w) (hlen:bs.length+s.size≤140737488355328) (hBw:B≤w.heap.size) :
  Calls Tryz.prog 141 #[.pointer (some ⟨b,0,none⟩),.string s] w fun e w'=>e=.returned (.tuple #[.int .i64 s.size,.nilIface])∧(Lib.BuilderAtF 204 5 B b (.pointer (some ⟨b,0,none⟩)) (bs++Lib.strCells s) w'∧RowKit.Below B w w'):=Any.Builder_WriteString_f lays166B extraB B b bs s w h hlen hBw
end Go.Proofs
