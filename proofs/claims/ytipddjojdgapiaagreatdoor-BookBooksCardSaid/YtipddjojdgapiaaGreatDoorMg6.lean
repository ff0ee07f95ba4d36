/- Book: Join: the program and the reference. -/
import Derived.Test.YtipddjojdgapiaaGreatDoorMg5
import Derived.Test.YtipddjojdgapiaaGreatDoorMt
import Derived.KernelRfl
import Derived.Test.YtipddjojdgapiaaGreatDoorMg0
import Derived.Test.YtipddjojdgapiaaGreatDoorMp
import Derived.Lib.IndexLaws
import Derived.Handy
namespace Go.VE
open Go.RowKit Go.Proofs Go.Lib
set_option maxRecDepth 100000
noncomputable abbrev FD (n:Nat):D→List Sh→List D→Out:=FnDof Tryz.prog (cf3 tb Tryz.prog) (FN n)
theorem FnDof_fn {P:Program} {cfg:Cf3} {Fn:Nat→List D→Out} {f:Nat} {caps:List D} {sh:List Sh} {ds:List D} {vs:List VD} (h3:f < 2000000) (hv:vdsOf sh ds=some vs):FnDof P cfg Fn (.fn f caps) sh ds=FnV cfg Fn f (vs++caps.map .one):=by
 simp only [FnDof,hv,if_pos h3]
theorem FD_gen {T:Tb3} {P:Program} {Fn:Nat→List D→Out} {f:Nat} {caps:List D} {sh sh':List Sh} {ds:List D} {vs:List VD} {xs:List D} {z:D} (hlt:f < 1000000) (hv:vdsOf sh ds=some vs) (hash:T.ash f=some sh') (hx:flatV sh' (vs++caps.map .one)=some xs)
  (hr:T.rsk f=[[(false,[.d])]]) (hf:Fn f xs=some (0,[.d z])):FnDof P (cf3 T P) Fn (.fn f caps) sh ds=some (0,[.d z]):=by
 have h1:(cf3 T P).ash f=some sh':=by simp only [cf3,if_pos hlt,hash]
 have h2:isOneD ((cf3 T P).rsk f)=true:=by simp only [cf3,hr];rfl
 have h3:f < 2000000:=Nat.lt_of_lt_of_le hlt (by decide)
 rw [FnDof_fn h3 hv]
 simp only [FnV,h1,hx,h2,if_true,hf]
theorem s120 (n:Nat) (x r:Rec):FN (n+1) 120 (recR x++recR r)=some (0,[.d (bl (decide (x.p=r.p∧x.no=r.no)))]):=by
 obtain ⟨a1,a2,a3,a4,a5,a6,a7,a8⟩:=x
 obtain ⟨b1,b2,b3,b4,b5,b6,b7,b8⟩:=r
 show FN (n+1) 120 [il a1,il a2,il a3,il a4,il a5,il a6,il a7,sD a8,il b1,il b2,il b3,il b4,il b5,il b6,il b7,sD b8]=_
 rw [F120]
 simp only [G120,r_eqs2,r_out]
 rfl
theorem d120 (n:Nat) (x r:Rec):FD (n+1) (.fn 120 [.dp (recR r) 0]) [.agg 8] (recR x)=some (0,[.d (bl (decide (x.p=r.p∧x.no=r.no)))]) :=
 FD_gen (sh':=[.agg 8,.ptr 8]) (vs:=[.agg (recR x)]) (xs:=recR x++recR r) (by decide) rfl (by kernel_rfl) rfl (by kernel_rfl) (s120 n x r)
theorem s119 (n:Nat) (o:Option (List Rec)) (r:Rec) (hl:(o.getD []).length≤4611686018427387904):FN (n+2) 119 [dR o,.fn 120 [.dp (recR r) 0]]=some (0,[.d (il (fdZ (fdx r.p r.no (o.getD []))))]):=by
 rw [F119]
 have:=range_loop (β:=Unit) (o.getD []) hl (L119_0 (RP (n+1))) (fun i _=>[.d (dR o),.d (.fn 120 [.dp (recR r) 0]),.d (il (o.getD []).length),.d (il i)]) (fun _ _=>True) (fun i t _=>fdO i (fdx r.p r.no t)) ?_ ?_ M0 () trivial (M0_big hl)
 ·have this':loopR [L119_0 (RP (n+1))] M0 0 [.d (dR o),.d (.fn 120 [.dp (recR r) 0]),.d (il (o.getD []).length),.d (il 0)]=fdO 0 (fdx r.p r.no (o.getD [])):=this
  simp only [G119,lenL,r_loop,r_liti,this']
  cases fdx r.p r.no (o.getD []) with
  | none=>rfl
  | some j=>simp [fdO,fdZ]
 ·intro _ k _
  simp only [L119_0,r_ld0,r_lds,r_lss,Int.lt_irrefl,decide_false,Bool.false_eq_true,if_false,r_cond,r_out]
  rfl
 ·intro i c t _ k hi hd hlt hw _ ih
  have hlt':(i:Int) < ((o.getD []).length:Int):=by omega
  have ih':=ih () trivial
  rw [cast1] at ih'
  have cc:FnDof Tryz.prog (cf3 tb Tryz.prog) (FN (n+1)) (.fn 120 [.dp (recR r) 0]) [.agg 8] [il c.p,il c.no,il c.kd,il c.dy,il c.kn,il c.op,il c.on,sD c.tx]=_:=d120 n c r
  simp only [L119_0,r_ld0,r_lds,r_lss,hlt',decide_true,if_true,r_cond,rowR hi,cR0,cR1,cR2,cR3,cR4,cR5,cR6,cR7,r_callD,cc,r_bnd0,decide_eq_true_eq,r_out,r_liti,r_add,hw,ih',fdx]
  by_cases h:c.p=r.p∧c.no=r.no
  ·rw [if_pos h,if_pos h];rfl
  ·rw [if_neg h,if_neg h]
   cases fdx r.p r.no t with
   | none=>rfl
   | some j=>simp only [Option.map_some,fdO];congr 5;omega
def jn (a:List Rec):List Rec→Option (List Rec)
 | []=>some []
 | r::t=>match a.find? (fun x=>sameI x r) with
  | none=>(jn a t).map (r::·)
  | some x=>if x=r then jn a t else none
theorem jn_nil:∀ b,jn [] b=some b
 | []=>rfl
 | r::t=>by rw [jn,List.find?_nil];simp only [jn_nil t,Option.map_some]
theorem jn_spec {a:List Rec} (ha:isLog a=true):∀ b,match jn a b with
  | none=>clash a b
  | some f=>¬ clash a b∧f=freshG a b
 | []=>by
  refine ⟨?_,rfl⟩
  rintro ⟨x,_,r,hr,_⟩
  cases hr
 | r::t=>by
  have ih:=jn_spec ha t
  unfold jn
  cases hf:a.find? (fun x=>sameI x r) with
  | none =>
   have hn:∀ x∈a,¬ sameI x r=true:=fun x hx=>List.find?_eq_none.1 hf x hx
   have hany:(a.any fun x=>sameI x r)=false:=List.any_eq_false.2 hn
   have hfr:freshG a (r::t)=r::freshG a t:=by
    unfold freshG
    rw [List.filter_cons,if_pos (by rw [hany];rfl)]
   have hcl:clash a (r::t)↔clash a t:=by
    constructor
    ·rintro ⟨x,hx,y,hy,h1,h2⟩
     rcases List.mem_cons.1 hy with rfl | hy
     ·exact absurd h1 (hn x hx)
     ·exact ⟨x,hx,y,hy,h1,h2⟩
    ·rintro ⟨x,hx,y,hy,h1,h2⟩
     exact ⟨x,hx,y,List.mem_cons_of_mem _ hy,h1,h2⟩
   cases hj:jn a t with
   | none =>
    rw [hj] at ih
    exact hcl.2 ih
   | some f =>
    rw [hj] at ih
    simp only [Option.map_some]
    exact ⟨fun h=>ih.1 (hcl.1 h),by rw [hfr,ih.2]⟩
  | some x =>
   have hx:x∈a:=List.mem_of_find?_eq_some hf
   have hs:sameI x r=true:=List.find?_some (p:=fun x=>sameI x r) hf
   have hany:(a.any fun x=>sameI x r)=true:=List.any_eq_true.2 ⟨x,hx,hs⟩
   have hfr:freshG a (r::t)=freshG a t:=by
    unfold freshG
    rw [List.filter_cons,if_neg (by rw [hany];simp)]
   simp only
   by_cases he:x=r
   ·rw [if_pos he]
    have hcl:clash a (r::t)↔clash a t:=by
     constructor
     ·rintro ⟨z,hz,y,hy,h1,h2⟩
      rcases List.mem_cons.1 hy with rfl | hy
      ·exact absurd (same_eq ha hz (by rw [←he];exact hx) h1) h2
      ·exact ⟨z,hz,y,hy,h1,h2⟩
     ·rintro ⟨z,hz,y,hy,h1,h2⟩
      exact ⟨z,hz,y,List.mem_cons_of_mem _ hy,h1,h2⟩
    cases hj:jn a t with
    | none =>
     rw [hj] at ih
     exact hcl.2 ih
    | some f =>
     rw [hj] at ih
     exact ⟨fun h=>ih.1 (hcl.1 h),by rw [hfr,ih.2]⟩
   ·rw [if_neg he]
    exact ⟨x,hx,r,by simp,hs,he⟩
def joinJ (a b:List Rec):List Rec×Int:=match jn a b with
 | none=>([],82)
 | some f=>if 60 < (a++f).length then ([],2) else (srt (a++f),0)
theorem joinJ_P {a b:List Rec} (ha:isLog a=true):joinJ a b=joinP a b:=by
 have h:=jn_spec ha b
 unfold joinJ joinP
 cases hj:jn a b with
 | none =>
  rw [hj] at h
  rw [if_pos h]
 | some f =>
  rw [hj] at h
  simp only
  rw [if_neg h.1,h.2]
  rfl
def joinZ (a b:List Rec):List Rec×Int:=if (bookB a&&bookB b)=true then joinJ a b else ([],81)
def jnO (acc:List Rec):Option (List Rec)→Out
 | none=>some (0,[.d (il 82)])
 | some f=>some (1,[.n (acc++f).length,.n (acc++f).length,.r ((acc++f).map recR)])
theorem l58_0 (n:Nat) (a b:Option (List Rec)) (hla:(a.getD []).length≤60) (hlb:(b.getD []).length≤60) (l0:List Rec) (h0:l0.length≤60) (c119:∀ r,FN n 119 [dR a,.fn 120 [.dp (recR r) 0]]=some (0,[.d (il (fdZ (fdx r.p r.no (a.getD []))))])) :
  loopR [L58_0 (RP n)] M0 0 [.d (dR a),.n l0.length,.n l0.length,.d (dR b),.d (il (b.getD []).length),.d (il 0),.r (l0.map recR)]=jnO l0 (jn (a.getD []) (b.getD [])):=by
 have:=range_loop (β:=List Rec) (b.getD []) (by omega) (L58_0 (RP n)) (fun i acc=>[.d (dR a),.n acc.length,.n acc.length,.d (dR b),.d (il (b.getD []).length),.d (il i),.r (acc.map recR)]) (fun i acc=>acc.length≤60+i)
  (fun _ t acc=>jnO acc (jn (a.getD []) t)) ?_ ?_ M0 l0 (by omega) (M0_big (by omega))
 ·exact this
 ·intro acc k _
  simp only [L58_0,r_ld0,r_lds,r_ln0,r_lns,r_lr0,r_lrs,r_lss,Int.lt_irrefl,decide_false,Bool.false_eq_true,if_false,r_cond,r_out,jn,jnO,List.append_nil]
 ·intro i c t acc k hi hd hlt hw hI ih
  have hlt':(i:Int) < ((b.getD []).length:Int):=by omega
  have cc:FN n 119 [dR a,.fn 120 [.dp [il c.p,il c.no,il c.kd,il c.dy,il c.kn,il c.op,il c.on,sD c.tx] 0]]=_:=c119 c
  have hf:=fdx_find c (a.getD [])
  have hm:(acc.map recR).length=acc.length:=List.length_map _
  have f1:(acc.length+1)*72≤140737488355328∧acc.length+1≤9223372036854775807:=by omega
  rw [jn]
  cases hx:fdx c.p c.no (a.getD []) with
  | none =>
   rw [hx] at hf cc
   simp only at hf
   simp only [fdZ] at cc
   rw [hf]
   have ih':=ih (acc++[c]) (by simp;omega)
   rw [cast1,List.length_append,List.length_singleton,List.map_append,List.map_cons,List.map_nil] at ih'
   have e:jnO acc ((jn (a.getD []) t).map (c::·))=jnO (acc++[c]) (jn (a.getD []) t):=by
    cases jn (a.getD []) t with
    | none=>rfl
    | some f=>simp only [Option.map_some,jnO,List.append_assoc,List.singleton_append]
   simp only
   rw [e,← ih']
   simp only [L58_0,r_ld0,r_lds,r_ln0,r_lns,r_lr0,r_lrs,r_lss,hlt',decide_true,if_true,r_cond,rowR hi,cR0,cR1,cR2,cR3,cR4,cR5,cR6,cR7,r_fnD,r_dpD,r_call,cc,r_bnd0,r_litsg,List.all_cons,List.all_nil,yl_i,Bool.and_true,r_liti,show ((-1:Int) < 0) by decide,r_natN,r_rows,r_len,List.length_cons,List.length_nil,Nat.zero_add,r_eqN,hm,r_seg0,List.take_succ_cons,List.take_zero,r_addN,r_fitsg,if_pos f1,r_add,hw,r_app]
   rfl
  | some j =>
   rw [hx] at hf cc
   simp only at hf
   simp only [fdZ] at cc
   obtain ⟨x,hj,hf⟩:=hf
   rw [hf]
   have ih':=ih acc (by omega)
   rw [cast1] at ih'
   have hnj:¬ ((j:Int) < 0):=by omega
   simp only [L58_0,r_ld0,r_lds,r_ln0,r_lns,r_lr0,r_lrs,r_lss,hlt',decide_true,if_true,r_cond,rowR hi,cR0,cR1,cR2,cR3,cR4,cR5,cR6,cR7,r_fnD,r_dpD,r_call,cc,r_bnd0,r_litsg,List.all_cons,List.all_nil,yl_i,Bool.and_true,r_liti,hnj,decide_false,Bool.false_eq_true,if_false,rowR hj,eqR,r_out,r_add,hw,ih']
   by_cases he:x=c
   ·simp only [he,decide_true,Bool.not_true,Bool.false_eq_true,if_false,if_true]
   ·simp only [he,decide_false,Bool.not_false,if_true,if_false,jnO]
theorem l58_1 (n:Nat) (b:Option (List Rec)) (hlb:(b.getD []).length≤60) (c119:∀ r,FN n 119 [dR none,.fn 120 [.dp (recR r) 0]]=some (0,[.d (il (-1))])) :
  loopR [L58_1 (RP n),L58_2 (RP n)] M0 0 [.d (dR none),.d (dR none),.d (dR b),.d (il (b.getD []).length),.d (il 0)]=match b.getD [] with
   | []=>some (1,[.d (dR none)])
   | c::t=>some (2,[.n (c::t).length,.n (c::t).length,.r ((c::t).map recR)]):=by
 refine two_loop (b.getD []) (by omega) (L58_1 (RP n)) (L58_2 (RP n)) [.d (dR none),.d (dR none),.d (dR b),.d (il (b.getD []).length),.d (il 0)] (fun i=>[.d (dR none),.n ((b.getD []).take i).length,.n ((b.getD []).take i).length,.d (dR b),.d (il (b.getD []).length),.d (il i),.r (((b.getD []).take i).map recR)]) (fun i=>0 < i)
  (fun _ _=>match b.getD [] with
   | []=>some (1,[.d (dR none)])
   | c::t=>some (2,[.n (c::t).length,.n (c::t).length,.r ((c::t).map recR)])) ?_ ?_ ?_ ?_
 ·intro h k
  rw [h]
  simp only [L58_1,r_ld0,r_lds,h,List.length_nil,r_lss,show ¬ ((0:Int) < ((0:Nat):Int)) by decide,decide_false,Bool.false_eq_true,if_false,r_cond,r_out]
 ·intro c r k h ih
  have hi:(b.getD [])[0]?=some c:=by rw [h];rfl
  have hlt:(0:Int) < (((b.getD []).length:Nat):Int):=by rw [h];simp only [List.length_cons];omega
  have rr:∀ k:List D→Out,(RP n).rowD 8 (dR b) (il 0) k=k (recR c):=fun k=>rowR (i:=0) hi k
  have w1:IntKind.i64.wrap (0+1)=1:=by decide
  have cc:FN n 119 [dR none,.fn 120 [.dp [il c.p,il c.no,il c.kd,il c.dy,il c.kn,il c.op,il c.on,sD c.tx] 0]]=_:=c119 c
  have hnil:∀ k:Out,(RP n).nilD (dR none) k=k:=fun k=>rfl
  have hf:1*72≤140737488355328∧1≤9223372036854775807:=by decide
  have ih':=ih (by decide)
  rw [take_one h] at ih'
  simp only [L58_1,r_ld0,r_lds,r_lss,hlt,decide_true,if_true,r_cond,rr,cR0,cR1,cR2,cR3,cR4,cR5,cR6,cR7,r_fnD,r_dpD,r_call,cc,r_bnd0,r_litsg,List.all_cons,List.all_nil,yl_i,Bool.and_true,r_liti,show ((-1:Int) < 0) by decide,r_natN,r_rows,r_len,List.length_cons,List.length_nil,Nat.zero_add,r_eqN,hnil,r_seg0,List.take_succ_cons,List.take_zero,r_isNil1,r_fitsg,if_pos hf,r_add,w1]
  exact ih'
 ·intro h0 k
  simp only [L58_2,r_ld0,r_lds,r_ln0,r_lns,r_lr0,r_lrs,r_lss,Int.lt_irrefl,decide_false,Bool.false_eq_true,if_false,r_cond,r_out,List.take_length]
  cases h:b.getD [] with
  | nil=>rw [h] at h0;exact absurd h0 (by decide)
  | cons c t=>rfl
 ·intro i c r k hi0 hi hd hlt hw _ ih
  have hlt':(i:Int) < (((b.getD []).length:Nat):Int):=by omega
  have cc:FN n 119 [dR none,.fn 120 [.dp [il c.p,il c.no,il c.kd,il c.dy,il c.kn,il c.op,il c.on,sD c.tx] 0]]=_:=c119 c
  have hm:(((b.getD []).take i).map recR).length=((b.getD []).take i).length:=List.length_map _
  have hlen:((b.getD []).take i).length=i:=by rw [List.length_take];omega
  have f1:(((b.getD []).take i).length+1)*72≤140737488355328∧((b.getD []).take i).length+1≤9223372036854775807:=by omega
  have ih':=ih (Nat.succ_pos i)
  rw [cast1,take_snoc hi,List.length_append,List.length_singleton,List.map_append,List.map_cons,List.map_nil] at ih'
  simp only [L58_2,r_ld0,r_lds,r_ln0,r_lns,r_lr0,r_lrs,r_lss,hlt',decide_true,if_true,r_cond,rowR hi,cR0,cR1,cR2,cR3,cR4,cR5,cR6,cR7,r_fnD,r_dpD,r_call,cc,r_bnd0,r_litsg,List.all_cons,List.all_nil,yl_i,Bool.and_true,r_liti,show ((-1:Int) < 0) by decide,r_natN,r_rows,r_len,List.length_cons,List.length_nil,Nat.zero_add,r_eqN,hm,r_seg0,List.take_succ_cons,List.take_zero,r_addN,r_fitsg,if_pos f1,r_add,hw,r_app]
  exact ih'
theorem tail_sort (n:Nat) (l:List Rec) (hl:l.length≤120) (hd:l.length≤60→isLog l=true):∃ q,((RP (n+7)).lenD (.sl 8 (l.map recR)) fun x7=>(RP (n+7)).bin .gtr false x7 (il 60) fun x8=>(RP (n+7)).cond x8 (some (0,[.d (.lit (.slice none 0 0)),.d (il 2)])) ((RP (n+7)).bnd (FN (n+7) 121 [.sl 8 (l.map recR)]) [fun y9=>some (0,[.d ((RP (n+7)).ld y9 0),.d (il 0)])]))=some (0,[.d (dR q),.d (il (if 60 < l.length then 2 else 0))])∧q.getD []=if 60 < l.length then [] else srt l:=by
 by_cases h:60 < l.length
 ·have h':(60:Int) < (l.length:Int):=by omega
  refine ⟨none,?_,by rw [if_pos h];rfl⟩
  rw [if_pos h,r_lenD,List.length_map]
  simp only [r_gtr,h',decide_true,r_cond,if_true]
  rfl
 ·have h':¬ ((60:Int) < (l.length:Int)):=by omega
  have hlg:=hd (by omega)
  have c:FN (n+7) 121 [.sl 8 (l.map recR)]=some (0,[.d (dR (some (insort l)))]):=t121 (n+5) l (by omega) (log_diff hlg)
  refine ⟨some (insort l),?_,by rw [if_neg h,Option.getD_some,insort_eq hlg]⟩
  rw [if_neg h,r_lenD,List.length_map]
  simp only [r_gtr,h',decide_false,r_cond,Bool.false_eq_true,if_false,c,r_bnd0,r_ld0]
theorem jn_log {a b f:List Rec} (ha:isLog a=true) (hb:isLog b=true) (hj:jn a b=some f) (hl:(a++f).length≤60):isLog (a++f)=true:=by
 have h:=jn_spec ha b
 rw [hj] at h
 obtain ⟨_,rfl⟩:=h
 exact joined_log ha hb hl
theorem jn_le (a:List Rec):∀ (b:List Rec) {f:List Rec},jn a b=some f→f.length≤b.length
 | [],f,h=>by
  simp only [jn,Option.some.injEq] at h
  subst h
  exact Nat.le_refl _
 | r::t,f,h=>by
  unfold jn at h
  split at h
  ·obtain ⟨g,hg,rfl⟩:=Option.map_eq_some_iff.1 h
   have:=jn_le a t hg
   simp only [List.length_cons];omega
  ·split at h
   ·have:=jn_le a t h
    simp only [List.length_cons];omega
   ·cases h
theorem s58 (n:Nat) (a b:Option (List Rec)) (hla:(a.getD []).length≤4611686018427387904) (hlb:(b.getD []).length≤4611686018427387904):∃ q,FN (n+8) 58 [dR a,dR b]=some (0,[.d (dR q),.d (il (joinZ (a.getD []) (b.getD [])).2)])∧q.getD []=(joinZ (a.getD []) (b.getD [])).1:=by
 have ca:=s60 n a hla
 have cb:=s60 n b hlb
 have hk0:chkZ true=0:=rfl
 have hk1:chkZ false=81:=rfl
 rw [F58]
 unfold joinZ
 by_cases hba:bookB (a.getD [])=true
 ·rw [hba] at ca ⊢
  by_cases hbb:bookB (b.getD [])=true
  ·rw [hbb] at cb ⊢
   have hA:=(bookB_iff _).1 hba
   have hB:=(bookB_iff _).1 hbb
   have h60:=log_len hA.1
   have h61:=log_len hB.1
   rw [if_pos (show (true&&true)=true from rfl)]
   cases a with
   | some l =>
    simp only [Option.getD_some] at *
    have c:=s83 (n+6) l (by omega)
    have hm:(l.map recR).length=l.length:=List.length_map _
    have lp:=l58_0 (n+7) (some l) b (by simpa using h60) h61 l h60 (fun r=>s119 (n+5) (some l) r (by simpa using hla))
    simp only [Option.getD_some] at lp
    unfold joinJ
    cases hj:jn l (b.getD []) with
    | none =>
     rw [hj] at lp
     refine ⟨none,?_,rfl⟩
     simp only [G58,lenL,r_call,ca,cb,hk0,c,r_bnd0,r_ld0,r_neq,ne_eq,not_true,decide_false,Bool.false_eq_true,if_false,r_cond,r_lr0,r_len,hm,r_loop,r_liti,lp,jnO,r_litNil,r_out]
     rfl
    | some f =>
     rw [hj] at lp
     have hfl:=jn_le l _ hj
     have hm2:((l++f).map recR).length=(l++f).length:=List.length_map _
     have ht:((l++f).map recR).take (l++f).length=(l++f).map recR:=List.take_of_length_le (by simp)
     obtain ⟨q,e1,e2⟩:=tail_sort n (l++f) (by rw [List.length_append];omega) (fun h=>jn_log hA.1 hB.1 hj h)
     refine ⟨q,?_,?_⟩
     ·simp only [G58,lenL,r_call,ca,cb,hk0,c,r_bnd0,r_ld0,r_neq,ne_eq,not_true,decide_false,Bool.false_eq_true,if_false,r_cond,r_lr0,r_len,hm,r_loop,r_liti,lp,jnO,r_bnd1,r_ln0,r_lns,r_lr0,r_lrs,hm2,r_eqN,if_true,r_seg0,ht,r_slD,r_litNil,r_out]
      rw [e1]
      by_cases h:60 < (l++f).length
      ·simp only [if_pos h]
      ·simp only [if_neg h]
     ·rw [e2]
      by_cases h:60 < (l++f).length
      ·simp only [if_pos h]
      ·simp only [if_neg h]
   | none =>
    simp only [Option.getD_none] at *
    have c:=s83n (n+6)
    have hnil:(dR none:D)=.lit (.slice none 0 0):=rfl
    have lp:=l58_1 (n+7) b h61 (fun r=>s119 (n+5) none r (by simp))
    unfold joinJ
    rw [jn_nil]
    simp only [List.nil_append]
    cases hb:b.getD [] with
    | nil =>
     rw [hb] at lp
     have c2:FN (n+7) 121 [.lit (.slice none 0 0)]=_:=t121n (n+5)
     rw [hnil] at ca lp c2
     refine ⟨none,?_,?_⟩
     ·rw [hnil]
      simp only [G58,lenL,r_call,ca,cb,hk0,c,r_bnd0,r_bnd1,r_ld0,r_neq,ne_eq,not_true,decide_false,Bool.false_eq_true,if_false,r_cond,r_loop,r_liti,hb,lp,r_lenN,r_gtr,show ¬ ((60:Int) < 0) by decide,c2,r_litNil,r_out]
      rfl
     ·rw [if_neg (by decide)];rfl
    | cons x t =>
     rw [hb] at lp hbb hB h61
     rw [hnil] at ca lp
     have hm2:((x::t).map recR).length=(x::t).length:=List.length_map _
     have ht:((x::t).map recR).take (x::t).length=(x::t).map recR:=List.take_of_length_le (by simp)
     obtain ⟨q,e1,e2⟩:=tail_sort n (x::t) (by omega) (fun _=>hB.1)
     refine ⟨q,?_,?_⟩
     ·rw [hnil]
      simp only [G58,lenL,r_call,ca,cb,hk0,c,r_bnd0,r_bnd1,r_ld0,r_neq,ne_eq,not_true,decide_false,Bool.false_eq_true,if_false,r_cond,r_loop,r_liti,hb,lp,r_bnd2,r_ln0,r_lns,r_lr0,r_lrs,r_len,hm2,r_eqN,if_true,r_seg0,ht,r_slD,r_litNil,r_out]
      rw [e1]
      by_cases h:60 < (x::t).length
      ·simp only [if_pos h]
      ·simp only [if_neg h]
     ·rw [e2]
      by_cases h:60 < (x::t).length
      ·simp only [if_pos h]
      ·simp only [if_neg h]
  ·rw [Bool.not_eq_true] at hbb
   rw [hbb] at cb ⊢
   refine ⟨none,?_,rfl⟩
   simp only [G58,r_call,ca,cb,hk0,hk1,r_bnd0,r_ld0,r_neq,ne_eq,not_true,show ¬ ((81:Int)=0) by decide,not_false_eq_true,decide_true,decide_false,Bool.false_eq_true,if_false,if_true,r_cond,r_liti,r_litNil,r_out]
   rfl
 ·rw [Bool.not_eq_true] at hba
  rw [hba] at ca ⊢
  refine ⟨none,?_,rfl⟩
  simp only [G58,r_call,ca,hk1,r_bnd0,r_ld0,r_neq,ne_eq,show ¬ ((81:Int)=0) by decide,not_false_eq_true,decide_true,if_true,r_cond,r_liti,r_litNil,r_out]
  rfl
end Go.VE
namespace Go.VE
open Go.RowKit Go.Proofs Go.Lib
set_option maxRecDepth 100000
def srtZ (l:List Rec):List Rec×Int:=if isLog l=true then (srt l,0) else ([],81)
theorem s59 (n:Nat) (o:Option (List Rec)) (hl:(o.getD []).length≤4611686018427387904):∃ q,FN (n+7) 59 [dR o]=some (0,[.d (dR q),.d (il (srtZ (o.getD [])).2)])∧q.getD []=(srtZ (o.getD [])).1:=by
 have h:=s122 n o hl
 rw [F59]
 unfold srtZ
 by_cases hk:isLog (o.getD [])=true
 ·have h60:=log_len hk
  have c:FN (n+6) 121 [dR o]=some (0,[.d (dR (o.map insort))]):=by
   cases o with
   | none=>exact t121n (n+4)
   | some l=>exact t121 (n+4) l (by simp only [Option.getD_some] at h60;omega) (log_diff hk)
  rw [hk] at h
  rw [if_pos hk]
  refine ⟨o.map insort,?_,?_⟩
  ·simp only [G59,r_call,h,c,r_bnd0,r_ld0,r_not,Bool.not_true,r_cond,Bool.false_eq_true,if_false,r_liti,r_out]
  ·cases o with
   | none=>rfl
   | some l=>exact insort_eq hk
 ·rw [Bool.not_eq_true] at hk
  rw [hk] at h
  rw [if_neg (by simp [hk])]
  refine ⟨none,?_,rfl⟩
  simp only [G59,r_call,h,r_bnd0,r_ld0,r_not,Bool.not_false,r_cond,if_true,r_liti,r_litNil,r_out]
  rfl
theorem s63 (n:Nat) (o:Option (List Rec)) (hl:(o.getD []).length≤4611686018427387904):∃ q,FN (n+7) 63 [dR o]=some (0,[.d (dR q),.d (il (srtZ (o.getD [])).2)])∧q.getD []=(srtZ (o.getD [])).1:=by
 have h:=s97 n o hl
 rw [F63]
 unfold srtZ
 by_cases hk:isLog (o.getD [])=true
 ·have h60:=log_len hk
  obtain ⟨q,c,hq⟩:=s125 (n+3) o (by omega)
  rw [hk] at h
  rw [if_pos hk]
  refine ⟨q,?_,by rw [hq,insort_eq hk]⟩
  simp only [G63,r_call,h,c,r_bnd0,r_ld0,r_not,Bool.not_true,r_cond,Bool.false_eq_true,if_false,r_liti,r_out]
 ·rw [Bool.not_eq_true] at hk
  rw [hk] at h
  rw [if_neg (by simp [hk])]
  refine ⟨none,?_,rfl⟩
  simp only [G63,r_call,h,r_bnd0,r_ld0,r_not,Bool.not_false,r_cond,if_true,r_liti,r_litNil,r_out]
  rfl
def addZ (l:List Rec) (r:Rec):List Rec×Int:=if bookB l=true then (if (addsP l r).2=0 then (if (addsP l r).1=true then (l,0) else (srt (l++[r]),0)) else ([],(addsP l r).2)) else ([],81)
theorem book_six {l:List Rec} (h:isBook l):∀ x∈l,sixP x:=fun x hx=>okR_six (log_okR h.1 x hx)
theorem s65 (n:Nat) (o:Option (List Rec)) (r:Rec) (hl:(o.getD []).length≤4611686018427387904):∃ q,FN (n+8) 65 (dR o::recR r)=some (0,[.d (dR q),.d (il (addZ (o.getD []) r).2)])∧q.getD []=(addZ (o.getD []) r).1:=by
 have h:=s57 n o hl
 show ∃ q,FN (n+8) 65 [dR o,il r.p,il r.no,il r.kd,il r.dy,il r.kn,il r.op,il r.on,sD r.tx]=_∧_
 rw [F65]
 unfold addZ
 have ha:=s84 (n+2) o r hl
 have ha':FN (n+7) 84 [dR o,il r.p,il r.no,il r.kd,il r.dy,il r.kn,il r.op,il r.on,sD r.tx]=some (0,[.d (bl (addsP (o.getD []) r).1),.d (il (addsP (o.getD []) r).2)]):=ha
 by_cases hb:bookB (o.getD [])=true
 ·have hbk:=(bookB_iff _).1 hb
  have h60:=log_len hbk.1
  have hk0:chkZ true=0:=rfl
  rw [hb] at h
  rw [if_pos hb]
  by_cases he:(addsP (o.getD []) r).2=0
  ·rw [if_pos he]
   rw [he] at ha'
   by_cases hi:(addsP (o.getD []) r).1=true
   ·rw [if_pos hi]
    rw [hi] at ha'
    obtain ⟨q,c,hq⟩:=s125 (n+4) o (by omega)
    refine ⟨q,?_,by rw [hq,insort_eq hbk.1,book_srt hbk]⟩
    simp only [G65,r_call,h,hk0,ha',c,r_bnd0,r_ld0,r_lds,r_neq,ne_eq,not_true,decide_false,Bool.false_eq_true,if_false,r_cond,if_true,r_liti,r_out]
   ·rw [if_neg hi]
    rw [Bool.not_eq_true] at hi
    rw [hi] at ha'
    have hn:=adds_next hbk.1 (r:=r) (Prod.ext hi he)
    obtain ⟨hput,_⟩:=put_book hbk hn
    have c:=s126 (n+5) o r (by omega)
    have c':FN (n+7) 126 [dR o,il r.p,il r.no,il r.kd,il r.dy,il r.kn,il r.op,il r.on,sD r.tx]=some (0,[.d (dR (some (put (o.getD []) r)))]):=c
    refine ⟨some (put (o.getD []) r),?_,by rw [Option.getD_some,hput]⟩
    simp only [G65,r_call,h,hk0,ha',c',r_bnd0,r_ld0,r_lds,r_neq,ne_eq,not_true,decide_false,Bool.false_eq_true,if_false,r_cond,r_liti,r_out]
  ·rw [if_neg he]
   refine ⟨none,?_,rfl⟩
   simp only [G65,r_call,h,hk0,ha',r_bnd0,r_ld0,r_lds,r_neq,ne_eq,not_true,decide_false,Bool.false_eq_true,if_false,r_cond,he,not_false_eq_true,decide_true,if_true,r_litNil,r_liti,r_out]
   rfl
 ·rw [Bool.not_eq_true] at hb
  have hk1:chkZ false=81:=rfl
  rw [hb] at h
  rw [if_neg (by simp [hb])]
  refine ⟨none,?_,rfl⟩
  simp only [G65,r_call,h,hk1,r_bnd0,r_ld0,r_neq,ne_eq,show ¬ ((81:Int)=0) by decide,not_false_eq_true,decide_true,if_true,r_cond,r_litNil,r_liti,r_out]
  rfl
def haveY (l:List Rec):List Yr:=if bookB l=true then (cnts l).map .d++[.d (il 0)] else [.d (il 0),.d (il 0),.d (il 0),.d (il 0),.d (il 0),.d (il 0),.d (il 81)]
theorem s67 (n:Nat) (o:Option (List Rec)) (hl:(o.getD []).length≤4611686018427387904):FN (n+8) 67 [dR o]=some (0,haveY (o.getD [])):=by
 have h:=s60 n o hl
 rw [F67]
 unfold haveY
 by_cases hb:bookB (o.getD [])=true
 ·have h2:=s107 (n+6) o hl (book_six ((bookB_iff _).1 hb))
  have hk0:chkZ true=0:=rfl
  rw [hb] at h
  rw [if_pos hb]
  simp only [cnts,List.map_cons,List.map_nil] at h2 ⊢
  simp only [G67,r_call,h,hk0,h2,r_bnd0,r_ld0,r_lds,r_neq,ne_eq,not_true,decide_false,Bool.false_eq_true,if_false,r_cond,r_liti,r_out]
  rfl
 ·rw [Bool.not_eq_true] at hb
  have hk1:chkZ false=81:=rfl
  rw [hb] at h
  rw [if_neg (by simp [hb])]
  simp only [G67,r_call,h,hk1,r_bnd0,r_ld0,r_neq,ne_eq,show ¬ ((81:Int)=0) by decide,not_false_eq_true,decide_true,if_true,r_cond,r_liti,r_out]
theorem s68 (n:Nat) (o:Option (List Rec)) (hl:(o.getD []).length≤4611686018427387904):FN (n+8) 68 [dR o]=some (0,haveY (o.getD [])):=by
 have h:=s57 n o hl
 have l:∀ (m:Nat),loopR [L68_0 (RP (n+7))] m 0=loopR [L107_0 (RP (n+7))] m 0:=fun m=>rfl
 rw [F68]
 unfold haveY
 by_cases hb:bookB (o.getD [])=true
 ·have h2:=s107 (n+7) o hl (book_six ((bookB_iff _).1 hb))
  rw [F107] at h2
  have hk0:chkZ true=0:=rfl
  rw [hb] at h
  rw [if_pos hb]
  simp only [cnts,List.map_cons,List.map_nil] at h2 ⊢
  simp only [G107,lenL,r_loop,r_liti] at h2
  simp only [G68,lenL,r_call,h,hk0,r_bnd0,r_ld0,r_lds,r_neq,ne_eq,not_true,decide_false,Bool.false_eq_true,if_false,r_cond,r_liti,r_loop,r_out,l]
  revert h2
  cases loopR [L107_0 (RP (n+7))] M0 0 [.d (dR o),.d (il (o.getD []).length),.d (il 0),.d (il 0),.d (il 0),.d (il 0),.d (il 0),.d (il 0),.d (il 0),.d (il 0),.d (il 0),.d (il 0),.d (il 0),.d (il 0),.d (il 0)] with
  | none=>intro h2;simp at h2
  | some x =>
   intro h2
   obtain ⟨j,ys⟩:=x
   match j,h2 with
   | 0,h2 =>
    simp only [r_bnd0,r_out,Option.some.injEq,Prod.mk.injEq,true_and,List.cons.injEq,Y.d.injEq,and_true] at h2 ⊢
    obtain ⟨e0,e1,e2,e3,e4,e5⟩:=h2
    simp only [e0,e1,e2,e3,e4,e5]
    simp
   | j+1,h2=>simp [real] at h2
 ·rw [Bool.not_eq_true] at hb
  have hk1:chkZ false=81:=rfl
  rw [hb] at h
  rw [if_neg (by simp [hb])]
  simp only [G68,r_call,h,hk1,r_bnd0,r_ld0,r_neq,ne_eq,show ¬ ((81:Int)=0) by decide,not_false_eq_true,decide_true,if_true,r_cond,r_liti,r_out]
end Go.VE
namespace Go.VE
open Go.RowKit Go.Proofs
set_option maxRecDepth 1000000
def TK:List UInt8:=[97,32,107,101,121]
def recS:Rec:=⟨2,0,5,10,12,0,0,TK⟩
def TX:List UInt8:=txt recS
def T0:List UInt8:=third 0 TX
def T1:List UInt8:=third 1 TX
def T2:List UInt8:=third 2 TX
theorem ve80:FN 14 80 []=some (0,[.d (il 2),.d (il 0),.d (il 5),.d (il 10),.d (il 12),.d (il 0),.d (il 0),.d (sD TK)]):=by kernel_rfl
theorem ve13:FN 14 13 [il 2,il 0,il 5,il 10,il 12,il 0,il 0,sD TK,il 0]=some (0,[.d (.sl 3 [[il 0,il 21,sD T0],[il 0,il 21,sD T1],[il 0,il 21,sD T2]]),.d (il 0)]):=by kernel_rfl
theorem ve15a:FN 14 15 [il 0,il 0,il 21,sD T0,il 2,il 0,il 21,sD T2]=some (0,[.d (sD TX),.d (il 0)]):=by kernel_rfl
theorem ve15b:FN 14 15 [il 2,il 0,il 21,sD T2,il 1,il 0,il 21,sD T1]=some (0,[.d (sD TX),.d (il 0)]):=by kernel_rfl
theorem ve15c:FN 14 15 [il 0,il 0,il 21,sD T0,il 0,il 0,il 21,sD T0]=some (0,[.d (sD []),.d (il 1)]):=by kernel_rfl
theorem ve18a:FN 14 18 [il 0,il 0,il 21,sD T1]=some (0,[.d (il 0)]):=by kernel_rfl
theorem ve18b:FN 14 18 [il 1,il 0,il 21,sD T0]=some (0,[.d (il 84)]):=by kernel_rfl
theorem ve21:FN 14 21 [.lit (.slice none 0 0),.lit (.slice none 0 0),.lit (.slice none 0 0),il 0,il 0,il 0,.lit (.slice none 0 0),il 2,il 0,il 5,il 10,il 12,il 0,il 0,sD TK]=some (0,[.d (.sl 3 [[il 0,il 21,sD T0]]),.d (.sl 3 [[il 0,il 21,sD T1]]),.d (.sl 3 [[il 0,il 21,sD T2]]),.d (il 0),.d (il 0),.d (il 0),.d (.sl 8 [[il 2,il 0,il 5,il 10,il 12,il 0,il 0,sD TK]]),.d (il 0)]):=by kernel_rfl
theorem ve29a:FN 14 29 [.sl 3 [[il 0,il 21,sD T0]],.sl 3 [[il 0,il 21,sD T1]],.sl 3 [[il 0,il 21,sD T2]],il 0,il 0,il 0,.sl 1 [[il 3],[il 2],[il 0],[il 0],[il 0],[il 2],[il 0]]]=some (0,[.d (.sl 3 [[il 0,il 21,sD T0]]),.d (.sl 3 []),.d (.sl 3 [[il 0,il 21,sD T2]]),.d (il 0),.d (il 0),.d (il 0)]):=by kernel_rfl
theorem ve23a:FN 14 23 [.sl 3 [[il 0,il 21,sD T0]],.sl 3 [],.sl 3 [[il 0,il 21,sD T2]],il 0,il 0,il 0]=some (0,[.d (.sl 3 [[il 0,il 21,sD T0]]),.d (.sl 3 [[il 0,il 21,sD T1]]),.d (.sl 3 [[il 0,il 21,sD T2]]),.d (il 1),.d (il 1),.d (il 1),.d (.sl 8 [[il 2,il 0,il 5,il 10,il 12,il 0,il 0,sD TK]])]):=by kernel_rfl
theorem ve29b:FN 14 29 [.sl 3 [[il 0,il 21,sD T0]],.sl 3 [[il 0,il 21,sD T1]],.sl 3 [[il 0,il 21,sD T2]],il 0,il 0,il 0,.sl 1 [[il 3],[il 2],[il 0],[il 0],[il 0],[il 1],[il 4]]]=some (0,[.d (.sl 3 [[il 0,il 21,sD T0]]),.d (.sl 3 []),.d (.sl 3 [[il 0,il 21,sD (T2.take 4)]]),.d (il 0),.d (il 0),.d (il 0)]):=by kernel_rfl
theorem ve23b:FN 14 23 [.sl 3 [[il 0,il 21,sD T0]],.sl 3 [],.sl 3 [[il 0,il 21,sD (T2.take 4)]],il 0,il 0,il 0]=some (0,[.d (.lit (.slice none 0 0)),.d (.lit (.slice none 0 0)),.d (.lit (.slice none 0 0)),.d (il 0),.d (il 0),.d (il 0),.d (.lit (.slice none 0 0))]):=by kernel_rfl
theorem ve27:FN 14 27 [.sl 3 [[il 0,il 21,sD T0]],.sl 3 [[il 0,il 21,sD T1]],.sl 3 [[il 0,il 21,sD T2]],il 0,il 0,il 0]=some (0,[.d (.sl 3 [[il 0,il 21,sD T0]]),.d (.sl 3 [[il 0,il 21,sD T1]]),.d (.sl 3 [[il 0,il 21,sD T2]]),.d (il 1),.d (il 1),.d (il 1)]):=by kernel_rfl
theorem ve29c:FN 14 29 [.sl 3 [[il 0,il 21,sD T0]],.sl 3 [[il 0,il 21,sD T1]],.sl 3 [[il 0,il 21,sD T2]],il 1,il 1,il 1,.sl 1 [[il 1]]]=some (0,[.d (.sl 3 [[il 0,il 21,sD T0]]),.d (.lit (.slice none 0 0)),.d (.sl 3 [[il 0,il 21,sD T2]]),.d (il 1),.d (il 0),.d (il 1)]):=by kernel_rfl
theorem ve23c:FN 14 23 [.sl 3 [[il 0,il 21,sD T0]],.lit (.slice none 0 0),.sl 3 [[il 0,il 21,sD T2]],il 1,il 0,il 1]=some (0,[.d (.sl 3 [[il 0,il 21,sD T0]]),.d (.sl 3 [[il 0,il 21,sD T1]]),.d (.sl 3 [[il 0,il 21,sD T2]]),.d (il 1),.d (il 1),.d (il 1),.d (.sl 8 [[il 2,il 0,il 5,il 10,il 12,il 0,il 0,sD TK]])]):=by kernel_rfl
theorem ve37a:FN 14 37 [il 2]=some (0,[.d (il 2),.d (.lit (.slice none 0 0)),.d (.lit (.slice none 0 0)),.d (.lit (.slice none 0 0)),.d (il 0),.d (il 0),.d (il 0),.d (.lit (.slice none 0 0)),.d (il 0),.d (il 0),.d (il 0),.d (il 0),.d (il 0),.d (il 0),.d (il 0),.d (il 0),.d (il 0),.d (il 0),.d (il 0),.d (il 0),.d (il 0),.d (il 0),.d (il 0),.d (il 0),.d (il 0),.d (il 0),.d (il 0),.d (il 0),.d (il 0),.d (il 0),.d (il 0),.d (il 0),.d (il 0),.d (il 0),.d (il 0),.d (il 0),.d (il 0),.d (il 0),.d (il 0),.d (il 0),.d (il 0),.d (il 0),.d (il 0),.d (il 0),.d (il 0)]):=by kernel_rfl
theorem ve39:FN 14 39 [il 2,.lit (.slice none 0 0),.lit (.slice none 0 0),.lit (.slice none 0 0),il 0,il 0,il 0,.lit (.slice none 0 0),il 0,il 0,il 0,il 0,il 0,il 0,il 0,il 0,il 0,il 0,il 0,il 0,il 0,il 0,il 0,il 0,il 0,il 0,il 0,il 0,il 0,il 0,il 0,il 0,il 0,il 0,il 0,il 0,il 0,il 0,il 0,il 0,il 0,il 0,il 0,il 0,il 2,il 0,il 5,il 10,il 12,il 0,il 0,sD TK]=some (0,[.d (il 2),.d (.sl 3 [[il 0,il 21,sD T0]]),.d (.sl 3 [[il 0,il 21,sD T1]]),.d (.sl 3 [[il 0,il 21,sD T2]]),.d (il 0),.d (il 0),.d (il 0),.d (.sl 8 [[il 2,il 0,il 5,il 10,il 12,il 0,il 0,sD TK]]),.d (il 0),.d (il 0),.d (il 0),.d (il 0),.d (il 0),.d (il 0),.d (il 0),.d (il 0),.d (il 0),.d (il 0),.d (il 0),.d (il 0),.d (il 0),.d (il 0),.d (il 0),.d (il 0),.d (il 0),.d (il 0),.d (il 0),.d (il 0),.d (il 0),.d (il 0),.d (il 0),.d (il 0),.d (il 0),.d (il 0),.d (il 0),.d (il 0),.d (il 0),.d (il 0),.d (il 0),.d (il 0),.d (il 0),.d (il 0),.d (il 0),.d (il 0),.d (il 2),.d (il 0),.d (il 5),.d (il 10),.d (il 12),.d (il 0),.d (il 0),.d (sD TK),.d (il 0)]):=by kernel_rfl
theorem ve41:FN 14 41 [il 2,.sl 3 [[il 0,il 21,sD T0]],.sl 3 [[il 0,il 21,sD T1]],.sl 3 [[il 0,il 21,sD T2]],il 0,il 0,il 0,.sl 8 [[il 2,il 0,il 5,il 10,il 12,il 0,il 0,sD TK]],il 0,il 0,il 0,il 0,il 0,il 0,il 0,il 0,il 0,il 0,il 0,il 0,il 0,il 0,il 0,il 0,il 0,il 0,il 0,il 0,il 0,il 0,il 0,il 0,il 0,il 0,il 0,il 0,il 0,il 0,il 0,il 0,il 0,il 0,il 0,il 0,il 3,il 2]=some (0,[.d (il 2),.d (.sl 3 [[il 0,il 21,sD T0]]),.d (.sl 3 [[il 0,il 21,sD T1]]),.d (.sl 3 [[il 0,il 21,sD T2]]),.d (il 1),.d (il 1),.d (il 1),.d (.sl 8 [[il 2,il 0,il 5,il 10,il 12,il 0,il 0,sD TK]]),.d (il 0),.d (il 0),.d (il 0),.d (il 0),.d (il 0),.d (il 0),.d (il 0),.d (il 0),.d (il 0),.d (il 0),.d (il 0),.d (il 0),.d (il 0),.d (il 0),.d (il 0),.d (il 0),.d (il 0),.d (il 0),.d (il 0),.d (il 0),.d (il 0),.d (il 0),.d (il 0),.d (il 0),.d (il 0),.d (il 0),.d (il 0),.d (il 0),.d (il 0),.d (il 0),.d (il 0),.d (il 0),.d (il 0),.d (il 0),.d (il 0),.d (il 0),.d (il 2),.d (il 3),.d (il 2),.d (il 1),.d (il 1),.d (.lit (.slice none 0 0)),.d (il 0)]):=by kernel_rfl
theorem ve37b:FN 14 37 [il 3]=some (0,[.d (il 3),.d (.lit (.slice none 0 0)),.d (.lit (.slice none 0 0)),.d (.lit (.slice none 0 0)),.d (il 0),.d (il 0),.d (il 0),.d (.lit (.slice none 0 0)),.d (il 0),.d (il 0),.d (il 0),.d (il 0),.d (il 0),.d (il 0),.d (il 0),.d (il 0),.d (il 0),.d (il 0),.d (il 0),.d (il 0),.d (il 0),.d (il 0),.d (il 0),.d (il 0),.d (il 0),.d (il 0),.d (il 0),.d (il 0),.d (il 0),.d (il 0),.d (il 0),.d (il 0),.d (il 0),.d (il 0),.d (il 0),.d (il 0),.d (il 0),.d (il 0),.d (il 0),.d (il 0),.d (il 0),.d (il 0),.d (il 0),.d (il 0),.d (il 0)]):=by kernel_rfl
theorem ve43a:FN 14 43 [il 3,.lit (.slice none 0 0),.lit (.slice none 0 0),.lit (.slice none 0 0),il 0,il 0,il 0,.lit (.slice none 0 0),il 0,il 0,il 0,il 0,il 0,il 0,il 0,il 0,il 0,il 0,il 0,il 0,il 0,il 0,il 0,il 0,il 0,il 0,il 0,il 0,il 0,il 0,il 0,il 0,il 0,il 0,il 0,il 0,il 0,il 0,il 0,il 0,il 0,il 0,il 0,il 0,il 2,il 3,il 2,il 1,il 1,.lit (.slice none 0 0)]=some (0,[.d (il 3),.d (.lit (.slice none 0 0)),.d (.lit (.slice none 0 0)),.d (.lit (.slice none 0 0)),.d (il 0),.d (il 0),.d (il 0),.d (.lit (.slice none 0 0)),.d (il 0),.d (il 0),.d (il 0),.d (il 0),.d (il 0),.d (il 0),.d (il 0),.d (il 0),.d (il 0),.d (il 0),.d (il 0),.d (il 0),.d (il 0),.d (il 0),.d (il 1),.d (il 0),.d (il 0),.d (il 0),.d (il 0),.d (il 0),.d (il 0),.d (il 0),.d (il 0),.d (il 0),.d (il 0),.d (il 0),.d (il 0),.d (il 0),.d (il 0),.d (il 0),.d (il 0),.d (il 0),.d (il 0),.d (il 0),.d (il 0),.d (il 0),.d (.sl 6 [[il 3,il 2,il 2,il 0,il 0,.lit (.slice none 0 0)]]),.d (il 0)]):=by kernel_rfl
theorem ve43b:FN 14 43 [il 2,.sl 3 [[il 0,il 21,sD T0]],.sl 3 [[il 0,il 21,sD T1]],.sl 3 [[il 0,il 21,sD T2]],il 1,il 1,il 1,.sl 8 [[il 2,il 0,il 5,il 10,il 12,il 0,il 0,sD TK]],il 0,il 0,il 0,il 0,il 0,il 0,il 0,il 0,il 0,il 0,il 0,il 0,il 0,il 0,il 0,il 0,il 0,il 0,il 0,il 0,il 0,il 0,il 0,il 0,il 0,il 0,il 0,il 0,il 0,il 0,il 0,il 0,il 0,il 0,il 0,il 0,il 3,il 2,il 2,il 0,il 0,.lit (.slice none 0 0)]=some (0,[.d (il 2),.d (.sl 3 [[il 0,il 21,sD T0]]),.d (.sl 3 [[il 0,il 21,sD T1]]),.d (.sl 3 [[il 0,il 21,sD T2]]),.d (il 1),.d (il 1),.d (il 1),.d (.sl 8 [[il 2,il 0,il 5,il 10,il 12,il 0,il 0,sD TK]]),.d (il 0),.d (il 0),.d (il 0),.d (il 0),.d (il 0),.d (il 0),.d (il 0),.d (il 0),.d (il 0),.d (il 0),.d (il 0),.d (il 0),.d (il 0),.d (il 0),.d (il 0),.d (il 0),.d (il 0),.d (il 0),.d (il 0),.d (il 0),.d (il 0),.d (il 0),.d (il 0),.d (il 0),.d (il 0),.d (il 0),.d (il 0),.d (il 0),.d (il 0),.d (il 0),.d (il 0),.d (il 0),.d (il 0),.d (il 0),.d (il 0),.d (il 0),.d (.sl 6 [[il 2,il 3,il 2,il 1,il 0,.sl 8 [[il 2,il 0,il 5,il 10,il 12,il 0,il 0,sD TK]]]]),.d (il 0)]):=by kernel_rfl
theorem ve43c:FN 14 43 [il 3,.lit (.slice none 0 0),.lit (.slice none 0 0),.lit (.slice none 0 0),il 0,il 0,il 0,.lit (.slice none 0 0),il 0,il 0,il 0,il 0,il 0,il 0,il 0,il 0,il 0,il 0,il 0,il 0,il 0,il 0,il 1,il 0,il 0,il 0,il 0,il 0,il 0,il 0,il 0,il 0,il 0,il 0,il 0,il 0,il 0,il 0,il 0,il 0,il 0,il 0,il 0,il 0,il 2,il 3,il 2,il 1,il 0,.sl 8 [[il 2,il 0,il 5,il 10,il 12,il 0,il 0,sD TK]]]=some (0,[.d (il 3),.d (.sl 3 [[il 0,il 21,sD T0]]),.d (.sl 3 [[il 0,il 21,sD T1]]),.d (.sl 3 [[il 0,il 21,sD T2]]),.d (il 1),.d (il 1),.d (il 1),.d (.sl 8 [[il 2,il 0,il 5,il 10,il 12,il 0,il 0,sD TK]]),.d (il 0),.d (il 0),.d (il 0),.d (il 0),.d (il 0),.d (il 0),.d (il 0),.d (il 0),.d (il 0),.d (il 0),.d (il 0),.d (il 0),.d (il 0),.d (il 0),.d (il 1),.d (il 0),.d (il 0),.d (il 0),.d (il 0),.d (il 0),.d (il 0),.d (il 0),.d (il 0),.d (il 0),.d (il 0),.d (il 0),.d (il 0),.d (il 0),.d (il 0),.d (il 0),.d (il 0),.d (il 0),.d (il 0),.d (il 0),.d (il 0),.d (il 0),.d (.lit (.slice none 0 0)),.d (il 0)]):=by kernel_rfl
end Go.VE
namespace Go.VE
open Go.RowKit Go.Proofs Go.Shelf Go.Lib
set_option maxRecDepth 100000
set_option maxHeartbeats 1500000
theorem cut_idx:∀ (s:List UInt8),match cutSp s with
  | some (a,r)=>indexByte s 32=a.length∧s=a++32::r
  | none=>indexByte s 32=-1
 | []=>rfl
 | b::s=>by
  have ih:=cut_idx s
  unfold cutSp indexByte
  by_cases hb:b=32
  ·subst hb
   simp
  ·rw [if_neg hb]
   have hb':(b==32)=false:=by simpa using hb
   rw [hb',if_neg (by decide)]
   cases hc:cutSp s with
   | none =>
    rw [hc] at ih
    simp only at ih
    simp [ih]
   | some p =>
    obtain ⟨a,r⟩:=p
    rw [hc] at ih
    simp only at ih
    simp only [Option.map_some]
    rw [ih.1]
    refine ⟨?_,by rw [ih.2];rfl⟩
    have:((a.length:Int)==-1)=false:=by
     rw [beq_eq_false_iff_ne];omega
    rw [this,if_neg (by decide),List.length_cons]
    omega
theorem ext_l (a r:List UInt8):(⟨(a++32::r).toArray⟩:ByteArray).extract 0 a.length=⟨a.toArray⟩:=by
 apply ByteArray.ext
 rw [ByteArray.data_extract]
 simp
theorem ext_r (a r:List UInt8) {n:Nat} (hn:n=(a++32::r).length):(⟨(a++32::r).toArray⟩:ByteArray).extract (a.length+1) n=⟨r.toArray⟩:=by
 subst hn
 apply ByteArray.ext
 rw [ByteArray.data_extract]
 apply Array.ext'
 simp only [List.extract_toArray]
 simp only [List.extract,List.drop_append]
 rw [List.drop_of_length_le (by omega),List.nil_append,show a.length+1 - a.length=1 by omega]
 simp only [List.drop_succ_cons,List.drop_zero,List.size_toArray,List.length_append,List.length_cons]
 exact List.take_of_length_le (by omega)
def cutO (s:List UInt8):Ending:=match cutSp s with
 | some (a,r)=>.returned (.tuple #[.string ⟨a.toArray⟩,.string ⟨r.toArray⟩,.bool true])
 | none=>.returned (.tuple #[.string ⟨s.toArray⟩,.string ⟨#[]⟩,.bool false])
theorem cut159 (s:List UInt8) (hl:s.length≤281474976710656) (w:World):Calls Tryz.prog 159 #[.string ⟨s.toArray⟩,.string ⟨#[32]⟩] w fun e w'=>e=cutO s∧Below w.heap.size w w':=by
 have hi:=cut_idx s
 have hx:=Tryz.stringslite_Index_one ⟨s.toArray⟩ 32
 unfold cutO
 cases hc:cutSp s with
 | none =>
  rw [hc] at hi
  simp only at hi
  have hx':∀ w,Calls Tryz.prog 176 #[.string ⟨s.toArray⟩,.string ⟨#[32]⟩] w fun e w'=>e=.returned (.int .i64 (-1))∧w'=w:=fun w=>by
   have:=hx w
   rwa [show (⟨s.toArray⟩:ByteArray).data.toList=s by simp,hi] at this
  clear hx
  go_enter Tryz.func159,Tryz.ntmps159
  go_wp2_with (go_at_call 176;refine (hx' _).mono ?_;rintro e w' ⟨rfl,rfl⟩)
  go_ret3
  exact ⟨rfl,Below.refl _ _⟩
 | some p =>
  obtain ⟨a,r⟩:=p
  rw [hc] at hi
  simp only at hi
  obtain ⟨hi,rfl⟩:=hi
  have hx':∀ w,Calls Tryz.prog 176 #[.string ⟨(a++32::r).toArray⟩,.string ⟨#[32]⟩] w fun e w'=>e=.returned (.int .i64 a.length)∧w'=w:=fun w=>by
   have:=hx w
   rwa [show (⟨(a++32::r).toArray⟩:ByteArray).data.toList=a++32::r by simp,hi] at this
  clear hx hi
  have hsz:(⟨(a++32::r).toArray⟩:ByteArray).size=a.length+1+r.length:=by
   show (a++32::r).toArray.size=_
   simp;omega
  have e1:=ext_l a r
  have e2:=ext_r a r (n:=(⟨(a++32::r).toArray⟩:ByteArray).size) rfl
  obtain ⟨S,hS⟩:∃ S,(⟨(a++32::r).toArray⟩:ByteArray)=S:=⟨_,rfl⟩
  rw [hS] at hx' hsz e1 e2 ⊢
  clear hS
  have g0:(0:Int)≤(a.length:Int):=by omega
  have g1:(a.length:Int)≤(S.size:Int):=by omega
  have g2:(0:Int)≤(a.length:Int)+1:=by omega
  have g3:(a.length:Int)+1≤(S.size:Int):=by omega
  have hl':a.length+1≤281474976710656:=by simp only [List.length_append,List.length_cons] at hl;omega
  have g5:wrap64 ((a.length:Int)+1)=(a.length:Int)+1:=by unfold wrap64;omega
  clear hsz hl
  have g4:((a.length:Int)+1).toNat=a.length+1:=by omega
  go_enter Tryz.func159,Tryz.ntmps159
  go_wp2_with (go_at_call 176;refine (hx' _).mono ?_;rintro e w' ⟨rfl,rfl⟩)
  go_region
  go_wp2
  go_ret3
  exact ⟨rfl,(Below.refl _ _).drew⟩
theorem cut149 (s:List UInt8) (hl:s.length≤281474976710656) (w:World):Calls Tryz.prog 149 #[.string ⟨s.toArray⟩,.string ⟨#[32]⟩] w fun e w'=>e=cutO s∧Below w.heap.size w w':=by
 have h:=fun w=>cut159 s hl w
 unfold cutO at h ⊢
 cases hc:cutSp s with
 | none =>
  rw [hc] at h
  simp only at h
  go_enter Tryz.func149,Tryz.ntmps149
  go_wp2_with (go_at_call 159;refine (h _).mono ?_;rintro e w1 ⟨rfl,b1⟩)
  go_ret3
  exact ⟨rfl,b1⟩
 | some p =>
  obtain ⟨a,r⟩:=p
  rw [hc] at h
  simp only at h
  go_enter Tryz.func149,Tryz.ntmps149
  go_wp2_with (go_at_call 159;refine (h _).mono ?_;rintro e w1 ⟨rfl,b1⟩)
  go_ret3
  exact ⟨rfl,b1⟩
end Go.VE
