/- Book: how many records others have, walked. -/
import Derived.Test.YtipddjojdgapiaaGreatDoorMg1
import Derived.Test.YtipddjojdgapiaaGreatDoorMg7
import Derived.Test.YtipddjojdgapiaaGreatDoorMg2
import Derived.Test.YtipddjojdgapiaaGreatDoorMg0
import Derived.Test.YtipddjojdgapiaaGreatDoorMg6
import Derived.Test.YtipddjojdgapiaaGreatDoorMh
import Derived.Test.YtipddjojdgapiaaGreatDoorMg4
import Derived.Test.YtipddjojdgapiaaGreatDoorMg3
namespace Go.VE
open Go.RowKit Go.Proofs Go.Shelf Go.Lib
set_option maxRecDepth 100000
set_option maxHeartbeats 600000
theorem ix212 {cs:List Value} (hl:cs.length=36) {i:Nat} (hi:i < 6) (W:World):(Instr.index 212 (.agg cs.toArray) (.int .i64 i)).run Tryz.prog W=.ok (.agg ((cs.drop (6*i)).take 6).toArray) W:=by
 have hu:Tryz.prog.underlying 212=some (.array 6 72):=by kernel_rfl
 have hs:sizeC Tryz.prog 72=some 6:=by kernel_rfl
 have hg:aggC Tryz.prog 72=some true:=by kernel_rfl
 have hp:=part_ok (P:=Tryz.prog) (w:=W) (t:=72) (s:=6) (off:=i*6) (us:=cs) hs (by rw [hg];rfl) (.inl hg) (by omega)
 have e:mkVal Tryz.prog 72 ((cs.drop (i*6)).take 6)=.agg ((cs.drop (6*i)).take 6).toArray:=by
  unfold mkVal
  rw [if_pos hg,Nat.mul_comm]
 rw [e] at hp
 have h1:(0:Int)≤(i:Int)∧(i:Int) < ((6:Nat):Int):=by omega
 simp only [Instr.index,asIntOf,Sem.run_bind,Sem.run_pure,Result.andThen_ok,run_underlying hu,Sem.run_ite]
 rw [if_pos h1]
 simp only [Sem.run_bind,r_sizeOf hs,Result.andThen_ok,Int.toNat_natCast]
 exact hp
theorem six_of {zs:List Int} (hl:zs.length=36) {i:Nat} (hi:i < 6):∃ v0 v1 v2 v3 v4 v5,((zs.map (Value.int .i64)).drop (6*i)).take 6=[.int .i64 v0,.int .i64 v1,.int .i64 v2,.int .i64 v3,.int .i64 v4,.int .i64 v5]:=by
 rw [←List.map_drop,← List.map_take]
 have h:((zs.drop (6*i)).take 6).length=6:=by rw [List.length_take,List.length_drop];omega
 match (zs.drop (6*i)).take 6,h with
 | [v0,v1,v2,v3,v4,v5],_=>exact ⟨v0,v1,v2,v3,v4,v5,rfl⟩
theorem ints_v {w:World} {U:Nat→Prop}:∀ {xs:List D} {vs:List Value},FR w U xs vs→(xs.all fun x=>(dInt x).isSome)=true→∃ zs:List Int,vs=zs.map (Value.int .i64)
 | [],vs,h,_=>⟨[],by simpa [FR] using h⟩
 | x::xs,vs,h,ha=>by
  simp only [List.all_cons,Bool.and_eq_true] at ha
  obtain ⟨v,vs',rfl,h1,h2⟩:=h
  obtain ⟨zs,rfl⟩:=ints_v h2 ha.2
  obtain ⟨z,hz⟩:=Option.isSome_iff_exists.1 ha.1
  rw [dInt_some hz] at h1
  exact ⟨z::zs,by rw [il_v h1];rfl⟩
theorem FR_drop {w:World} {U:Nat→Prop}:∀ (k:Nat) {xs:List D} {vs:List Value},FR w U xs vs→FR w U (xs.drop k) (vs.drop k)
 | 0,xs,vs,h=>by simpa using h
 | k+1,[],vs,h=>by simp only [FR] at h;subst h;simp [FR]
 | k+1,x::xs,vs,h=>by
  obtain ⟨v,vs',rfl,_,h2⟩:=h
  simpa using FR_drop k h2
theorem FR_take {w:World} {U:Nat→Prop}:∀ (k:Nat) {xs:List D} {vs:List Value},FR w U xs vs→FR w U (xs.take k) (vs.take k)
 | 0,xs,vs,h=>by simp [FR]
 | k+1,[],vs,h=>by simp only [FR] at h;subst h;simp [FR]
 | k+1,x::xs,vs,h=>by
  obtain ⟨v,vs',rfl,h1,h2⟩:=h
  simp only [List.take_succ_cons,FR]
  exact ⟨v,_,rfl,h1,FR_take k h2⟩
theorem FR_lenT {w:World} {U:Nat→Prop}:∀ {xs:List D} {vs:List Value},FR w U xs vs→vs.length=xs.length
 | [],vs,h=>by simp only [FR] at h;subst h;rfl
 | x::xs,vs,h=>by
  obtain ⟨v,vs',rfl,_,h2⟩:=h
  simp [FR_lenT h2]
theorem RR_ones {w:World} {U:Nat→Prop} {b:Nat}:∀ {xs:List D} {vs:List Value} {o:Nat},FR w U xs vs→(∀ i v,vs[i]?=some v→w.cell? ⟨b,o+i,none⟩=some v)→RR w U b o 1 (xs.map fun x=>[x])
 | [],vs,o,h,_=>by simp [RR]
 | x::xs,vs,o,h,hc=>by
  obtain ⟨v,vs',rfl,h1,h2⟩:=h
  simp only [List.map_cons,RR,CR]
  refine ⟨rfl,⟨⟨v,by simpa using hc 0 v rfl,h1⟩,trivial⟩,RR_ones h2 fun i u hi=>?_⟩
  have:=hc (i+1) u (by simpa using hi)
  rwa [show o+(i+1)=o+1+i by omega] at this
theorem counts_c {Fn:Nat→List D→Out} (hF:FnOK Tryz.prog CF Fn) {xs:List D} (hx:xs.length=36) {res:Bool} (hr:tRows Fn 6 xs=some (0,[.d (bl res)])) {w:World} {U:Nat→Prop} (hU:∀ b,U b→b < w.heap.size) (hX:XX w U) {cs:List Value} (hc:FR w U xs cs) (hin:(xs.all fun x=>(dInt x).isSome)=true) :
  Calls Tryz.prog 144 #[.agg cs.toArray] w fun e w'=>e=.returned (.bool res)∧Below w.heap.size w w':=by
 have hl:cs.length=36:=(FR_lenT hc).trans hx
 obtain ⟨zs,hzs⟩:=ints_v hc hin
 have hlz:zs.length=36:=by rw [hzs,List.length_map] at hl;exact hl
 have H:∀ {W:World},Below w.heap.size w W→(∀ b,U b→b < W.heap.size)∧XX W U:=fun hb=>⟨fun b h=>Nat.lt_of_lt_of_le (hU b h) hb.size,hX.mono (fun b h=>hb.block b (hU b h)) fun _ h=>h⟩
 have k153:∀ (i:Nat) (b:Bool),i < 6→Fn 153 [.sl 1 (((xs.drop (6*i)).take 6).map fun x=>[x]),.fn 154 []]=some (0,[.d (bl b)])→∀ (v0 v1 v2 v3 v4 v5:Int),(cs.drop (6*i)).take 6=[.int .i64 v0,.int .i64 v1,.int .i64 v2,.int .i64 v3,.int .i64 v4,.int .i64 v5]→∀ W:World,Below w.heap.size w W→Calls Tryz.prog 153 #[.slice (some ⟨W.heap.size,0,none⟩) 6 6,.func (.func 154) #[] #[]] (W.alloc (.cells #[.int .i64 v0,.int .i64 v1,.int .i64 v2,.int .i64 v3,.int .i64 v4,.int .i64 v5] 72)) fun e w'=>e=.returned (.bool b)∧Below W.heap.size W w':=fun i b hi h153 v0 v1 v2 v3 v4 v5 hv W hb=>by
  have s153:=sc_of hF (f:=153) (sh:=[.one,.one]) (vs:=[.one (.sl 1 (((xs.drop (6*i)).take 6).map fun x=>[x])),.one (.fn 154 [])]) (rs:=[(false,[.d])]) rfl rfl h153 rfl
  have hb':Below w.heap.size w (W.alloc (.cells #[.int .i64 v0,.int .i64 v1,.int .i64 v2,.int .i64 v3,.int .i64 v4,.int .i64 v5] 72)):=hb.alloc hb.size _
  have hn:=heap_alloc_new W (.cells #[.int .i64 v0,.int .i64 v1,.int .i64 v2,.int .i64 v3,.int .i64 v4,.int .i64 v5] 72)
  have hf:=FR_take 6 (FR_drop (6*i) hc)
  rw [hv] at hf
  have hlen:((xs.drop (6*i)).take 6).length=6:=by rw [List.length_take,List.length_drop];omega
  refine (s153.2 _ (fun x=>U x∨x=W.heap.size) _ ?_ ?_ ?_).mono ?_
  ·rintro x (hx | rfl)
   ·exact (H hb').1 x hx
   ·simp
  ·exact (H hb').2.mono (fun _ _=>rfl) fun _ h=>.inl h
  ·refine ⟨_,_,rfl,?_,_,_,rfl,⟨#[],rfl,rfl⟩,rfl⟩
   show DR _ _ (.sl 1 _) _
   simp only [DR,List.length_map,hlen]
   refine ⟨_,6,rfl,Nat.le_refl _,by decide,fun _=>⟨_,0,rfl,.inr rfl,RR_ones (FR.mono (w:=w) (U:=U) (fun b h=>hb'.block b (hU b h)) (fun _ h=>.inl h) _ _ hf) fun j v hj=>?_⟩⟩
   rw [Go.Joins.cell_of_block hn,Nat.zero_add,← hj,List.getElem?_toArray]
  ·rintro e w' ⟨v,U',bs,rfl,hb4,_,_,_,_,hr⟩
   obtain ⟨_,h2,_⟩:=hr
   exact ⟨by rw [h2],((Below.refl _ W).alloc (Nat.le_refl _) _).trans (hb4.mono (by simp))⟩
 have hix:=fun (i:Nat) (hi:i < 6) W=>ix212 (W:=W) hl hi
 have hinfo:(Tryz.prog.info? 212).map (·.size)=some cs.toArray.size:=by
  rw [List.size_toArray,hl]
  kernel_rfl
 have hu:Tryz.prog.underlying 212=some (.array 6 72):=by kernel_rfl
 obtain ⟨A,hA⟩:∃ A,cs.toArray=A:=⟨_,rfl⟩
 rw [hA] at hix hinfo ⊢
 clear hA
 go_enter Tryz.func144,Tryz.ntmps144
 go_wp2_with (refine wpList_load_row rfl 212 (.tmp 1) rfl w.heap.size rfl 212 A (0,0) _ (heap_alloc_new w _) hu rfl hinfo ?_)
 have hx6:∀ i,i < 6→(cs.drop (6*i)).length=36 - 6*i:=fun i _=>by rw [List.length_drop,hl]
 go_loopg [6] 6 (fun g z6 wr=>∃ i:Nat,z6=.int .i64 i∧i+g=6∧Below w.heap.size w wr∧tRows Fn (6 - i) (xs.drop (6*i))=some (0,[.d (bl res)]))
 case atStart=>exact ⟨0,rfl,rfl,(Below.refl _ w).alloc (Nat.le_refl _) _,by simpa using hr⟩
 case round =>
  obtain ⟨i,rfl,hg,hb,hk⟩:=hrel
  by_cases hi:i < 6
  ·obtain ⟨g,rfl⟩:∃ g,gk=g+1:=⟨gk - 1,by omega⟩
   obtain ⟨v0,v1,v2,v3,v4,v5,hv⟩:=six_of hlz hi
   rw [←hzs] at hv
   have hi1:=fun W=>hix i hi W
   rw [hv] at hi1
   rw [show 6 - i=(6 - (i+1))+1 by omega,tRows] at hk
   have K:=fun b h=>k153 i b hi h v0 v1 v2 v3 v4 v5 hv wr hb
   clear hix k153 hx6 hr
   have A0:Aside (Below w.heap.size w wr):=hb
   clear hb
   split at hk
   ·rename_i d hd
    split at hk
    ·rename_i hdb
     cases hk
     rw [dBool_some hdb] at hd
     have K':=K true hd
     clear K
     go_wp2_with (go_at_call 153;refine K'.mono ?_;rintro e w2 ⟨rfl,b2⟩)
     go_ret
     exact ⟨rfl,A0.out.trans (b2.mono A0.out.size)⟩
    ·rename_i hdb
     rw [dBool_some hdb] at hd
     have K':=K false hd
     clear K
     rw [List.drop_drop] at hk
     have A1:Aside (tRows Fn (6 - (i+1)) (xs.drop (6*i+6))=some (0,[.d (bl res)])):=hk
     clear hk
     go_wp2_with (go_at_call 153;refine K'.mono ?_;rintro e w2 ⟨rfl,b2⟩)
     go_roundg g
     case measure=>omega
     case rel=>exact ⟨i+1,by simp,by omega,A0.out.trans (b2.mono A0.out.size),by rw [Nat.mul_add,Nat.mul_one];exact A1.out⟩
    ·cases hk
   ·cases hk
  ·obtain rfl:i=6:=by omega
   obtain rfl:gk=0:=by omega
   simp only [Nat.sub_self,tRows,Option.some.injEq,Prod.mk.injEq,true_and,List.cons.injEq,and_true] at hk
   have hb1:res=true:=by
    injection hk with hk
    injection hk with hk
    injection hk with hk
    exact hk.symm
   go_wp2
   go_ret
   refine ⟨?_,hb⟩
   first | rfl | (rw [hb1];rfl)
theorem ok144 {Fn:Nat→List D→Out} (hF:FnOK Tryz.prog CF Fn) {xs:List D} {vs:List VD} {j:Nat} {ys:List Yr} {rs:RS} {sh:List Sh} (h1:CF.ash 144=some sh) (h2:vdsOf sh xs=some vs) (h3:tCounts Fn xs=some (j,ys)) (h4:(CF.rsk 144)[j]?=some rs):SC Tryz.prog 144 vs (pack (rvsAt ys rs 0)):=by
 unfold tCounts at h3
 split at h3
 ·rename_i hl
  obtain ⟨hl,hin⟩:=hl
  obtain ⟨res,e⟩:∃ res,tRows Fn 6 xs=some (0,[.d (bl res)]):=by
   have:∀ k xs o,tRows Fn k xs=some o→∃ res,tRows Fn k xs=some (0,[.d (bl res)]):=by
    intro k
    induction k with
    | zero=>intro xs o _;exact ⟨true,rfl⟩
    | succ k ih =>
     intro xs o h
     rw [tRows] at h ⊢
     split at h
     ·split at h
      ·exact ⟨false,by simp_all⟩
      ·obtain ⟨res,hr⟩:=ih _ _ h
       exact ⟨res,by simp_all⟩
      ·cases h
     ·cases h
   exact this 6 xs _ h3
  rw [e] at h3
  cases h3
  cases h1
  have hv:vs=[.agg xs]:=by
   simp only [vdsOf,hl,List.take_of_length_le (Nat.le_of_eq hl),List.drop_of_length_le (Nat.le_of_eq hl),if_true,Option.map_some,Option.some.injEq] at h2
   exact h2.symm
  subst hv
  cases h4
  refine ⟨enters_of Tryz.func144 (by kernel_rfl) rfl,fun w U vs hU hX hv=>?_⟩
  obtain ⟨cs,g1,g2⟩:=agg_v hv
  rw [arr_of g1]
  refine (counts_c hF hl e hU hX g2 hin).mono ?_
  rintro x w' ⟨rfl,hb⟩
  exact post_lit hU hb ⟨rfl,rfl,rfl⟩
 ·cases h3
end Go.VE
namespace Go.VE
open Go.RowKit Go.Proofs
set_option maxRecDepth 100000
theorem mixP:Tryz.prog.follows .mixedOrders=true:=by kernel_rfl
theorem spOK:SpOK Tryz.prog (cf3 tb Tryz.prog):=by
 intro f p h
 have e:(cf3 tb Tryz.prog).sp f=none:=rfl
 rw [e] at h
 cases h
theorem BB_ok (Fn:Nat→List D→Out) (hF:FnOK Tryz.prog (cf3 tb Tryz.prog) Fn):FnOK Tryz.prog (cf3 tb Tryz.prog) (BB Fn):=by
 intro f sh xs vs j ys rs h1 h2 h3 h4
 unfold BB at h3
 cases e1:Nat.beq f 103 with
 | true=>rw [e1] at h3;cases Nat.eq_of_beq_eq_true e1;exact ok103 h1 h2 h3 h4
 | false =>
 rw [e1] at h3
 simp only [cond_false] at h3
 cases e2:Nat.beq f 86 with
 | true=>rw [e2] at h3;cases Nat.eq_of_beq_eq_true e2;exact ok86 hF h1 h2 h3 h4
 | false =>
 rw [e2] at h3
 simp only [cond_false] at h3
 cases e3:Nat.beq f 121 with
 | true=>rw [e3] at h3;cases Nat.eq_of_beq_eq_true e3;exact ok121 hF h1 h2 h3 h4
 | false =>
 rw [e3] at h3
 simp only [cond_false] at h3
 cases e4:Nat.beq f 130 with
 | true=>rw [e4] at h3;cases Nat.eq_of_beq_eq_true e4;exact ok130 h1 h2 h3 h4
 | false =>
 rw [e4] at h3
 simp only [cond_false] at h3
 cases e5:Nat.beq f 129 with
 | true=>rw [e5] at h3;cases Nat.eq_of_beq_eq_true e5;exact ok129 h1 h2 h3 h4
 | false =>
 rw [e5] at h3
 simp only [cond_false] at h3
 cases e6:Nat.beq f 144 with
 | true=>rw [e6] at h3;cases Nat.eq_of_beq_eq_true e6;exact ok144 hF h1 h2 h3 h4
 | false =>
 rw [e6] at h3
 simp only [cond_false] at h3
 cases e7:Nat.beq f 13 with
 | true=>rw [e7] at h3;cases Nat.eq_of_beq_eq_true e7;exact ok13 hF h1 h2 h3 h4
 | false =>
 rw [e7] at h3
 simp only [cond_false] at h3
 cases e8:Nat.beq f 88 with
 | true=>rw [e8] at h3;cases Nat.eq_of_beq_eq_true e8;exact ok88 hF h1 h2 h3 h4
 | false =>
 rw [e8] at h3
 simp only [cond_false] at h3
 cases e9:Nat.beq f 21 with
 | true=>rw [e9] at h3;cases Nat.eq_of_beq_eq_true e9;exact ok21 hF h1 h2 h3 h4
 | false=>rw [e9] at h3;cases h3
theorem FN_ok (n:Nat):FnOK Tryz.prog (cf3 tb Tryz.prog) (FN n):=FnT_ok mixP spOK BB_ok BB_high n
theorem FN_okM (n:Nat):FmOK Tryz.prog (cf3 tb Tryz.prog) (FN n):=FnT_okM mixP spOK BB_ok BB_high n
end Go.VE
namespace Go.VE
open Go.RowKit Go.Proofs
set_option maxRecDepth 1000000
set_option maxHeartbeats 0
def lsEq {α:Type} (e:α→α→Bool):List α→List α→Bool
 | [],[]=>true
 | a::l,b::r=>e a b&&lsEq e l r
 | _,_=>false
theorem lsEq_eq {α:Type} {e:α→α→Bool} (he:∀ a b,e a b=true→a=b):∀ {l r:List α},lsEq e l r=true→l=r
 | [],[],_=>rfl
 | a::l,b::r,h=>by
  simp only [lsEq,Bool.and_eq_true] at h
  rw [he a b h.1,lsEq_eq he h.2]
 | [],_::_,h=>by cases h
 | _::_,[],h=>by cases h
def dEq:Nat→D→D→Bool
 | _,.lit (.int .i64 a),.lit (.int .i64 b)=>decide (a=b)
 | _,.lit (.string a),.lit (.string b)=>decide (a.data.toList=b.data.toList)
 | _,.lit (.slice none 0 0),.lit (.slice none 0 0)=>true
 | n+1,.sl s r,.sl t q=>Nat.beq s t&&lsEq (lsEq (dEq n)) r q
 | _,_,_=>false
theorem dEq_eq:∀ (n:Nat) (a b:D),dEq n a b=true→a=b
 | n,a,b,h=>by
  unfold dEq at h
  split at h
  ·rw [decide_eq_true_eq] at h;rw [h]
  ·rename_i x y
   rw [decide_eq_true_eq] at h
   obtain ⟨⟨x⟩⟩:=x
   obtain ⟨⟨y⟩⟩:=y
   simp only at h
   rw [h]
  ·rfl
  ·rename_i m _ _ _ _
   simp only [Bool.and_eq_true] at h
   rw [Nat.eq_of_beq_eq_true h.1,lsEq_eq (fun _ _ h=>lsEq_eq (fun a b h=>dEq_eq m a b h) h) h.2]
  ·cases h
abbrev Ent:Type:=Nat×List D×List Yr
def tabS:List Ent:=[
 (80,[],[.d (il 2),.d (il 0),.d (il 5),.d (il 10),.d (il 12),.d (il 0),.d (il 0),.d (sD TK)]),
 (13,[il 2,il 0,il 5,il 10,il 12,il 0,il 0,sD TK,il 0],[.d (.sl 3 [[il 0,il 21,sD T0],[il 0,il 21,sD T1],[il 0,il 21,sD T2]]),.d (il 0)]),
 (15,[il 0,il 0,il 21,sD T0,il 2,il 0,il 21,sD T2],[.d (sD TX),.d (il 0)]),
 (15,[il 2,il 0,il 21,sD T2,il 1,il 0,il 21,sD T1],[.d (sD TX),.d (il 0)]),
 (15,[il 0,il 0,il 21,sD T0,il 0,il 0,il 21,sD T0],[.d (sD []),.d (il 1)]),
 (18,[il 0,il 0,il 21,sD T1],[.d (il 0)]),
 (18,[il 1,il 0,il 21,sD T0],[.d (il 84)]),
 (21,[.lit (.slice none 0 0),.lit (.slice none 0 0),.lit (.slice none 0 0),il 0,il 0,il 0,.lit (.slice none 0 0),il 2,il 0,il 5,il 10,il 12,il 0,il 0,sD TK],[.d (.sl 3 [[il 0,il 21,sD T0]]),.d (.sl 3 [[il 0,il 21,sD T1]]),.d (.sl 3 [[il 0,il 21,sD T2]]),.d (il 0),.d (il 0),.d (il 0),.d (.sl 8 [[il 2,il 0,il 5,il 10,il 12,il 0,il 0,sD TK]]),.d (il 0)]),
 (29,[.sl 3 [[il 0,il 21,sD T0]],.sl 3 [[il 0,il 21,sD T1]],.sl 3 [[il 0,il 21,sD T2]],il 0,il 0,il 0,.sl 1 [[il 3],[il 2],[il 0],[il 0],[il 0],[il 2],[il 0]]],[.d (.sl 3 [[il 0,il 21,sD T0]]),.d (.sl 3 []),.d (.sl 3 [[il 0,il 21,sD T2]]),.d (il 0),.d (il 0),.d (il 0)]),
 (23,[.sl 3 [[il 0,il 21,sD T0]],.sl 3 [],.sl 3 [[il 0,il 21,sD T2]],il 0,il 0,il 0],[.d (.sl 3 [[il 0,il 21,sD T0]]),.d (.sl 3 [[il 0,il 21,sD T1]]),.d (.sl 3 [[il 0,il 21,sD T2]]),.d (il 1),.d (il 1),.d (il 1),.d (.sl 8 [[il 2,il 0,il 5,il 10,il 12,il 0,il 0,sD TK]])]),
 (29,[.sl 3 [[il 0,il 21,sD T0]],.sl 3 [[il 0,il 21,sD T1]],.sl 3 [[il 0,il 21,sD T2]],il 0,il 0,il 0,.sl 1 [[il 3],[il 2],[il 0],[il 0],[il 0],[il 1],[il 4]]],[.d (.sl 3 [[il 0,il 21,sD T0]]),.d (.sl 3 []),.d (.sl 3 [[il 0,il 21,sD (T2.take 4)]]),.d (il 0),.d (il 0),.d (il 0)]),
 (23,[.sl 3 [[il 0,il 21,sD T0]],.sl 3 [],.sl 3 [[il 0,il 21,sD (T2.take 4)]],il 0,il 0,il 0],[.d (.lit (.slice none 0 0)),.d (.lit (.slice none 0 0)),.d (.lit (.slice none 0 0)),.d (il 0),.d (il 0),.d (il 0),.d (.lit (.slice none 0 0))]),
 (27,[.sl 3 [[il 0,il 21,sD T0]],.sl 3 [[il 0,il 21,sD T1]],.sl 3 [[il 0,il 21,sD T2]],il 0,il 0,il 0],[.d (.sl 3 [[il 0,il 21,sD T0]]),.d (.sl 3 [[il 0,il 21,sD T1]]),.d (.sl 3 [[il 0,il 21,sD T2]]),.d (il 1),.d (il 1),.d (il 1)]),
 (29,[.sl 3 [[il 0,il 21,sD T0]],.sl 3 [[il 0,il 21,sD T1]],.sl 3 [[il 0,il 21,sD T2]],il 1,il 1,il 1,.sl 1 [[il 1]]],[.d (.sl 3 [[il 0,il 21,sD T0]]),.d (.lit (.slice none 0 0)),.d (.sl 3 [[il 0,il 21,sD T2]]),.d (il 1),.d (il 0),.d (il 1)]),
 (23,[.sl 3 [[il 0,il 21,sD T0]],.lit (.slice none 0 0),.sl 3 [[il 0,il 21,sD T2]],il 1,il 0,il 1],[.d (.sl 3 [[il 0,il 21,sD T0]]),.d (.sl 3 [[il 0,il 21,sD T1]]),.d (.sl 3 [[il 0,il 21,sD T2]]),.d (il 1),.d (il 1),.d (il 1),.d (.sl 8 [[il 2,il 0,il 5,il 10,il 12,il 0,il 0,sD TK]])]),
 (37,[il 2],[.d (il 2),.d (.lit (.slice none 0 0)),.d (.lit (.slice none 0 0)),.d (.lit (.slice none 0 0)),.d (il 0),.d (il 0),.d (il 0),.d (.lit (.slice none 0 0)),.d (il 0),.d (il 0),.d (il 0),.d (il 0),.d (il 0),.d (il 0),.d (il 0),.d (il 0),.d (il 0),.d (il 0),.d (il 0),.d (il 0),.d (il 0),.d (il 0),.d (il 0),.d (il 0),.d (il 0),.d (il 0),.d (il 0),.d (il 0),.d (il 0),.d (il 0),.d (il 0),.d (il 0),.d (il 0),.d (il 0),.d (il 0),.d (il 0),.d (il 0),.d (il 0),.d (il 0),.d (il 0),.d (il 0),.d (il 0),.d (il 0),.d (il 0),.d (il 0)]),
 (39,[il 2,.lit (.slice none 0 0),.lit (.slice none 0 0),.lit (.slice none 0 0),il 0,il 0,il 0,.lit (.slice none 0 0),il 0,il 0,il 0,il 0,il 0,il 0,il 0,il 0,il 0,il 0,il 0,il 0,il 0,il 0,il 0,il 0,il 0,il 0,il 0,il 0,il 0,il 0,il 0,il 0,il 0,il 0,il 0,il 0,il 0,il 0,il 0,il 0,il 0,il 0,il 0,il 0,il 2,il 0,il 5,il 10,il 12,il 0,il 0,sD TK],[.d (il 2),.d (.sl 3 [[il 0,il 21,sD T0]]),.d (.sl 3 [[il 0,il 21,sD T1]]),.d (.sl 3 [[il 0,il 21,sD T2]]),.d (il 0),.d (il 0),.d (il 0),.d (.sl 8 [[il 2,il 0,il 5,il 10,il 12,il 0,il 0,sD TK]]),.d (il 0),.d (il 0),.d (il 0),.d (il 0),.d (il 0),.d (il 0),.d (il 0),.d (il 0),.d (il 0),.d (il 0),.d (il 0),.d (il 0),.d (il 0),.d (il 0),.d (il 0),.d (il 0),.d (il 0),.d (il 0),.d (il 0),.d (il 0),.d (il 0),.d (il 0),.d (il 0),.d (il 0),.d (il 0),.d (il 0),.d (il 0),.d (il 0),.d (il 0),.d (il 0),.d (il 0),.d (il 0),.d (il 0),.d (il 0),.d (il 0),.d (il 0),.d (il 2),.d (il 0),.d (il 5),.d (il 10),.d (il 12),.d (il 0),.d (il 0),.d (sD TK),.d (il 0)]),
 (41,[il 2,.sl 3 [[il 0,il 21,sD T0]],.sl 3 [[il 0,il 21,sD T1]],.sl 3 [[il 0,il 21,sD T2]],il 0,il 0,il 0,.sl 8 [[il 2,il 0,il 5,il 10,il 12,il 0,il 0,sD TK]],il 0,il 0,il 0,il 0,il 0,il 0,il 0,il 0,il 0,il 0,il 0,il 0,il 0,il 0,il 0,il 0,il 0,il 0,il 0,il 0,il 0,il 0,il 0,il 0,il 0,il 0,il 0,il 0,il 0,il 0,il 0,il 0,il 0,il 0,il 0,il 0,il 3,il 2],[.d (il 2),.d (.sl 3 [[il 0,il 21,sD T0]]),.d (.sl 3 [[il 0,il 21,sD T1]]),.d (.sl 3 [[il 0,il 21,sD T2]]),.d (il 1),.d (il 1),.d (il 1),.d (.sl 8 [[il 2,il 0,il 5,il 10,il 12,il 0,il 0,sD TK]]),.d (il 0),.d (il 0),.d (il 0),.d (il 0),.d (il 0),.d (il 0),.d (il 0),.d (il 0),.d (il 0),.d (il 0),.d (il 0),.d (il 0),.d (il 0),.d (il 0),.d (il 0),.d (il 0),.d (il 0),.d (il 0),.d (il 0),.d (il 0),.d (il 0),.d (il 0),.d (il 0),.d (il 0),.d (il 0),.d (il 0),.d (il 0),.d (il 0),.d (il 0),.d (il 0),.d (il 0),.d (il 0),.d (il 0),.d (il 0),.d (il 0),.d (il 0),.d (il 2),.d (il 3),.d (il 2),.d (il 1),.d (il 1),.d (.lit (.slice none 0 0)),.d (il 0)]),
 (37,[il 3],[.d (il 3),.d (.lit (.slice none 0 0)),.d (.lit (.slice none 0 0)),.d (.lit (.slice none 0 0)),.d (il 0),.d (il 0),.d (il 0),.d (.lit (.slice none 0 0)),.d (il 0),.d (il 0),.d (il 0),.d (il 0),.d (il 0),.d (il 0),.d (il 0),.d (il 0),.d (il 0),.d (il 0),.d (il 0),.d (il 0),.d (il 0),.d (il 0),.d (il 0),.d (il 0),.d (il 0),.d (il 0),.d (il 0),.d (il 0),.d (il 0),.d (il 0),.d (il 0),.d (il 0),.d (il 0),.d (il 0),.d (il 0),.d (il 0),.d (il 0),.d (il 0),.d (il 0),.d (il 0),.d (il 0),.d (il 0),.d (il 0),.d (il 0),.d (il 0)]),
 (43,[il 3,.lit (.slice none 0 0),.lit (.slice none 0 0),.lit (.slice none 0 0),il 0,il 0,il 0,.lit (.slice none 0 0),il 0,il 0,il 0,il 0,il 0,il 0,il 0,il 0,il 0,il 0,il 0,il 0,il 0,il 0,il 0,il 0,il 0,il 0,il 0,il 0,il 0,il 0,il 0,il 0,il 0,il 0,il 0,il 0,il 0,il 0,il 0,il 0,il 0,il 0,il 0,il 0,il 2,il 3,il 2,il 1,il 1,.lit (.slice none 0 0)],[.d (il 3),.d (.lit (.slice none 0 0)),.d (.lit (.slice none 0 0)),.d (.lit (.slice none 0 0)),.d (il 0),.d (il 0),.d (il 0),.d (.lit (.slice none 0 0)),.d (il 0),.d (il 0),.d (il 0),.d (il 0),.d (il 0),.d (il 0),.d (il 0),.d (il 0),.d (il 0),.d (il 0),.d (il 0),.d (il 0),.d (il 0),.d (il 0),.d (il 1),.d (il 0),.d (il 0),.d (il 0),.d (il 0),.d (il 0),.d (il 0),.d (il 0),.d (il 0),.d (il 0),.d (il 0),.d (il 0),.d (il 0),.d (il 0),.d (il 0),.d (il 0),.d (il 0),.d (il 0),.d (il 0),.d (il 0),.d (il 0),.d (il 0),.d (.sl 6 [[il 3,il 2,il 2,il 0,il 0,.lit (.slice none 0 0)]]),.d (il 0)]),
 (43,[il 2,.sl 3 [[il 0,il 21,sD T0]],.sl 3 [[il 0,il 21,sD T1]],.sl 3 [[il 0,il 21,sD T2]],il 1,il 1,il 1,.sl 8 [[il 2,il 0,il 5,il 10,il 12,il 0,il 0,sD TK]],il 0,il 0,il 0,il 0,il 0,il 0,il 0,il 0,il 0,il 0,il 0,il 0,il 0,il 0,il 0,il 0,il 0,il 0,il 0,il 0,il 0,il 0,il 0,il 0,il 0,il 0,il 0,il 0,il 0,il 0,il 0,il 0,il 0,il 0,il 0,il 0,il 3,il 2,il 2,il 0,il 0,.lit (.slice none 0 0)],[.d (il 2),.d (.sl 3 [[il 0,il 21,sD T0]]),.d (.sl 3 [[il 0,il 21,sD T1]]),.d (.sl 3 [[il 0,il 21,sD T2]]),.d (il 1),.d (il 1),.d (il 1),.d (.sl 8 [[il 2,il 0,il 5,il 10,il 12,il 0,il 0,sD TK]]),.d (il 0),.d (il 0),.d (il 0),.d (il 0),.d (il 0),.d (il 0),.d (il 0),.d (il 0),.d (il 0),.d (il 0),.d (il 0),.d (il 0),.d (il 0),.d (il 0),.d (il 0),.d (il 0),.d (il 0),.d (il 0),.d (il 0),.d (il 0),.d (il 0),.d (il 0),.d (il 0),.d (il 0),.d (il 0),.d (il 0),.d (il 0),.d (il 0),.d (il 0),.d (il 0),.d (il 0),.d (il 0),.d (il 0),.d (il 0),.d (il 0),.d (il 0),.d (.sl 6 [[il 2,il 3,il 2,il 1,il 0,.sl 8 [[il 2,il 0,il 5,il 10,il 12,il 0,il 0,sD TK]]]]),.d (il 0)]),
 (43,[il 3,.lit (.slice none 0 0),.lit (.slice none 0 0),.lit (.slice none 0 0),il 0,il 0,il 0,.lit (.slice none 0 0),il 0,il 0,il 0,il 0,il 0,il 0,il 0,il 0,il 0,il 0,il 0,il 0,il 0,il 0,il 1,il 0,il 0,il 0,il 0,il 0,il 0,il 0,il 0,il 0,il 0,il 0,il 0,il 0,il 0,il 0,il 0,il 0,il 0,il 0,il 0,il 0,il 2,il 3,il 2,il 1,il 0,.sl 8 [[il 2,il 0,il 5,il 10,il 12,il 0,il 0,sD TK]]],[.d (il 3),.d (.sl 3 [[il 0,il 21,sD T0]]),.d (.sl 3 [[il 0,il 21,sD T1]]),.d (.sl 3 [[il 0,il 21,sD T2]]),.d (il 1),.d (il 1),.d (il 1),.d (.sl 8 [[il 2,il 0,il 5,il 10,il 12,il 0,il 0,sD TK]]),.d (il 0),.d (il 0),.d (il 0),.d (il 0),.d (il 0),.d (il 0),.d (il 0),.d (il 0),.d (il 0),.d (il 0),.d (il 0),.d (il 0),.d (il 0),.d (il 0),.d (il 1),.d (il 0),.d (il 0),.d (il 0),.d (il 0),.d (il 0),.d (il 0),.d (il 0),.d (il 0),.d (il 0),.d (il 0),.d (il 0),.d (il 0),.d (il 0),.d (il 0),.d (il 0),.d (il 0),.d (il 0),.d (il 0),.d (il 0),.d (il 0),.d (il 0),.d (.lit (.slice none 0 0)),.d (il 0)])]
noncomputable def allT:List Ent→Prop
 | []=>True
 | e::r=>FN 14 e.1 e.2.1=some (0,e.2.2)∧allT r
theorem allT_mem:∀ {l:List Ent} {e:Ent},allT l→e∈l→FN 14 e.1 e.2.1=some (0,e.2.2)
 | x::r,e,h,he=>by
  rcases List.mem_cons.1 he with rfl | he
  ·exact h.1
  ·exact allT_mem h.2 he
theorem tab_ok:allT tabS:=⟨ve80,ve13,ve15a,ve15b,ve15c,ve18a,ve18b,ve21,ve29a,ve23a,ve29b,ve23b,ve27,ve29c,ve23c,ve37a,ve39,ve41,ve37b,ve43a,ve43b,ve43c,trivial⟩
def FnC (f:Nat) (xs:List D):Out:=match tabS.find? fun e=>Nat.beq e.1 f&&lsEq (dEq 4) e.2.1 xs with
 | some e=>some (0,e.2.2)
 | none=>none
theorem FnC_FN {f:Nat} {xs:List D} {o:Nat×List Yr} (h:FnC f xs=some o):FN 14 f xs=some o:=by
 unfold FnC at h
 split at h
 ·rename_i e he
  have h1:=List.find?_some he
  simp only [Bool.and_eq_true] at h1
  have h2:=allT_mem tab_ok (List.mem_of_find?_eq_some he)
  rw [Nat.eq_of_beq_eq_true h1.1,lsEq_eq (fun a b h=>dEq_eq 4 a b h) h1.2] at h2
  rw [h2,h]
 ·cases h
theorem FnC_ok:FnOK Tryz.prog (cf3 tb Tryz.prog) FnC:=fun f sh xs vs j ys rs h1 h2 h3 h4=>FN_ok 14 f sh xs vs j ys rs h1 h2 (FnC_FN h3) h4
theorem FnC_okM:FmOK Tryz.prog (cf3 tb Tryz.prog) FnC:=fun f ms xs zs h1 h2=>FN_okM 14 f ms xs zs h1 (FnC_FN h2)
theorem g20:G20 (real FnC (FnDof Tryz.prog (cf3 tb Tryz.prog) FnC) M0)=some (0,[.d (bl true)]):=by kernel_rfl
theorem sane_sc:SC Tryz.prog 20 [] (.one (.d (bl true))) :=
 fun3_sc (T:=tb) (P:=Tryz.prog) mixP FnC_ok FnC_okM spOK (fuel:=400) (m0:=M0) (xs:=[]) (j:=0) (ys:=[.d (bl true)]) (rs:=[(false,[.d])]) (by rw [prR];exact (G20_eq _).trans g20) (by decide) (sh:=[]) rfl rfl rfl
end Go.VE
namespace Go.VE
open Go.RowKit Go.Proofs
set_option maxRecDepth 100000
theorem o3 {n:Nat} {ds:List D} (h:HasT Tryz.prog (n+1) 3 ds):∃ z,ds=[il z]∧-9223372036854775808≤z∧z≤9223372036854775807:=h.int Tryz.underlying3
theorem o9 {n:Nat} {ds:List D} (h:HasT Tryz.prog (n+1) 9 ds):∃ s,ds=[sD s]∧s.length≤140737488351232:=by
 obtain ⟨s,rfl,hs⟩:=HasT.str Tryz.underlying9 h
 refine ⟨s.data.toList,?_,?_⟩
 ·show _=[D.lit (.string ⟨s.data.toList.toArray⟩)]
  rw [←hk_list s]
 ·have e:s.data.toList.length=s.size:=by simp only [Array.length_toList];rfl
  rw [e];exact hs
theorem o23 {n:Nat} {ds:List D} (h:HasT Tryz.prog (n+2) 23 ds):∃ a b,ds=[il a,il b]:=by
 obtain ⟨_,_,rfl,h1,_,_,rfl,h2,rfl⟩:=h.struct Tryz.underlying23 rfl
 obtain ⟨x,rfl,_⟩:=o3 h1
 obtain ⟨y,rfl,_⟩:=o3 h2
 exact ⟨x,y,rfl⟩
theorem o25 {n:Nat} {ds:List D} (h:HasT Tryz.prog (n+3) 25 ds):∃ r:Rec,ds=recR r∧r.tx.length≤140737488351232:=by
 obtain ⟨_,_,rfl,h1,_,_,rfl,h2,_,_,rfl,h3,_,_,rfl,h4,_,_,rfl,h5,_,_,rfl,h6,rfl⟩:=h.struct Tryz.underlying25 rfl
 obtain ⟨a,b,rfl⟩:=o23 h1
 obtain ⟨c,rfl,_⟩:=o3 h2
 obtain ⟨d,rfl,_⟩:=o3 h3
 obtain ⟨e,rfl,_⟩:=o3 h4
 obtain ⟨f,g,rfl⟩:=o23 h5
 obtain ⟨t,rfl,ht⟩:=o9 h6
 exact ⟨⟨a,b,c,d,e,f,g,t⟩,rfl,ht⟩
noncomputable def FnS (n:Nat) (f:Nat) (xs:List D):Out:=if f=20∧xs=[] then some (0,[.d (bl true)]) else FN n f xs
theorem FnS_ok (n:Nat):FnOK Tryz.prog (cf3 tb Tryz.prog) (FnS n):=by
 intro f sh xs vs j ys rs h1 h2 h3 h4
 unfold FnS at h3
 split at h3
 ·rename_i hc
  obtain ⟨rfl,rfl⟩:=hc
  simp only [Option.some.injEq,Prod.mk.injEq] at h3
  obtain ⟨rfl,rfl⟩:=h3
  have e1:(cf3 tb Tryz.prog).ash 20=some []:=rfl
  rw [e1] at h1
  cases h1
  cases h2
  have e2:((cf3 tb Tryz.prog).rsk 20)[0]?=some [(false,[.d])]:=rfl
  rw [e2] at h4
  cases h4
  exact sane_sc
 ·exact FN_ok n f sh xs vs j ys rs h1 h2 h3 h4
theorem FnS_20 (n:Nat):FnS n 20 []=some (0,[.d (bl true)]):=by simp [FnS]
theorem FnS_ne {n f:Nat} {xs:List D} {o:Out} (h:FN n f xs=o) (hf:f≠20):FnS n f xs=o:=by rw [←h];simp [FnS,hf]
theorem FnS_okM (n:Nat):FmOK Tryz.prog (cf3 tb Tryz.prog) (FnS n):=fun f ms xs zs h1 h2=>by
 rw [FnS_ne rfl (by omega)] at h2
 exact FN_okM n f ms xs zs h1 h2
end Go.VE
namespace Go.VE
open Go.RowKit Go.Proofs Go.Lib
set_option maxRecDepth 100000
section
variable {Fn:Nat→List D→Out} {FnD:D→List Sh→List D→Out}
end
end Go.VE
namespace Go.VE
open Go.RowKit Go.Proofs Go.Lib
set_option maxRecDepth 100000
theorem joinZ_book {a b:List Rec} (ha:isBook a) (hb:isBook b):joinZ a b=joinP a b:=by
 unfold joinZ
 rw [if_pos (by rw [(bookB_iff a).2 ha,(bookB_iff b).2 hb];rfl),joinJ_P ha.1]
theorem opt_rows {α:Type} {f:α→List D}:∀ {o:Option Rr},(∀ r∈o.getD [],∃ c,r=f c)→∃ q:Option (List α),o=q.map (·.map f)
 | none,_=>⟨none,rfl⟩
 | some rows,h=>by
  obtain ⟨l,hl⟩:=rows_map (f:=f) (rows:=rows) h
  exact ⟨some l,by rw [hl];rfl⟩
theorem oL {α:Type} {f:α→List D} {n t e c b:Nat} {ds:List D} (hu:Tryz.prog.underlying t=some (.slice e)) (hc:Tryz.prog.cellsOf e=c) (hb:Tryz.prog.bytesOf e=b) (he:∀ r,HasT Tryz.prog n e r→∃ x,r=f x) (h:HasT Tryz.prog (n+1) t ds):∃ o,ds=[dL c f o]∧(o.getD []).length*b≤140737488351232:=by
 obtain ⟨o,rfl,h1,h2⟩:=h.sl hu hc hb
 obtain ⟨q,rfl⟩:=opt_rows (f:=f) fun r hr=>he r (h2 r hr)
 refine ⟨q,rfl,?_⟩
 cases q with
 | none=>simp
 | some l=>simpa using h1
theorem o44 {n:Nat} {ds:List D} (h:HasT Tryz.prog (n+4) 44 ds):∃ o:Option (List Rec),ds=[dR o]∧(o.getD []).length≤4611686018427387904:=by
 obtain ⟨o,h1,h2⟩:=oL (c:=8) (b:=72) Tryz.underlying44 (by kernel_rfl) (by kernel_rfl) (fun r h=>(o25 h).imp fun _ h=>h.1) h
 exact ⟨o,h1,by omega⟩
theorem o120 {n:Nat} {ds:List D} (h:HasT Tryz.prog (n+5) 120 ds):∃ o:Option (List Rec),ds=[dR o]∧(o.getD []).length≤4611686018427387904:=by
 obtain ⟨_,_,rfl,h1,rfl⟩:=h.struct Tryz.underlying120 rfl
 obtain ⟨o,rfl,ho⟩:=o44 h1
 exact ⟨o,rfl,ho⟩
end Go.VE
namespace Go.VE
open Go.RowKit Go.Proofs Go.Lib
set_option maxRecDepth 100000
def jnP (acc:List Rec):Option (List Rec)→Out
 | none=>some (0,[.d (il 82)])
 | some f=>some (1,[.d (dR (some (f.foldl put acc)))])
theorem l66 (n:Nat) (a b:Option (List Rec)) (hlb:(b.getD []).length≤60) (l0:List Rec) (h0:l0.length≤60) (c124:∀ p no,FN n 124 [dR a,il p,il no]=some (0,[.d (il (fdZ (fdx p no (a.getD []))))]))
  (c126:∀ (l:List Rec) r,l.length≤1000→FN n 126 (dR (some l)::recR r)=some (0,[.d (dR (some (put l r)))])) :
  loopR [L66_0 (RP n)] M0 0 [.d (dR a),.d (dR (some l0)),.d (dR b),.d (il (b.getD []).length),.d (il 0)]=jnP l0 (jn (a.getD []) (b.getD [])):=by
 have:=range_loop (β:=List Rec) (b.getD []) (by omega) (L66_0 (RP n)) (fun i acc=>[.d (dR a),.d (dR (some acc)),.d (dR b),.d (il (b.getD []).length),.d (il i)]) (fun i acc=>acc.length≤60+i)
  (fun _ t acc=>jnP acc (jn (a.getD []) t)) ?_ ?_ M0 l0 (by omega) (M0_big (by omega))
 ·exact this
 ·intro acc k _
  simp only [L66_0,r_ld0,r_lds,r_lss,Int.lt_irrefl,decide_false,Bool.false_eq_true,if_false,r_cond,r_out,jn,jnP,List.foldl_nil]
 ·intro i c t acc k hi hd hlt hw hI ih
  have hlt':(i:Int) < ((b.getD []).length:Int):=by omega
  have cc:=c124 c.p c.no
  have cp:=c126 acc c (by omega)
  simp only [recR] at cp
  have hf:=fdx_find c (a.getD [])
  rw [jn]
  cases hx:fdx c.p c.no (a.getD []) with
  | none =>
   rw [hx] at hf cc
   simp only at hf
   simp only [fdZ] at cc
   rw [hf]
   have ih':=ih (put acc c) (by rw [(put_perm c acc).length_eq];simp only [List.length_cons];omega)
   rw [cast1] at ih'
   have e:jnP acc ((jn (a.getD []) t).map (c::·))=jnP (put acc c) (jn (a.getD []) t):=by
    cases jn (a.getD []) t with
    | none=>rfl
    | some f=>rfl
   simp only
   rw [e,← ih']
   simp only [L66_0,r_ld0,r_lds,r_lss,hlt',decide_true,if_true,r_cond,rowR hi,cR0,cR1,cR2,cR3,cR4,cR5,cR6,cR7,r_call,cc,r_bnd0,r_liti,r_geq,show ¬ ((0:Int)≤-1) by decide,decide_false,Bool.false_eq_true,if_false,show ((-1:Int) < 0) by decide,cp,r_add,hw]
  | some j =>
   rw [hx] at hf cc
   simp only at hf
   simp only [fdZ] at cc
   obtain ⟨x,hj,hf⟩:=hf
   rw [hf]
   have ih':=ih acc (by omega)
   rw [cast1] at ih'
   have hnj:¬ ((j:Int) < 0):=by omega
   have hgj:(0:Int)≤(j:Int):=by omega
   simp only [L66_0,r_ld0,r_lds,r_lss,hlt',decide_true,if_true,r_cond,rowR hi,cR0,cR1,cR2,cR3,cR4,cR5,cR6,cR7,r_call,cc,r_bnd0,r_liti,r_geq,hgj,rowR hj,eqR,r_out,hnj,decide_false,Bool.false_eq_true,if_false,r_add,hw,ih']
   by_cases he:x=c
   ·simp only [he,decide_true,Bool.not_true,Bool.false_eq_true,if_false,if_true]
   ·simp only [he,decide_false,Bool.not_false,if_true,if_false,jnP]
theorem jn_joinZ {a b:List Rec} (ha:isBook a) (hb:isBook b):joinZ a b=match jn a b with
  | none=>([],82)
  | some f=>if 60 < (f.foldl put a).length then ([],2) else (f.foldl put a,0):=by
 rw [joinZ_book ha hb]
 have h:=jn_spec ha.1 b
 cases hj:jn a b with
 | none =>
  rw [hj] at h
  unfold joinP
  rw [if_pos h]
 | some f =>
  rw [hj] at h
  obtain ⟨h1,rfl⟩:=h
  obtain ⟨g1,g2⟩:=join_puts ha hb
  unfold joinP
  simp only
  rw [if_neg h1,g1]
  by_cases hl:60 < (joined a b).length
  ·rw [if_pos hl,if_pos hl]
  ·rw [if_neg hl,if_neg hl,g2 (by omega)]
theorem s66 (n:Nat) (a b:Option (List Rec)) (hla:(a.getD []).length≤4611686018427387904) (hlb:(b.getD []).length≤4611686018427387904):∃ q,FN (n+8) 66 [dR a,dR b]=some (0,[.d (dR q),.d (il (joinZ (a.getD []) (b.getD [])).2)])∧q.getD []=(joinZ (a.getD []) (b.getD [])).1:=by
 have ca:=s57 n a hla
 have cb:=s57 n b hlb
 have hk0:chkZ true=0:=rfl
 have hk1:chkZ false=81:=rfl
 rw [F66]
 by_cases hba:bookB (a.getD [])=true
 ·rw [hba] at ca
  by_cases hbb:bookB (b.getD [])=true
  ·rw [hbb] at cb
   have hA:=(bookB_iff _).1 hba
   have hB:=(bookB_iff _).1 hbb
   have h60:=log_len hA.1
   have h61:=log_len hB.1
   rw [jn_joinZ hA hB]
   have lp:=l66 (n+7) a b h61 (a.getD []) h60 (fun p no=>s124 (n+6) a p no hla) (fun l r hl=>s126 (n+5) (some l) r hl)
   have hm:((a.getD []).map recR).length=(a.getD []).length:=List.length_map _
   have ht:((a.getD []).map recR).take (a.getD []).length=(a.getD []).map recR:=List.take_of_length_le (by simp)
   have f1:(a.getD []).length*72≤140737488355328∧(a.getD []).length≤9223372036854775807:=by omega
   have lp':loopR [L66_0 (RP (n+7))] M0 0 [.d (dR a),.d (.sl 8 ((a.getD []).map recR)),.d (dR b),.d (il (b.getD []).length),.d (il 0)]=_:=lp
   cases hj:jn (a.getD []) (b.getD []) with
   | none =>
    rw [hj] at lp'
    refine ⟨none,?_,rfl⟩
    simp only [G66,lenL,rowsL,r_call,ca,cb,hk0,r_bnd0,r_ld0,r_neq,ne_eq,not_true,decide_false,Bool.false_eq_true,if_false,r_cond,r_natN,r_rows,r_len,List.length_nil,r_eqN,if_true,r_addN,Nat.zero_add,hm,r_fitsg,if_pos f1,r_app,List.nil_append,r_seg0,ht,r_slD,r_loop,r_liti,lp',jnP,r_litNil,r_out]
    rfl
   | some f =>
    rw [hj] at lp'
    simp only
    have hlen:(dR (some (f.foldl put (a.getD []))))=.sl 8 ((f.foldl put (a.getD [])).map recR):=rfl
    by_cases h:60 < (f.foldl put (a.getD [])).length
    ·have h':(60:Int) < ((f.foldl put (a.getD [])).length:Int):=by omega
     rw [if_pos h]
     refine ⟨none,?_,rfl⟩
     simp only [G66,lenL,rowsL,r_call,ca,cb,hk0,r_bnd0,r_bnd1,r_ld0,r_neq,ne_eq,not_true,decide_false,Bool.false_eq_true,if_false,r_cond,r_natN,r_rows,r_len,List.length_nil,r_eqN,if_true,r_addN,Nat.zero_add,hm,r_fitsg,if_pos f1,r_app,List.nil_append,r_seg0,ht,r_slD,r_loop,r_liti,lp',jnP,Option.getD_some,r_gtr,h',decide_true,r_litNil,r_out]
     rfl
    ·have h':¬ ((60:Int) < ((f.foldl put (a.getD [])).length:Int)):=by omega
     rw [if_neg h]
     refine ⟨some (f.foldl put (a.getD [])),?_,rfl⟩
     simp only [G66,lenL,rowsL,r_call,ca,cb,hk0,r_bnd0,r_bnd1,r_ld0,r_neq,ne_eq,not_true,decide_false,Bool.false_eq_true,if_false,r_cond,r_natN,r_rows,r_len,List.length_nil,r_eqN,if_true,r_addN,Nat.zero_add,hm,r_fitsg,if_pos f1,r_app,List.nil_append,r_seg0,ht,r_slD,r_loop,r_liti,lp',jnP,Option.getD_some,r_gtr,h',r_out]
  ·rw [Bool.not_eq_true] at hbb
   have hz:joinZ (a.getD []) (b.getD [])=([],81):=by unfold joinZ;rw [hbb,Bool.and_false];rfl
   rw [hbb] at cb
   rw [hz]
   refine ⟨none,?_,rfl⟩
   simp only [G66,r_call,ca,cb,hk0,hk1,r_bnd0,r_ld0,r_neq,ne_eq,not_true,show ¬ ((81:Int)=0) by decide,not_false_eq_true,decide_true,decide_false,Bool.false_eq_true,if_false,if_true,r_cond,r_liti,r_litNil,r_out]
   rfl
 ·rw [Bool.not_eq_true] at hba
  have hz:joinZ (a.getD []) (b.getD [])=([],81):=by unfold joinZ;rw [hba,Bool.false_and];rfl
  rw [hba] at ca
  rw [hz]
  refine ⟨none,?_,rfl⟩
  simp only [G66,r_call,ca,hk1,r_bnd0,r_ld0,r_neq,ne_eq,show ¬ ((81:Int)=0) by decide,not_false_eq_true,decide_true,if_true,r_cond,r_liti,r_litNil,r_out]
  rfl
theorem haveY_6 (l:List Rec):∃ a b c d e f g:Int,haveY l=[.d (il a),.d (il b),.d (il c),.d (il d),.d (il e),.d (il f),.d (il g)]:=by
 unfold haveY
 split
 ·exact ⟨_,_,_,_,_,_,_,rfl⟩
 ·exact ⟨_,_,_,_,_,_,_,rfl⟩
section
variable {Fn:Nat→List D→Out} {FnD:D→List Sh→List D→Out} {m:Nat}
theorem r_eqs6 (a b c d e f a' b' c' d' e' f':Int) (k:D→Out):(real Fn FnD m).eqs [1,1,1,1,1,1] false [il a,il b,il c,il d,il e,il f] [il a',il b',il c',il d',il e',il f'] k=k (bl (decide (a=a'∧b=b'∧c=c'∧d=d'∧e=e'∧f=f'))):=by
 have:cellsEq [1,1,1,1,1,1] ([il a,il b,il c,il d,il e,il f].map .d) ([il a',il b',il c',il d',il e',il f'].map .d)=some (decide (a=a'∧b=b'∧c=c'∧d=d'∧e=e'∧f=f')):=by
  simp only [List.map_cons,List.map_nil,il,cellsEq,litEq_i,Option.some.injEq]
  rw [Bool.eq_iff_iff]
  simp
 simp only [real,this];rfl
theorem lawBooks (a b l:Option (List Rec)) (r:Rec) (ha:(a.getD []).length≤4611686018427387904) (hb:(b.getD []).length≤4611686018427387904) (hl:(l.getD []).length≤4611686018427387904) (h20:Fn 20 []=some (0,[.d (bl true)]))
  (h59:∃ q,Fn 59 [dR l]=some (0,[.d (dR q),.d (il (srtZ (l.getD [])).2)])∧q.getD []=(srtZ (l.getD [])).1)
  (h63:∃ q,Fn 63 [dR l]=some (0,[.d (dR q),.d (il (srtZ (l.getD [])).2)])∧q.getD []=(srtZ (l.getD [])).1)
  (h64:∃ q,Fn 64 (dR a::recR r)=some (0,[.d (dR q),.d (il (addZ (a.getD []) r).2)])∧q.getD []=(addZ (a.getD []) r).1)
  (h65:∃ q,Fn 65 (dR a::recR r)=some (0,[.d (dR q),.d (il (addZ (a.getD []) r).2)])∧q.getD []=(addZ (a.getD []) r).1)
  (h58:∃ q,Fn 58 [dR a,dR b]=some (0,[.d (dR q),.d (il (joinZ (a.getD []) (b.getD [])).2)])∧q.getD []=(joinZ (a.getD []) (b.getD [])).1)
  (h66:∃ q,Fn 66 [dR a,dR b]=some (0,[.d (dR q),.d (il (joinZ (a.getD []) (b.getD [])).2)])∧q.getD []=(joinZ (a.getD []) (b.getD [])).1)
  (h67:Fn 67 [dR a]=some (0,haveY (a.getD []))) (h68:Fn 68 [dR a]=some (0,haveY (a.getD [])))
  (h26:∀ a b,(a.getD []).length≤4611686018427387904→Fn 26 [dR a,dR b]=some (0,[.d (bl (decide (a.getD []=b.getD [])))])) (z:Int)
  (h60:Fn 60 [dR a]=some (0,[.d (il z)])) (h57:Fn 57 [dR a]=some (0,[.d (il z)]))
  (ls:(srtZ (l.getD [])).1.length≤4611686018427387904) (la:(addZ (a.getD []) r).1.length≤4611686018427387904) (lj:(joinZ (a.getD []) (b.getD [])).1.length≤4611686018427387904) :
  G12 (real Fn FnD M0) (dR a) (dR b) (dR l) (il r.p) (il r.no) (il r.kd) (il r.dy) (il r.kn) (il r.op) (il r.on) (sD r.tx)=some (0,[.d (bl true)]):=by
 obtain ⟨q1,e1,f1⟩:=h59
 obtain ⟨q2,e2,f2⟩:=h63
 obtain ⟨q3,e3,f3⟩:=h64
 obtain ⟨q4,e4,f4⟩:=h65
 obtain ⟨q5,e5,f5⟩:=h58
 obtain ⟨q6,e6,f6⟩:=h66
 obtain ⟨c0,c1,c2,c3,c4,c5,c6,hv⟩:=haveY_6 (a.getD [])
 rw [hv] at h67 h68
 have g1:=h26 q1 q2 (by rw [f1];exact ls)
 rw [f1,← f2,decide_eq_true rfl] at g1
 have g2:=h26 q3 q4 (by rw [f3];exact la)
 rw [f3,← f4,decide_eq_true rfl] at g2
 have g3:=h26 q5 q6 (by rw [f5];exact lj)
 rw [f5,← f6,decide_eq_true rfl] at g3
 simp only [recR] at e3 e4
 simp only [G12,r_call,e1,e2,e3,e4,e5,e6,h67,h68,g1,g2,g3,h60,h57,h20,r_bnd0,r_ld0,r_lds,r_cond,if_true,r_eql,decide_true,r_eqs6,and_self,r_out]
end
end Go.VE
namespace Go.VE
open Go.RowKit Go.Proofs Go.Lib
set_option maxRecDepth 100000
theorem add_sc (n:Nat) (o:Option (List Rec)) (r:Rec) (hb:bookB (o.getD [])=true) (ha:addsP (o.getD []) r=(false,0)) :
  SC Tryz.prog 64 [.agg [dR o],.agg (recR r)] (.tup [.agg [.d (dR (some (insort (o.getD []++[r]))))],.one (.d (il 0))]):=by
 have hbk:=(bookB_iff _).1 hb
 have h60:=log_len hbk.1
 have e60:FN (n+7) 60 [dR o]=some (0,[.d (il 0)]):=by
  have:=s60 n o (by omega)
  rw [hb] at this
  exact this
 have e81:FN (n+7) 81 (dR o::recR r)=some (0,[.d (bl false),.d (il 0)]):=by
  have:=s81 (n+2) o r (by omega) (book_six hbk)
  rw [ha] at this
  exact this
 have hn:=adds_next hbk.1 (r:=r) ha
 obtain ⟨_,hlg⟩:=put_book hbk hn
 have hlen:=log_len hlg
 have e83:((dR o)=.lit (.slice none 0 0)∧o.getD []=[]∧FN (n+7) 83 [dR o]=some (1,[.d (.lit (.slice none 0 0))]))∨FN (n+7) 83 [dR o]=some (0,[.r ((o.getD []).map recR)]):=by
  cases o with
  | none=>exact .inl ⟨rfl,rfl,s83n (n+6)⟩
  | some l=>exact .inr (s83 (n+6) l (by simp only [Option.getD_some] at h60;omega))
 have e121:FN (n+7) 121 [.sl 8 ((o.getD []++[r]).map recR)]=some (0,[.d (.sl 8 ((insort (o.getD []++[r])).map recR))]):=t121 (n+5) (o.getD []++[r]) (by omega) (log_diff hlg)
 refine ⟨enters_of Tryz.func64 (by kernel_rfl) rfl,fun w U vs hU hX hv=>?_⟩
 obtain ⟨a1,r1,e1,⟨cs1,rfl,q1⟩,a2,r2,rfl,⟨cs2,rfl,q2⟩,rfl⟩:=hv
 simp only [recR,FR] at q1 q2
 obtain ⟨v,_,c1,hd,rfl⟩:=q1
 obtain ⟨_,_,c2,⟨rfl,_⟩,_,_,rfl,⟨rfl,_⟩,_,_,rfl,⟨rfl,_⟩,_,_,rfl,⟨rfl,_⟩,_,_,rfl,⟨rfl,_⟩,_,_,rfl,⟨rfl,_⟩,_,_,rfl,⟨rfl,_⟩,_,_,rfl,⟨rfl,_⟩,rfl⟩:=q2
 rw [arr_of e1,arr_of c1,arr_of c2]
 exact add_c (FN_ok (n+7)) e60 e81 e83 e121 h60 hU hX hd
def AddW (xs:List D) (m:List Rec):Prop:=∃ o r,xs=dR o::recR r∧bookB (o.getD [])=true∧addsP (o.getD []) r=(false,0)∧m=insort (o.getD []++[r])
open Classical in
noncomputable def FnA (n:Nat) (f:Nat) (xs:List D):Out:=if h:f=64∧∃ m,AddW xs m then some (0,[.d (dR (some h.2.choose)),.d (il 0)]) else FnS n f xs
theorem FnA_ne {n f:Nat} {xs:List D} {o:Out} (h:FnS n f xs=o) (hf:f≠64):FnA n f xs=o:=by
 rw [←h,FnA,dif_neg (fun h=>hf h.1)]
theorem FnA_no {n:Nat} {xs:List D} (h:∀ m,¬ AddW xs m):FnA n 64 xs=FnS n 64 xs:=by
 rw [FnA,dif_neg (fun hh=>by obtain ⟨_,m,hm⟩:=hh;exact h m hm)]
theorem FnA_ok (n:Nat):FnOK Tryz.prog (cf3 tb Tryz.prog) (FnA n):=by
 intro f sh xs vs j ys rs h1 h2 h3 h4
 unfold FnA at h3
 split at h3
 ·rename_i hc
  have hs:=hc.2.choose_spec
  obtain ⟨rfl,_⟩:=hc
  obtain ⟨o,r,rfl,hb,ha,hm⟩:=hs
  simp only [Option.some.injEq,Prod.mk.injEq] at h3
  obtain ⟨rfl,rfl⟩:=h3
  rw [hm]
  have e1:(cf3 tb Tryz.prog).ash 64=some [.agg 1,.agg 8]:=rfl
  rw [e1] at h1
  cases h1
  cases h2
  have e2:((cf3 tb Tryz.prog).rsk 64)[0]?=some [(true,[.d]),(false,[.d])]:=rfl
  rw [e2] at h4
  cases h4
  exact add_sc 0 o r hb ha
 ·exact FnS_ok n f sh xs vs j ys rs h1 h2 h3 h4
theorem FnA_okM (n:Nat):FmOK Tryz.prog (cf3 tb Tryz.prog) (FnA n):=fun f ms xs zs h1 h2=>by
 rw [FnA_ne rfl (by omega)] at h2
 exact FnS_okM n f ms xs zs h1 h2
theorem recR_inj {r r':Rec} (h:recR r=recR r'):r=r':=by
 cases r
 cases r'
 simp only [recR,il,sD,List.cons.injEq,D.lit.injEq,Value.int.injEq,Value.string.injEq,true_and,and_true] at h
 obtain ⟨rfl,rfl,rfl,rfl,rfl,rfl,rfl,e⟩:=h
 injection e with e1
 have e':=congrArg Array.toList e1
 simp only [List.toList_toArray] at e'
 rw [e']
theorem rows_inj:∀ {l l':List Rec},l.map recR=l'.map recR→l=l'
 | [],[],_=>rfl
 | r::l,r'::l',h=>by
  rw [List.map_cons,List.map_cons] at h
  obtain ⟨h1,h2⟩:=List.cons.inj h
  rw [recR_inj h1,rows_inj h2]
theorem dR_inj {o o':Option (List Rec)} (h:dR o=dR o'):o=o':=by
 cases o with
 | none=>cases o' with
  | none=>rfl
  | some l'=>cases h
 | some l=>cases o' with
  | none=>cases h
  | some l' =>
   have:l.map recR=l'.map recR:=by
    have h':D.sl 8 (l.map recR)=D.sl 8 (l'.map recR):=h
    injection h'
   rw [rows_inj this]
theorem a64 (n:Nat) (o:Option (List Rec)) (r:Rec) (hl:(o.getD []).length≤4611686018427387904):∃ q,FnA (n+8) 64 (dR o::recR r)=some (0,[.d (dR q),.d (il (addZ (o.getD []) r).2)])∧q.getD []=(addZ (o.getD []) r).1:=by
 by_cases hw:bookB (o.getD [])=true∧addsP (o.getD []) r=(false,0)
 ·obtain ⟨hb,ha⟩:=hw
  have hbk:=(bookB_iff _).1 hb
  have hn:=adds_next hbk.1 (r:=r) ha
  obtain ⟨_,hlg⟩:=put_book hbk hn
  have hc:(64:Nat)=64∧∃ m,AddW (dR o::recR r) m:=⟨rfl,_,o,r,rfl,hb,ha,rfl⟩
  have hs:=hc.2.choose_spec
  obtain ⟨o',r',e,_,_,hm⟩:=hs
  obtain ⟨e1,e2⟩:=List.cons.inj e
  obtain rfl:=dR_inj e1
  obtain rfl:=recR_inj e2
  have hz:addZ (o.getD []) r=(srt (o.getD []++[r]),0):=by
   unfold addZ
   rw [if_pos hb,ha]
   rfl
  refine ⟨some (insort (o.getD []++[r])),?_,?_⟩
  ·rw [hz,FnA,dif_pos hc,hm]
  ·rw [hz,Option.getD_some,insort_eq hlg]
 ·rw [FnA_no (fun m hm=>by
   obtain ⟨o',r',e,hb,ha,_⟩:=hm
   obtain ⟨e1,e2⟩:=List.cons.inj e
   obtain rfl:=dR_inj e1
   obtain rfl:=recR_inj e2
   exact hw ⟨hb,ha⟩)]
  have goal:∃ q,FN (n+8) 64 (dR o::recR r)=some (0,[.d (dR q),.d (il (addZ (o.getD []) r).2)])∧q.getD []=(addZ (o.getD []) r).1:=by
   have h:=s60 n o hl
   show ∃ q,FN (n+8) 64 [dR o,il r.p,il r.no,il r.kd,il r.dy,il r.kn,il r.op,il r.on,sD r.tx]=_∧_
   rw [F64]
   unfold addZ
   by_cases hb:bookB (o.getD [])=true
   ·have hbk:=(bookB_iff _).1 hb
    have h60:=log_len hbk.1
    have ha:=s81 (n+2) o r hl (book_six hbk)
    have ha':FN (n+7) 81 [dR o,il r.p,il r.no,il r.kd,il r.dy,il r.kn,il r.op,il r.on,sD r.tx]=some (0,[.d (bl (addsP (o.getD []) r).1),.d (il (addsP (o.getD []) r).2)]):=ha
    have hk0:chkZ true=0:=rfl
    rw [hb] at h
    rw [if_pos hb]
    by_cases he:(addsP (o.getD []) r).2=0
    ·rw [if_pos he]
     rw [he] at ha'
     by_cases hi:(addsP (o.getD []) r).1=true
     ·rw [if_pos hi]
      rw [hi] at ha'
      have hmem:=(adds_is (l:=o.getD []) (r:=r) (e:=0) (Prod.ext hi he)).1
      cases o with
      | none=>simp at hmem
      | some l =>
       simp only [Option.getD_some] at *
       have c:=s83 (n+6) l (by omega)
       have hm:(l.map recR).take (l.map recR).length=l.map recR:=List.take_length
       refine ⟨some l,?_,rfl⟩
       simp only [G64,r_call,h,hk0,ha',c,r_bnd0,r_ld0,r_lds,r_neq,ne_eq,not_true,decide_false,Bool.false_eq_true,if_false,r_cond,if_true,r_lr0,r_len,r_eqN,r_seg0,hm,r_slD,r_liti,r_out]
       rfl
     ·rw [Bool.not_eq_true] at hi
      exact absurd ⟨hb,Prod.ext hi he⟩ hw
    ·rw [if_neg he]
     refine ⟨none,?_,rfl⟩
     simp only [G64,r_call,h,hk0,ha',r_bnd0,r_ld0,r_lds,r_neq,ne_eq,not_true,decide_false,Bool.false_eq_true,if_false,r_cond,he,not_false_eq_true,decide_true,if_true,r_litNil,r_liti,r_out]
     rfl
   ·rw [Bool.not_eq_true] at hb
    have hk1:chkZ false=81:=rfl
    rw [hb] at h
    rw [if_neg (by simp [hb])]
    refine ⟨none,?_,rfl⟩
    simp only [G64,r_call,h,hk1,r_bnd0,r_ld0,r_neq,ne_eq,show ¬ ((81:Int)=0) by decide,not_false_eq_true,decide_true,if_true,r_cond,r_litNil,r_liti,r_out]
    rfl
  obtain ⟨q,e1,e2⟩:=goal
  exact ⟨q,FnS_ne e1 (by decide),e2⟩
end Go.VE
namespace Go.VE
open Go.RowKit Go.Proofs Go.Lib
set_option maxRecDepth 100000
theorem o46 {n:Nat} {ds:List D} (h:HasT Tryz.prog (n+6) 46 ds):∃ (o:Option (List Rec)) (r:Rec),ds=dR o::recR r∧(o.getD []).length≤4611686018427387904:=by
 obtain ⟨_,_,rfl,h1,_,_,rfl,h2,rfl⟩:=h.struct Tryz.underlying46 rfl
 obtain ⟨o,rfl,ho⟩:=o44 h1
 obtain ⟨r,rfl,_⟩:=o25 h2
 exact ⟨o,r,rfl,ho⟩
theorem srtZ_len (l:List Rec):(srtZ l).1.length≤60:=by
 unfold srtZ
 split
 ·rename_i h
  rw [(srt_perm h).length_eq]
  exact log_len h
 ·simp
theorem addZ_len (l:List Rec) (r:Rec):(addZ l r).1.length≤60:=by
 unfold addZ
 split
 ·rename_i hb
  have hbk:=(bookB_iff _).1 hb
  split
  ·rename_i he
   split
   ·exact log_len hbk.1
   ·rename_i hi
    rw [Bool.not_eq_true] at hi
    have hn:=adds_next hbk.1 (r:=r) (Prod.ext hi he)
    obtain ⟨_,hlg⟩:=put_book hbk hn
    rw [(srt_perm hlg).length_eq]
    exact log_len hlg
  ·simp
 ·simp
theorem joinZ_len (a b:List Rec):(joinZ a b).1.length≤60:=by
 by_cases h:(bookB a&&bookB b)=true
 ·rw [Bool.and_eq_true] at h
  have hA:=(bookB_iff _).1 h.1
  have hB:=(bookB_iff _).1 h.2
  rw [jn_joinZ hA hB]
  split
  ·simp
  ·split
   ·simp
   ·simp only;omega
 ·rw [Bool.not_eq_true] at h
  unfold joinZ
  rw [h]
  simp
theorem bookBooks_sc (vds:List VD) (h:VTs Tryz.prog 8 [120,120,46] vds):SC Tryz.prog 12 vds (.one (.d (bl true))):=by
 obtain ⟨_,_,rfl,h1,h⟩:=VTs_cons h
 obtain ⟨_,_,rfl,h2,h⟩:=VTs_cons h
 obtain ⟨_,_,rfl,h3,h⟩:=VTs_cons h
 cases VTs_nil h
 obtain ⟨_,rfl,k1⟩:=h1.agg_ Tryz.underlying120
 obtain ⟨_,rfl,k2⟩:=h2.agg_ Tryz.underlying120
 obtain ⟨_,rfl,k3⟩:=h3.agg_ Tryz.underlying46
 obtain ⟨a,rfl,ha⟩:=o120 k1
 obtain ⟨b,rfl,hb⟩:=o120 k2
 obtain ⟨l,r,rfl,hl⟩:=o46 k3
 refine lawSC (T:=tb) (fuel:=400) (m0:=M0) (xs:=[dR a,dR b,dR l,il r.p,il r.no,il r.kd,il r.dy,il r.kn,il r.op,il r.on,sD r.tx]) mixP (FnA_ok 20) (FnA_okM 20) spOK (by decide) (sh:=[.agg 1,.agg 1,.agg 9]) rfl rfl rfl ?_
 rw [G12_eq]
 have up:∀ {f xs} {A:Option (List Rec)→List Rec→Prop} {e:Int},f≠20→f≠64→(∃ q,FN 20 f xs=some (0,[.d (dR q),.d (il e)])∧A q [])→∃ q,FnA 20 f xs=some (0,[.d (dR q),.d (il e)])∧A q []:=fun h20 h64 ⟨q,e1,e2⟩=>⟨q,FnA_ne (FnS_ne e1 h20) h64,e2⟩
 exact lawBooks a b l r ha hb hl (FnA_ne (FnS_20 20) (by decide)) (up (A:=fun q x=>q.getD x=_) (by decide) (by decide) (s59 13 l hl)) (up (A:=fun q x=>q.getD x=_) (by decide) (by decide) (s63 13 l hl)) (a64 12 a r ha) (up (A:=fun q x=>q.getD x=_) (by decide) (by decide) (s65 12 a r ha))
  (up (A:=fun q x=>q.getD x=_) (by decide) (by decide) (s58 12 a b ha hb)) (up (A:=fun q x=>q.getD x=_) (by decide) (by decide) (s66 12 a b ha hb)) (FnA_ne (FnS_ne (s67 12 a ha) (by decide)) (by decide)) (FnA_ne (FnS_ne (s68 12 a ha) (by decide)) (by decide))
  (fun a b h=>FnA_ne (FnS_ne (s26 19 a b h) (by decide)) (by decide)) (chkZ (bookB (a.getD []))) (FnA_ne (FnS_ne (s60 13 a ha) (by decide)) (by decide)) (FnA_ne (FnS_ne (s57 13 a ha) (by decide)) (by decide))
  (Nat.le_trans (srtZ_len _) (by decide)) (Nat.le_trans (addZ_len _ _) (by decide)) (Nat.le_trans (joinZ_len _ _) (by decide))
end Go.VE
