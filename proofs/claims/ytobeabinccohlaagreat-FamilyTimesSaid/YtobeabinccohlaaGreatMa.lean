/- The data that a Go value reads as, and the relation between such data and the model's memory. -/
import Derived.WalkKit
import Derived.Maps.AppendAt
import Derived.Deep.Draws
import Derived.Laws.MakeOwn
import Derived.Laws.Slices
import Derived.Laws.StructEq
namespace Go.VE
theorem T0:type_of% @Bool.false_eq_true:=@Bool.false_eq_true
theorem T1:type_of% @if_pos:=@if_pos
theorem T3:type_of% @Option.some.injEq:=@Option.some.injEq
theorem T4:type_of% @decide_eq_true_eq:=@decide_eq_true_eq
theorem T5:type_of% @if_neg:=@if_neg
theorem T6:type_of% @if_true:=@if_true
theorem T7:type_of% @Option.getD_some:=@Option.getD_some
theorem T8:type_of% @decide_true:=@decide_true
theorem T9:type_of% @if_false:=@if_false
theorem Ta:type_of% @Option.map_eq_some_iff:=@Option.map_eq_some_iff
theorem Tb:type_of% @List.length_cons:=@List.length_cons
theorem Tc:type_of% @List.getElem?_eq_getElem:=@List.getElem?_eq_getElem
theorem Td:type_of% @List.length_nil:=@List.length_nil
theorem Te:type_of% @Bool.and_eq_true:=@Bool.and_eq_true
theorem Tf:type_of% @Nat.le_refl:=@Nat.le_refl
theorem Tg:type_of% @List.take_succ_cons:=@List.take_succ_cons
theorem Th:type_of% @Option.map_some:=@Option.map_some
theorem Ti:type_of% @List.mem_cons:=@List.mem_cons
theorem Tj:type_of% @List.length_map:=@List.length_map
theorem Tk:type_of% @decide_false:=@decide_false
theorem Tl:type_of% @List.map_cons:=@List.map_cons
theorem Tm:type_of% @List.getElem?_map:=@List.getElem?_map
theorem Tn:type_of% @List.getElem?_eq_some_iff:=@List.getElem?_eq_some_iff
theorem To:type_of% @List.append_assoc:=@List.append_assoc
theorem Tp:type_of% @List.length_append:=@List.length_append
theorem Tq:type_of% @List.take_zero:=@List.take_zero
theorem Tr:type_of% @List.cons_append:=@List.cons_append
theorem Ts:type_of% @List.mem_cons_of_mem:=@List.mem_cons_of_mem
theorem Tt:type_of% @List.append_nil:=@List.append_nil
theorem Tu:type_of% @Bool.not_true:=@Bool.not_true
theorem Tv:type_of% @Array.getD_eq_getD_getElem?:=@Array.getD_eq_getD_getElem?
theorem Tw:type_of% @List.mem_singleton:=@List.mem_singleton
theorem Tx:type_of% @not_true_eq_false:=@not_true_eq_false
theorem Ty:type_of% @Prod.mk.injEq:=@Prod.mk.injEq
theorem Tz:type_of% @Nat.zero_add:=@Nat.zero_add
theorem V0:type_of% @Int.toNat_natCast:=@Int.toNat_natCast
theorem V1:type_of% @Bool.not_false:=@Bool.not_false
theorem V2:type_of% @List.getElem?_append_left:=@List.getElem?_append_left
theorem V4:type_of% @List.all_eq_true:=@List.all_eq_true
theorem V5:type_of% @List.nil_append:=@List.nil_append
theorem V6:type_of% @List.mem_append:=@List.mem_append
theorem V7:type_of% @Bool.true_and:=@Bool.true_and
theorem V8:type_of% @List.mem_map:=@List.mem_map
theorem V9:type_of% @Int.natCast_zero:=@Int.natCast_zero
theorem Va:type_of% @Option.bind_some:=@Option.bind_some
theorem Vb:type_of% @List.mem_of_getElem?:=@List.mem_of_getElem?
theorem Vc:type_of% @List.take_of_length_le:=@List.take_of_length_le
theorem Vd:type_of% @List.getElem?_append_right:=@List.getElem?_append_right
theorem Ve:type_of% @List.getElem?_eq_none:=@List.getElem?_eq_none
theorem Vf:type_of% @List.take_length:=@List.take_length
theorem Vg:type_of% @Option.bind_eq_some_iff:=@Option.bind_eq_some_iff
theorem Vh:type_of% @List.mem_append_right:=@List.mem_append_right
theorem Vi:type_of% @List.all_cons:=@List.all_cons
theorem Vj:type_of% @List.getElem?_cons_zero:=@List.getElem?_cons_zero
theorem Vk:type_of% @List.take_append_of_le_length:=@List.take_append_of_le_length
theorem Vl:type_of% @Bool.or_eq_true:=@Bool.or_eq_true
theorem Vm:type_of% @List.mem_append_left:=@List.mem_append_left
theorem Vn:type_of% @Nat.le_trans:=@Nat.le_trans
theorem Vo:type_of% @List.length_take:=@List.length_take
theorem Vp:type_of% @List.drop_length:=@List.drop_length
theorem Vq:type_of% @Bool.true_eq_false:=@Bool.true_eq_false
theorem Vr:type_of% @and_self:=@and_self
theorem Vs:type_of% @List.getElem?_take:=@List.getElem?_take
theorem Vt:type_of% @List.drop_eq_getElem_cons:=@List.drop_eq_getElem_cons
theorem Vu:type_of% @Option.getD_none:=@Option.getD_none
theorem Vv:type_of% @List.map_map:=@List.map_map
theorem Vw:type_of% @of_decide_eq_true:=@of_decide_eq_true
theorem Vx:type_of% @Bool.and_true:=@Bool.and_true
theorem Vy:type_of% @List.pairwise_cons:=@List.pairwise_cons
theorem Vz:type_of% @List.getD_eq_getElem?_getD:=@List.getD_eq_getElem?_getD
theorem W0:type_of% @Function.comp_def:=@Function.comp_def
theorem W2:type_of% @List.any_cons:=@List.any_cons
theorem W3:type_of% @Option.isSome_iff_exists:=@Option.isSome_iff_exists
theorem W4:type_of% @decide_eq_false_iff_not:=@decide_eq_false_iff_not
theorem W5:type_of% @and_false:=@and_false
theorem W6:type_of% @Array.getElem?_eq_some_iff:=@Array.getElem?_eq_some_iff
theorem W7:type_of% @Nat.mul_le_mul_right:=@Nat.mul_le_mul_right
theorem W8:type_of% @Bool.false_or:=@Bool.false_or
theorem W9:type_of% @List.not_mem_nil:=@List.not_mem_nil
theorem Wa:type_of% @Array.getElem?_eq_getElem:=@Array.getElem?_eq_getElem
theorem Wb:type_of% @List.map_congr_left:=@List.map_congr_left
theorem Wc:type_of% @Nat.add_mul:=@Nat.add_mul
theorem Wd:type_of% @List.eq_nil_of_length_eq_zero:=@List.eq_nil_of_length_eq_zero
theorem We:type_of% @List.length_filter_le:=@List.length_filter_le
theorem Wf:type_of% @List.nodup_cons:=@List.nodup_cons
theorem Wg:type_of% @List.all_nil:=@List.all_nil
theorem Wh:type_of% @Nat.lt_of_lt_of_le:=@Nat.lt_of_lt_of_le
theorem Wi:type_of% @List.map_take:=@List.map_take
theorem Wj:type_of% @Bool.and_self:=@Bool.and_self
theorem Wk:type_of% @Nat.add_zero:=@Nat.add_zero
theorem Wl:type_of% @Bool.not_eq_true':=@Bool.not_eq_true'
theorem Wm:type_of% @and_true:=@and_true
theorem Wn:type_of% @List.take_add_one:=@List.take_add_one
theorem Wo:type_of% @Array.length_toList:=@Array.length_toList
theorem Wp:type_of% @List.flatten_append:=@List.flatten_append
theorem Wq:type_of% @List.length_set:=@List.length_set
theorem Wr:type_of% @Option.map_none:=@Option.map_none
theorem Ws:type_of% @List.contains_iff_mem:=@List.contains_iff_mem
theorem Wt:type_of% @List.length_singleton:=@List.length_singleton
theorem Wu:type_of% @List.getElem?_drop:=@List.getElem?_drop
theorem Wv:type_of% @decide_eq_true_iff:=@decide_eq_true_iff
theorem Ww:type_of% @Nat.add_assoc:=@Nat.add_assoc
theorem Wx:type_of% @List.mem_of_mem_take:=@List.mem_of_mem_take
theorem Wz:type_of% @List.ext_getElem?:=@List.ext_getElem?
theorem X0:type_of% @List.map_append:=@List.map_append
theorem X1:type_of% @Array.getElem?_setIfInBounds:=@Array.getElem?_setIfInBounds
theorem X2:type_of% @Bool.eq_iff_iff:=@Bool.eq_iff_iff
theorem X3:type_of% @List.getElem?_range:=@List.getElem?_range
theorem X4:type_of% @Array.toList_append:=@Array.toList_append
theorem X5:type_of% @ne_eq:=@ne_eq
theorem X6:type_of% @Bool.not_not:=@Bool.not_not
theorem X7:type_of% @Array.toList_map:=@Array.toList_map
theorem X8:type_of% @List.take_take:=@List.take_take
theorem X9:type_of% @beq_iff_eq:=@beq_iff_eq
theorem Xa:type_of% @decide_eq_true:=@decide_eq_true
theorem Xb:type_of% @List.take_append_drop:=@List.take_append_drop
theorem Xc:type_of% @List.mem_filter:=@List.mem_filter
theorem Xd:type_of% @List.map_nil:=@List.map_nil
theorem Xe:type_of% @List.map_set:=@List.map_set
theorem Xf:type_of% @not_false_eq_true:=@not_false_eq_true
theorem Xg:type_of% @List.getD_cons_zero:=@List.getD_cons_zero
theorem Xh:type_of% @List.length_drop:=@List.length_drop
theorem Xi:type_of% @List.isEmpty_nil:=@List.isEmpty_nil
theorem Xj:type_of% @Bool.false_and:=@Bool.false_and
theorem Xk:type_of% @List.getElem?_cons_succ:=@List.getElem?_cons_succ
theorem Xl:type_of% @List.mem_cons_self:=@List.mem_cons_self
theorem Xm:type_of% @List.drop_eq_nil_of_le:=@List.drop_eq_nil_of_le
theorem Xn:type_of% @false_and:=@false_and
theorem Xo:type_of% @Array.getElem?_toList:=@Array.getElem?_toList
theorem Xp:type_of% @List.reverse_cons:=@List.reverse_cons
theorem Xq:type_of% @List.length_range:=@List.length_range
theorem Xr:type_of% @List.mapM_cons:=@List.mapM_cons
theorem Xs:type_of% @List.mem_range:=@List.mem_range
theorem Xt:type_of% @List.zipIdx_cons:=@List.zipIdx_cons
theorem Xu:type_of% @beq_self_eq_true:=@beq_self_eq_true
theorem Xv:type_of% @Nat.min_self:=@Nat.min_self
theorem Xw:type_of% @List.set_set:=@List.set_set
theorem Xx:type_of% @true_and:=@true_and
theorem Xy:type_of% @not_true:=@not_true
theorem Xz:type_of% @Int.le_refl:=@Int.le_refl
theorem Y0:type_of% @List.drop_zero:=@List.drop_zero
theorem Y1:type_of% @List.drop_drop:=@List.drop_drop
theorem Y2:type_of% @or_false:=@or_false
theorem Y3:type_of% @List.nodup_nil:=@List.nodup_nil
theorem Y4:type_of% @Bool.or_assoc:=@Bool.or_assoc
theorem Y5:type_of% @Nat.zero_le:=@Nat.zero_le
section
inductive D where
 | lit (v:Value)
 | sl (size:Nat) (rows:List (List D))
 | dp (row:List D) (off:Nat)
 | fn (f:Nat) (caps:List D)
 | mp (agg:Bool) (keys:List Value) (vals:List (List D))
 | ifc (t:Nat) (agg:Bool) (row:List D)
def dS (agg:Bool) (cs:List Value):Value:=if agg then .agg cs.toArray else cs.headD (.tuple #[])
instance:Inhabited D:=⟨.lit .nilFunc⟩
def plain:Value→Bool
 | .bool _ | .int _ _ | .string _ | .pointer none | .slice none 0 0 | .map none | .nilFunc | .nilIface=>true
 | _=>false
def iB (f:Nat) (cs:Array Value):Value:=if f < 2000000 then .func (.func f) #[] cs else .func (.func (f - 2000000)) cs #[]
mutual
def DR (w:World) (U:Nat→Prop):D→Value→Prop
 | .lit v,v'=>v'=v∧plain v=true
 | .sl size rows,v'=>∃ a cap,v'=.slice (some a) rows.length cap∧rows.length≤cap∧cap≤maxLen∧(0 < rows.length→∃ b o,a=⟨b,o,none⟩∧U b∧RR w U b o size rows)
 | .dp row off,v'=>∃ b o,v'=.pointer (some ⟨b,o+off,none⟩)∧U b∧CR w U b o row
 | .fn f caps,v'=>∃ cs,v'=iB f cs∧FR w U caps cs.toList
 | .mp agg keys vals,v'=>∃ r es clock,v'=.map (some r)∧U r∧w.heap[r]?=some (.map es clock)∧KR w U agg keys es.toList vals
 | .ifc t agg row,v'=>∃ cs,v'=.iface t (dS agg cs)∧(agg=false→cs.length=1)∧FR w U row cs
def CR (w:World) (U:Nat→Prop) (b:Nat):Nat→List D→Prop
 | _,[]=>True
 | o,x::xs=>(∃ u,w.cell? ⟨b,o,none⟩=some u∧DR w U x u)∧CR w U b (o+1) xs
def RR (w:World) (U:Nat→Prop) (b:Nat):Nat→Nat→List (List D)→Prop
 | _,_,[]=>True
 | o,size,r::rs=>r.length=size∧CR w U b o r∧RR w U b (o+size) size rs
def FR (w:World) (U:Nat→Prop):List D→List Value→Prop
 | [],vs=>vs=[]
 | x::xs,vs=>∃ v vs',vs=v::vs'∧DR w U x v∧FR w U xs vs'
def KR (w:World) (U:Nat→Prop) (agg:Bool) (keys:List Value) (es:List MapEntry):List (List D)→Prop
 | []=>keys=[]∧es=[]
 | r::rs=>∃ k ks e es' cs,keys=k::ks∧es=e::es'∧e.key=k∧plain k=true∧e.val=dS agg cs∧(agg=false→cs.length=1)∧FR w U r cs∧KR w U agg ks es' rs
end
mutual
theorem DR.mono {w w':World} {U U':Nat→Prop} (hb:∀ b,U b→w'.heap[b]?=w.heap[b]?) (hU:∀ b,U b→U' b):∀ (x:D) (v:Value),DR w U x v→DR w' U' x v
 | .lit v,v',h=>by simpa [DR] using h
 | .sl size rows,v',h=>by
  simp only [DR] at h ⊢
  obtain ⟨a,cap,h1,h2,h2',h3⟩:=h
  refine ⟨a,cap,h1,h2,h2',fun hn=>?_⟩
  obtain ⟨b,o,e,hu,hr⟩:=h3 hn
  exact ⟨b,o,e,hU b hu,RR.mono hb hU b (hb b hu) rows o size hr⟩
 | .dp row off,v',h=>by
  simp only [DR] at h ⊢
  obtain ⟨b,o,e,hu,hr⟩:=h
  exact ⟨b,o,e,hU b hu,CR.mono hb hU b (hb b hu) row o hr⟩
 | .fn f caps,v',h=>by
  simp only [DR] at h ⊢
  obtain ⟨cs,e,hr⟩:=h
  exact ⟨cs,e,FR.mono hb hU caps cs.toList hr⟩
 | .mp agg keys vals,v',h=>by
  simp only [DR] at h ⊢
  obtain ⟨r,es,clock,e,hu,hh,hk⟩:=h
  exact ⟨r,es,clock,e,hU r hu,(hb r hu).trans hh,KR.mono hb hU vals agg keys es.toList hk⟩
 | .ifc t agg row,v',h=>by
  simp only [DR] at h ⊢
  obtain ⟨cs,e,hl,hr⟩:=h
  exact ⟨cs,e,hl,FR.mono hb hU row cs hr⟩
theorem CR.mono {w w':World} {U U':Nat→Prop} (hb:∀ b,U b→w'.heap[b]?=w.heap[b]?) (hU:∀ b,U b→U' b) (b:Nat) (hu:w'.heap[b]?=w.heap[b]?):∀ (xs:List D) (o:Nat),CR w U b o xs→CR w' U' b o xs
 | [],o,h=>by simp [CR]
 | x::xs,o,h=>by
  simp only [CR] at h ⊢
  obtain ⟨⟨u,hc,hd⟩,hr⟩:=h
  exact ⟨⟨u,(World.cell?_of_block hu).trans hc,DR.mono hb hU x u hd⟩,CR.mono hb hU b hu xs (o+1) hr⟩
theorem RR.mono {w w':World} {U U':Nat→Prop} (hb:∀ b,U b→w'.heap[b]?=w.heap[b]?) (hU:∀ b,U b→U' b) (b:Nat) (hu:w'.heap[b]?=w.heap[b]?):∀ (rs:List (List D)) (o size:Nat),RR w U b o size rs→RR w' U' b o size rs
 | [],o,size,h=>by simp [RR]
 | r::rs,o,size,h=>by
  simp only [RR] at h ⊢
  exact ⟨h.1,CR.mono hb hU b hu r o h.2.1,RR.mono hb hU b hu rs (o+size) size h.2.2⟩
theorem FR.mono {w w':World} {U U':Nat→Prop} (hb:∀ b,U b→w'.heap[b]?=w.heap[b]?) (hU:∀ b,U b→U' b):∀ (xs:List D) (vs:List Value),FR w U xs vs→FR w' U' xs vs
 | [],vs,h=>by simpa [FR] using h
 | x::xs,vs,h=>by
  simp only [FR] at h ⊢
  obtain ⟨v,vs',e,h1,h2⟩:=h
  exact ⟨v,vs',e,DR.mono hb hU x v h1,FR.mono hb hU xs vs' h2⟩
theorem KR.mono {w w':World} {U U':Nat→Prop} (hb:∀ b,U b→w'.heap[b]?=w.heap[b]?) (hU:∀ b,U b→U' b):∀ (rs:List (List D)) (agg:Bool) (keys:List Value) (es:List MapEntry),KR w U agg keys es rs→KR w' U' agg keys es rs
 | [],agg,keys,es,h=>by simpa [KR] using h
 | r::rs,agg,keys,es,h=>by
  simp only [KR] at h ⊢
  obtain ⟨k,ks,e,es',cs,h1,h2,h3,h4,h5,h6,h7,h8⟩:=h
  exact ⟨k,ks,e,es',cs,h1,h2,h3,h4,h5,h6,FR.mono hb hU r cs h7,KR.mono hb hU rs agg ks es' h8⟩
end
theorem CR.at_ {w:World} {U:Nat→Prop} {b:Nat}:∀ {xs:List D} {o:Nat},CR w U b o xs→∀ {j:Nat} {x:D},xs[j]?=some x→∃ u,w.cell? ⟨b,o+j,none⟩=some u∧DR w U x u
 | [],_,_,j,x,hj=>by simp at hj
 | y::ys,o,h,0,x,hj=>by simp at hj;subst hj;simp only [CR] at h;simpa using h.1
 | y::ys,o,h,j+1,x,hj=>by
  simp only [CR] at h
  have:=CR.at_ h.2 (j:=j) (x:=x) (by simpa using hj)
  rw [show o+1+j=o+(j+1) by omega] at this
  exact this
theorem CR.mk {w:World} {U:Nat→Prop} {b:Nat}:∀ {xs:List D} {o:Nat},(∀ (j:Nat) (x:D),xs[j]?=some x→∃ u,w.cell? ⟨b,o+j,none⟩=some u∧DR w U x u)→CR w U b o xs
 | [],o,_=>by simp [CR]
 | y::ys,o,h=>by
  simp only [CR]
  refine ⟨by simpa using h 0 y rfl,CR.mk fun j x hj=>?_⟩
  have:=h (j+1) x (by simpa using hj)
  rwa [show o+(j+1)=o+1+j by omega] at this
theorem RR.at_ {w:World} {U:Nat→Prop} {b:Nat}:∀ {rs:List (List D)} {o size:Nat},RR w U b o size rs→∀ {i:Nat} {r:List D},rs[i]?=some r→r.length=size∧CR w U b (o+i*size) r
 | [],_,_,_,i,r,hi=>by simp at hi
 | y::ys,o,size,h,0,r,hi=>by simp at hi;subst hi;simp only [RR] at h;simpa using ⟨h.1,h.2.1⟩
 | y::ys,o,size,h,i+1,r,hi=>by
  simp only [RR] at h
  have:=RR.at_ h.2.2 (i:=i) (r:=r) (by simpa using hi)
  rw [show o+size+i*size=o+(i+1)*size by rw [Wc];omega] at this
  exact this
theorem RR.mk {w:World} {U:Nat→Prop} {b:Nat}:∀ {rs:List (List D)} {o size:Nat},(∀ (i:Nat) (r:List D),rs[i]?=some r→r.length=size∧CR w U b (o+i*size) r)→RR w U b o size rs
 | [],o,size,_=>by simp [RR]
 | y::ys,o,size,h=>by
  simp only [RR]
  have h0:=h 0 y rfl
  refine ⟨h0.1,by simpa using h0.2,RR.mk fun i r hi=>?_⟩
  have:=h (i+1) r (by simpa using hi)
  rw [show o+(i+1)*size=o+size+i*size by rw [Wc];omega] at this
  exact this
theorem RR.drop {w:World} {U:Nat→Prop} {b o size:Nat} {rs:List (List D)} (h:RR w U b o size rs) (k:Nat):RR w U b (o+k*size) size (rs.drop k) :=
 RR.mk fun i r hi=>by
  have:=h.at_ (i:=k+i) (r:=r) (by rwa [Wu] at hi)
  rw [show o+(k+i)*size=o+k*size+i*size by rw [Wc];omega] at this
  exact this
theorem RR.take {w:World} {U:Nat→Prop} {b o size:Nat} {rs:List (List D)} (h:RR w U b o size rs) (k:Nat):RR w U b o size (rs.take k) :=
 RR.mk fun i r hi=>by
  rw [Vs] at hi
  split at hi
  ·exact h.at_ hi
  ·cases hi
inductive L where
 | d (x:D)
 | slk (k off n c:Nat)
 | pa (k i off c:Nat)
 | ptr (k off:Nat)
 | fn (f:Nat) (caps:List L)
 | mk (k:Nat)
 | undef
instance:Inhabited L:=⟨.undef⟩
inductive V where
 | one (x:L)
 | agg (xs:List L)
 | tup (xs:List V)
instance:Inhabited V:=⟨.one .undef⟩
inductive O where
 | box (cells:List L) (elem:Nat)
 | arr (rows:List (List D)) (size:Nat) (elem:Nat) (own:Bool)
 | mp (agg:Bool) (keys:List Value) (vals:List (List D)) (own:Bool)
abbrev Pl:=Nat→Nat×Nat
abbrev Ob:=Nat→Option O
mutual
def LR (w:World) (U:Nat→Prop) (ι:Pl) (ob:Ob):L→Value→Prop
 | .d x,v=>DR w U x v
 | .slk k off n c,v=>∃ rows size elem own,ob k=some (.arr rows size elem own)∧c≤rows.length∧(c=rows.length→off+n≤c∧v=.slice (some ⟨(ι k).1,off*size,none⟩) n ((ι k).2 - off))∧∃ a c',v=.slice a n c'∧n≤c'∧c'≤maxLen
 | .pa k i off c,v=>∃ rows size elem own,ob k=some (.arr rows size elem own)∧c≤rows.length∧(c=rows.length→i < c∧v=.pointer (some ⟨(ι k).1,i*size+off,none⟩))∧∃ a,v=.pointer (some a)
 | .ptr k off,v=>∃ cells elem,ob k=some (.box cells elem)∧v=.pointer (some ⟨(ι k).1,off,none⟩)
 | .fn f caps,v=>∃ cs,v=iB f cs∧LF w U ι ob caps cs.toList
 | .mk k,v=>∃ agg keys vals own,ob k=some (.mp agg keys vals own)∧v=.map (some (ι k).1)
 | .undef,_=>True
def LF (w:World) (U:Nat→Prop) (ι:Pl) (ob:Ob):List L→List Value→Prop
 | [],vs=>vs=[]
 | x::xs,vs=>∃ v vs',vs=v::vs'∧LR w U ι ob x v∧LF w U ι ob xs vs'
end
mutual
def VR (w:World) (U:Nat→Prop) (ι:Pl) (ob:Ob):V→Value→Prop
 | .one x,v=>LR w U ι ob x v
 | .agg xs,v=>∃ cs,v=.agg cs∧LF w U ι ob xs cs.toList
 | .tup xs,v=>∃ vs,v=.tuple vs∧VF w U ι ob xs vs.toList
def VF (w:World) (U:Nat→Prop) (ι:Pl) (ob:Ob):List V→List Value→Prop
 | [],vs=>vs=[]
 | x::xs,vs=>∃ v vs',vs=v::vs'∧VR w U ι ob x v∧VF w U ι ob xs vs'
end
def OR (w:World) (U:Nat→Prop) (ι:Pl) (ob:Ob) (k:Nat):O→Prop
 | .box cells elem=>∃ cur,w.heap[(ι k).1]?=some (.cells cur elem (0,0))∧LF w U ι ob cells cur.toList∧¬ U (ι k).1
 | .arr rows size elem own=>∃ cur,w.heap[(ι k).1]?=some (.cells cur elem (0,0))∧rows.length≤(ι k).2∧(ι k).2≤maxLen∧cur.size=(ι k).2*size∧RR w U (ι k).1 0 size rows∧(if own then ¬ U (ι k).1 else U (ι k).1)
 | .mp agg keys vals own=>∃ es clock,w.heap[(ι k).1]?=some (.map es clock)∧KR w U agg keys es.toList vals∧(if own then ¬ U (ι k).1 else U (ι k).1)
def O.owned:O→Bool
 | .box ..=>true
 | .arr _ _ _ own=>own
 | .mp _ _ _ own=>own
structure Mem (w:World) (U:Nat→Prop) (ι:Pl) (ob:Ob):Prop where
 lt:∀ b,U b→b < w.heap.size
 obj:∀ k o,ob k=some o→OR w U ι ob k o
 inj:∀ k k' o o',ob k=some o→ob k'=some o'→o.owned=true→o'.owned=true→k≠k'→(ι k).1≠(ι k').1
structure Evo (w:World) (U:Nat→Prop) (ι:Pl) (ob:Ob) (w':World) (U':Nat→Prop) (ι':Pl) (ob':Ob):Prop where
 os:w'.os=w.os
 tape:w'.tape=w.tape
 output:w'.output=w.output
 size:w.heap.size≤w'.heap.size
 kept:∀ b,U b→w'.heap[b]?=w.heap[b]?
 sub:∀ b,U b→U' b
 box:∀ k cells elem,ob k=some (.box cells elem)→∃ cells',ob' k=some (.box cells' elem)∧(ι' k).1=(ι k).1
 arr:∀ k rows size elem own,ob k=some (.arr rows size elem own)→∃ rows' own',ob' k=some (.arr rows' size elem own')∧rows.length≤rows'.length∧(rows'.length=rows.length→ι' k=ι k)
 mp:∀ k agg keys vals own,ob k=some (.mp agg keys vals own)→∃ keys' vals' own',ob' k=some (.mp agg keys' vals' own')∧(ι' k).1=(ι k).1
 same:∀ b,b < w.heap.size→(∀ k o,ob k=some o→o.owned=true→(ι k).1≠b)→w'.heap[b]?=w.heap[b]?
 ownd:∀ k o,ob' k=some o→o.owned=true→w.heap.size≤(ι' k).1∨∃ k0 o0,ob k0=some o0∧o0.owned=true∧(ι' k).1=(ι k0).1
 orig:∀ b,U' b→U b∨w.heap.size≤b∨∃ k o,ob k=some o∧o.owned=true∧(ι k).1=b
theorem Evo.refl (w:World) (U:Nat→Prop) (ι:Pl) (ob:Ob):Evo w U ι ob w U ι ob :=
 ⟨rfl,rfl,rfl,Tf _,fun _ _=>rfl,fun _ h=>h,fun _ cells _ h=>⟨cells,h,rfl⟩,fun _ rows _ _ own h=>⟨rows,own,h,Tf _,fun _=>rfl⟩,fun _ _ keys vals own h=>⟨keys,vals,own,h,rfl⟩,fun _ _ _=>rfl,fun k o h ho=>.inr ⟨k,o,h,ho,rfl⟩,fun _ h=>.inl h⟩
theorem Evo.trans {w w' w'':World} {U U' U'':Nat→Prop} {ι ι' ι'':Pl} {ob ob' ob'':Ob} (h:Evo w U ι ob w' U' ι' ob') (k:Evo w' U' ι' ob' w'' U'' ι'' ob''):Evo w U ι ob w'' U'' ι'' ob'':=by
 refine ⟨k.os.trans h.os,k.tape.trans h.tape,k.output.trans h.output,Vn h.size k.size,fun b hb=>(k.kept b (h.sub b hb)).trans (h.kept b hb),fun b hb=>k.sub b (h.sub b hb),?_,?_,?_,?_,?_,?_⟩
 ·intro q cells elem hq
  obtain ⟨c',h1,h2⟩:=h.box q cells elem hq
  obtain ⟨c'',h3,h4⟩:=k.box q c' elem h1
  exact ⟨c'',h3,h4.trans h2⟩
 ·intro q rows size elem own hq
  obtain ⟨r',o',h1,h2,h3⟩:=h.arr q rows size elem own hq
  obtain ⟨r'',o'',h4,h5,h6⟩:=k.arr q r' size elem o' h1
  exact ⟨r'',o'',h4,Vn h2 h5,fun e=>(h6 (by omega)).trans (h3 (by omega))⟩
 ·intro q agg keys vals own hq
  obtain ⟨k1,v1,o1,h1,h2⟩:=h.mp q agg keys vals own hq
  obtain ⟨k2,v2,o2,h3,h4⟩:=k.mp q agg k1 v1 o1 h1
  exact ⟨k2,v2,o2,h3,h4.trans h2⟩
 ·intro b hb hno
  refine (k.same b (Wh hb h.size) fun q o hq ho heq=>?_).trans (h.same b hb hno)
  rcases h.ownd q o hq ho with h1 | ⟨k0,o0,h1,h2,h3⟩
  ·omega
  ·exact hno k0 o0 h1 h2 (h3.symm.trans heq)
 ·intro q o hq ho
  rcases k.ownd q o hq ho with h1 | ⟨k0,o0,h1,h2,h3⟩
  ·exact .inl (Vn h.size h1)
  ·rcases h.ownd k0 o0 h1 h2 with h4 | ⟨k1,o1,h4,h5,h6⟩
   ·exact .inl (by omega)
   ·exact .inr ⟨k1,o1,h4,h5,h3.trans h6⟩
 ·intro b hb
  rcases k.orig b hb with h1 | h1 | ⟨q,o,h1,h2,h3⟩
  ·exact h.orig b h1
  ·exact .inr (.inl (Vn h.size h1))
  ·rcases h.ownd q o h1 h2 with h4 | ⟨k1,o1,h4,h5,h6⟩
   ·exact .inr (.inl (by omega))
   ·exact .inr (.inr ⟨k1,o1,h4,h5,h6.symm.trans h3⟩)
mutual
theorem LR.evo {w w':World} {U U':Nat→Prop} {ι ι':Pl} {ob ob':Ob} (e:Evo w U ι ob w' U' ι' ob'):∀ (x:L) (v:Value),LR w U ι ob x v→LR w' U' ι' ob' x v
 | .d x,v,h=>by simp only [LR] at h ⊢;exact DR.mono e.kept e.sub x v h
 | .slk k off n c,v,h=>by
  simp only [LR] at h ⊢
  obtain ⟨rows,size,elem,own,h1,h2,h3,h4⟩:=h
  obtain ⟨r',o',h5,h6,h7⟩:=e.arr k rows size elem own h1
  exact ⟨r',size,elem,o',h5,by omega,fun hc=>by rw [h7 (by omega)];exact h3 (by omega),h4⟩
 | .pa k i off c,v,h=>by
  simp only [LR] at h ⊢
  obtain ⟨rows,size,elem,own,h1,h2,h3,h4⟩:=h
  obtain ⟨r',o',h5,h6,h7⟩:=e.arr k rows size elem own h1
  exact ⟨r',size,elem,o',h5,by omega,fun hc=>by rw [h7 (by omega)];exact h3 (by omega),h4⟩
 | .ptr k off,v,h=>by
  simp only [LR] at h ⊢
  obtain ⟨cells,elem,h1,h2⟩:=h
  obtain ⟨c',h3,h4⟩:=e.box k cells elem h1
  exact ⟨c',elem,h3,by rw [h4];exact h2⟩
 | .fn f caps,v,h=>by
  simp only [LR] at h ⊢
  obtain ⟨cs,e1,hr⟩:=h
  exact ⟨cs,e1,LF.evo e caps cs.toList hr⟩
 | .mk k,v,h=>by
  simp only [LR] at h ⊢
  obtain ⟨agg,keys,vals,own,h1,h2⟩:=h
  obtain ⟨k1,v1,o1,h3,h4⟩:=e.mp k agg keys vals own h1
  exact ⟨agg,k1,v1,o1,h3,by rw [h4];exact h2⟩
 | .undef,v,h=>by simp [LR]
theorem LF.evo {w w':World} {U U':Nat→Prop} {ι ι':Pl} {ob ob':Ob} (e:Evo w U ι ob w' U' ι' ob'):∀ (xs:List L) (vs:List Value),LF w U ι ob xs vs→LF w' U' ι' ob' xs vs
 | [],vs,h=>by simpa [LF] using h
 | x::xs,vs,h=>by
  simp only [LF] at h ⊢
  obtain ⟨v,vs',e1,h1,h2⟩:=h
  exact ⟨v,vs',e1,LR.evo e x v h1,LF.evo e xs vs' h2⟩
end
mutual
theorem VR.evo {w w':World} {U U':Nat→Prop} {ι ι':Pl} {ob ob':Ob} (e:Evo w U ι ob w' U' ι' ob'):∀ (x:V) (v:Value),VR w U ι ob x v→VR w' U' ι' ob' x v
 | .one x,v,h=>by simp only [VR] at h ⊢;exact LR.evo e x v h
 | .agg xs,v,h=>by
  simp only [VR] at h ⊢
  obtain ⟨cs,e1,hr⟩:=h
  exact ⟨cs,e1,LF.evo e xs cs.toList hr⟩
 | .tup xs,v,h=>by
  simp only [VR] at h ⊢
  obtain ⟨cs,e1,hr⟩:=h
  exact ⟨cs,e1,VF.evo e xs cs.toList hr⟩
theorem VF.evo {w w':World} {U U':Nat→Prop} {ι ι':Pl} {ob ob':Ob} (e:Evo w U ι ob w' U' ι' ob'):∀ (xs:List V) (vs:List Value),VF w U ι ob xs vs→VF w' U' ι' ob' xs vs
 | [],vs,h=>by simpa [VF] using h
 | x::xs,vs,h=>by
  simp only [VF] at h ⊢
  obtain ⟨v,vs',e1,h1,h2⟩:=h
  exact ⟨v,vs',e1,VR.evo e x v h1,VF.evo e xs vs' h2⟩
end
end
section
inductive Q (α:Type) where
 | ret (a:α)
 | get (k:Nat) (f:Option O→Q α)
 | fail
def Q.bind {α β:Type}:Q α→(α→Q β)→Q β
 | .ret a,f=>f a
 | .get k g,f=>.get k fun o=>(g o).bind f
 | .fail,_=>.fail
def Q.run {α:Type} (ob:Ob):Q α→Option α
 | .ret a=>some a
 | .get k f=>(f (ob k)).run ob
 | .fail=>none
def Q.reads {α:Type} (ob:Ob):Q α→List Nat
 | .ret _=>[]
 | .get k f=>k::(f (ob k)).reads ob
 | .fail=>[]
def Q.mapM {α β:Type} (f:α→Q β):List α→Q (List β)
 | []=>.ret []
 | x::xs=>(f x).bind fun y=>(Q.mapM f xs).bind fun ys=>.ret (y::ys)
def Q.opt {α:Type}:Option α→Q α
 | some a=>.ret a
 | none=>.fail
def Q.guard {α:Type} (b:Bool) (q:Q α):Q α:=match b with | true=>q | false=>.fail
theorem Q.run_bind {α β:Type} (ob:Ob) (q:Q α) (f:α→Q β):(q.bind f).run ob=(q.run ob).bind fun a=>(f a).run ob:=by
 induction q with
 | ret a=>rfl
 | get k g ih=>simp only [Q.bind,Q.run];exact ih _
 | fail=>rfl
theorem Q.run_guard {α:Type} (ob:Ob) (b:Bool) (q:Q α):(Q.guard b q).run ob=if b=true then q.run ob else none:=by cases b<;>simp [Q.guard,Q.run]
theorem Q.run_opt {α:Type} (ob:Ob) (o:Option α):(Q.opt o).run ob=o:=by cases o<;>rfl
theorem Q.run_agree {α:Type} {ob ob':Ob}:∀ (q:Q α),(∀ k∈q.reads ob,ob' k=ob k)→q.run ob'=q.run ob∧q.reads ob'=q.reads ob
 | .ret a,_=>⟨rfl,rfl⟩
 | .get k f,h=>by
  have hk:ob' k=ob k:=h k (by simp [Q.reads])
  have:=Q.run_agree (f (ob k)) (fun j hj=>h j (by simp [Q.reads,hj]))
  simp only [Q.run,Q.reads,hk]
  exact ⟨this.1,by rw [this.2]⟩
 | .fail,_=>⟨rfl,rfl⟩
def bE (P:Program) (t:Nat):Option Nat:=(P.info? t).map (·.size)
def ia (P:Program) (t:Nat):Option Nat:=(P.info? t).map (·.bytes)
def cE (P:Program) (t:Nat):Option (List Value):=(P.info? t).bind fun i=>i.zero.bind fun z=>if z.cells.toList.all plain then some z.cells.toList else none
def iH:TypeDesc→Bool | .struct _ | .array _ _=>true | _=>false
def dg (P:Program) (t:Nat):Option Bool:=(P.underlying t).map iH
def cp (P:Program) (t:Nat):Option Nat:=match P.underlying t with | some (.slice e)=>some e | _=>none
def ul (P:Program) (t:Nat):Option (Nat×Nat):=match P.underlying t with | some (.array n e)=>some (n,e) | _=>none
def jD (P:Program) (t f:Nat):Option (Nat×Nat×Bool):=match P.underlying t with
 | some (.struct fs)=>match fs[f]? with
  | some fd=>match bE P fd.type,dg P fd.type with
   | some s,some g=>if s=0 then none else some (fd.offset,s,g)
   | _,_=>none
  | none=>none
 | _=>none
def rW (P:Program) (t:Nat):Option IntKind:=match P.underlying t with | some (.int k)=>some k | _=>none
def L.isDef:L→Bool | .undef=>false | _=>true
def V.cells:V→Option (List L)
 | .one x=>if x.isDef then some [x] else none
 | .agg xs=>if xs.all L.isDef then some xs else none
 | .tup _=>none
def gr (vs:List Value):List L:=vs.map fun v=>.d (.lit v)
def Fu (agg:Bool) (xs:List L):Option V:=match agg,xs with
 | true,xs=>some (.agg xs)
 | false,[x]=>some (.one x)
 | false,_=>none
def cP:Nat→L→Q D
 | _,.d x=>.ret x
 | _,.slk k off n c=>.get k fun
  | some (.arr rows size _ _)=>Q.guard (decide (c=rows.length)) (.ret (.sl size ((rows.drop off).take n)))
  | _=>.fail
 | _,.pa k i off c=>.get k fun
  | some (.arr rows _ _ _)=>Q.guard (decide (c=rows.length)) ((Q.opt rows[i]?).bind fun r=>.ret (.dp r off))
  | _=>.fail
 | n+1,.ptr k off=>.get k fun
  | some (.box cells _)=>(Q.mapM (cP n) cells).bind fun ds=>.ret (.dp ds off)
  | _=>.fail
 | n+1,.fn f caps=>(Q.mapM (cP n) caps).bind fun ds=>.ret (.fn f ds)
 | _,.mk k=>.get k fun
  | some (.mp agg keys vals _)=>.ret (.mp agg keys vals)
  | _=>.fail
 | _,_=>.fail
def lC:L→Q (D×List (Nat×O))
 | .d x=>.ret (x,[])
 | .slk k off n c=>.get k fun
  | some (.arr rows size elem _)=>Q.guard (decide (c=rows.length)) (.ret (.sl size ((rows.drop off).take n),[(k,.arr rows size elem false)]))
  | _=>.fail
 | .mk k=>.get k fun
  | some (.mp agg keys vals _)=>.ret (.mp agg keys vals,[(k,.mp agg keys vals false)])
  | _=>.fail
 | _=>.fail
abbrev cD:=V×List (Nat×O)
def fresh (dst:Option Nat) (o:O) (v:Nat→V):Q cD:=match dst with
 | some k=>.get k fun
  | none=>.ret (v k,[(k,o)])
  | some _=>.fail
 | none=>.fail
def bf (o:Option V):Q cD:=(Q.opt o).bind fun v=>.ret (v,[])
def Fc (op:BinOp) (k:IntKind) (a:Int) (k':IntKind) (b:Int):Option Value:=match op with
 | .shl=>if b < 0 then none else some (.int k (k.wrap (a*2 ^ (min b.toNat k.bits))))
 | .shr=>if b < 0 then none else some (.int k (a.fdiv (2 ^ (min b.toNat k.bits))))
 | _=>if k=k' then match op with
   | .add=>some (.int k (k.wrap (a+b)))
   | .sub=>some (.int k (k.wrap (a - b)))
   | .mul=>some (.int k (k.wrap (a*b)))
   | .quo=>if b=0 then none else some (.int k (k.wrap (a.tdiv b)))
   | .rem=>if b=0 then none else some (.int k (a.tmod b))
   | .eql=>some (.bool (a==b))
   | .neq=>some (.bool (a != b))
   | .lss=>some (.bool (a < b))
   | .leq=>some (.bool (a≤b))
   | .gtr=>some (.bool (a > b))
   | .geq=>some (.bool (a≥b))
   | .and=>some (.int k (k.wrap (BitVec.ofInt k.bits a &&& BitVec.ofInt k.bits b).toNat))
   | .or=>some (.int k (k.wrap (BitVec.ofInt k.bits a ||| BitVec.ofInt k.bits b).toNat))
   | .xor=>some (.int k (k.wrap (BitVec.ofInt k.bits a ^^^ BitVec.ofInt k.bits b).toNat))
   | .andNot=>some (.int k (k.wrap (BitVec.ofInt k.bits a &&& ~~~(BitVec.ofInt k.bits b)).toNat))
   | _=>none
  else none
def N4 (op:BinOp) (a b:ByteArray):Option Value:=match op with
 | .add=>if ((a.size+b.size:Nat):Int) > IntKind.i64.max then none else some (.string (a++b))
 | .eql=>some (.bool (a.toList==b.toList))
 | .neq=>some (.bool !(a.toList==b.toList))
 | .lss=>some (.bool (Op.bytesLess a.toList b.toList))
 | .leq=>some (.bool (Op.bytesLess a.toList b.toList||a.toList==b.toList))
 | .gtr=>some (.bool !(Op.bytesLess a.toList b.toList||a.toList==b.toList))
 | .geq=>some (.bool !(Op.bytesLess a.toList b.toList))
 | _=>none
def V.lit?:V→Option Value
 | .one (.d (.lit v))=>some v
 | _=>none
def cO (v:Value):V:=.one (.d (.lit v))
def vInt?:V→Option (IntKind×Int)
 | .one (.d (.lit (.int k n)))=>some (k,n)
 | _=>none
def vBool?:V→Option Bool
 | .one (.d (.lit (.bool b)))=>some b
 | _=>none
end
section
def ot:Value→V
 | .agg cs=>if cs.toList.all plain then .agg (gr cs.toList) else .one .undef
 | v=>if plain v then .one (.d (.lit v)) else .one .undef
def ev (env:Nat→V):Operand→V
 | .tmp t=>env t
 | .const v=>ot v
 | .global _=>.one .undef
 | .func f=>if f < 2000000 then .one (.fn f []) else .one .undef
def cx (ob:Ob) (k:Nat) (o:O):Ob:=fun j=>if j=k then some o else ob j
def bk (ob:Ob):List (Nat×O)→Ob
 | []=>ob
 | (k,o)::r=>bk (cx ob k o) r
def j4 (place:Nat→Option (Nat×Nat)) (cells:List L):List (Nat×V)→Option (List L)
 | []=>some cells
 | (i,v)::rest=>match place i,v.cells with
  | some (off,size),some cs=>if cs.length=size∧off+size≤cells.length then j4 place (cells.take off++cs++cells.drop (off+size)) rest else none
  | _,_=>none
def kf (P:Program) (t:Nat) (i:Nat):Option (Nat×Nat):=match ul P t with
 | some (_,e)=>(bE P e).map fun s=>(i*s,s)
 | none=>(jD P t i).map fun (o,s,_)=>(o,s)
def cm (agg:Bool) (s off:Nat) (cells:List L):Option V :=
 if agg then (if off+s≤cells.length then some (.agg ((cells.drop off).take s)) else none)
 else cells[off]?.map .one
def Ef (P:Program) (t:Nat):Bool:=match P.underlying t with
 | some (.struct fs)=>fs.toList.all fun f=>(bE P f.type).isSome
 | some (.array _ e)=>(bE P e).isSome
 | _=>false
def iZ (agg:Bool) (s:Nat):V→Q cD
 | .one (.ptr k off)=>.get k fun
  | some (.box cells _)=>bf (cm agg s off cells)
  | _=>.fail
 | .one (.pa k i off c)=>.get k fun
  | some (.arr rows _ _ _)=>Q.guard (decide (c=rows.length)) ((Q.opt rows[i]?).bind fun r=>bf (cm agg s off (r.map .d)))
  | _=>.fail
 | .one (.d (.dp r off))=>bf (cm agg s off (r.map .d))
 | _=>.fail
def ez:List L→Q (List D×List (Nat×O))
 | []=>.ret ([],[])
 | x::xs=>(lC x).bind fun (d,u)=>(ez xs).bind fun (ds,us)=>.ret (d::ds,u++us)
def jV:V→List L→Q cD
 | .one (.ptr k off),cs=>.get k fun
  | some (.box cells elem)=>Q.guard (decide (off+cs.length≤cells.length)) (.ret (.one .undef,[(k,.box (cells.take off++cs++cells.drop (off+cs.length)) elem)]))
  | _=>.fail
 | .one (.pa k i off c),cs=>.get k fun
  | some (.arr rows size elem own)=>Q.guard (own&&decide (c=rows.length)) ((Q.opt rows[i]?).bind fun r =>
    (ez cs).bind fun (ds,us)=>Q.guard (decide (off+ds.length≤r.length)&&us.isEmpty) (.ret (.one .undef,[(k,.arr (rows.set i (r.take off++ds++r.drop (off+ds.length))) size elem own)])))
  | _=>.fail
 | _,_=>.fail
def fh (n:Nat):V→Option V
 | .one (.ptr k off)=>some (.one (.ptr k (off+n)))
 | .one (.pa k i off c)=>some (.one (.pa k i (off+n) c))
 | .one (.d (.dp r off))=>some (.one (.d (.dp r (off+n))))
 | _=>none
def ep (arr:Option (Nat×Nat)) (es:Nat) (x:V) (i:Int):Q cD:=match arr with
 | some (n,_)=>bf (if 0≤i∧i < n then fh (i.toNat*es) x else none)
 | none=>match x with
  | .one (.slk k off n c)=>.get k fun
   | some (.arr rows size _ _)=>Q.guard (decide (c=rows.length∧size=es)) (bf (if 0≤i∧i < n then some (.one (.pa k (off+i.toNat) 0 c)) else none))
   | _=>.fail
  | .one (.d (.sl size rows))=>Q.guard (decide (size=es)) (bf (if 0≤i then rows[i.toNat]?.map fun r=>.one (.d (.dp r 0)) else none))
  | _=>.fail
def kJ (es:Nat) (x:V) (l h:Option Int):Q cD:=match x with
 | .one (.slk k off n c)=>.get k fun
  | some (.arr rows size _ _)=>Q.guard (decide (c=rows.length∧size=es)) (bf (
    if 0≤l.getD 0∧l.getD 0≤h.getD n∧h.getD n≤n then
     (if l.getD 0=0∨l.getD 0 < h.getD n then some (.one (.slk k (off+(l.getD 0).toNat) (h.getD n - l.getD 0).toNat c)) else some (.one (.d (.sl es []))))
    else none))
  | _=>.fail
 | .one (.d (.sl size rows))=>Q.guard (decide (size=es)) (bf (
   if 0≤l.getD 0∧l.getD 0≤h.getD rows.length∧h.getD rows.length≤rows.length then some (.one (.d (.sl size ((rows.drop (l.getD 0).toNat).take (h.getD rows.length - l.getD 0).toNat)))) else none))
 | .one (.d (.lit (.slice none 0 0)))=>bf (if l.getD 0=0∧h.getD 0=0 then some x else none)
 | _=>.fail
def Cn:V→Option Nat
 | .one (.slk _ _ n _)=>some n
 | .one (.d (.sl _ rows))=>some rows.length
 | .one (.d (.lit (.slice none 0 0)))=>some 0
 | _=>none
def eE:V→Bool | .agg _=>true | _=>false
def Ld (P:Program) (t:Nat):Bool:=match P.underlying t with | some .string=>true | _=>false
def yf:V→Option Nat
 | .one (.d (.lit (.string s)))=>some s.size
 | _=>none
def pd (ρ:Operand→V):Option Operand→Option (Option Int)
 | none=>some none
 | some x=>(vInt? (ρ x)).map fun p=>some p.2
def mm2 (mx:Bool) (a b:V):Option V:=match vInt? a,vInt? b with
 | some p,some q=>if p.1=q.1 then some (cO (.int p.1 (if mx then max p.2 q.2 else min p.2 q.2))) else none
 | _,_=>none
def LZ (mx:Bool):V→List V→Option V
 | a,[]=>some a
 | a,y::r=>(mm2 mx a y).bind fun z=>LZ mx z r
def lV (mx:Bool):List V→Option V
 | []=>none
 | x::r=>LZ mx x r
def cY:List V→Option (List L)
 | []=>some []
 | .one x::r=>if x.isDef then (cY r).map (x::·) else none
 | _::_=>none
def dl (ρ:Operand→V) (size:Nat) (rows:List (List D)):List (Nat×Operand)→Q (List (List D)×List (Nat×O))
 | []=>.ret (rows,[])
 | (i,x)::rest=>(Q.opt (ρ x).cells).bind fun cs=>Q.guard (decide (cs.length=size∧i < rows.length)) ((ez cs).bind fun (ds,us) =>
   (dl ρ size (rows.set i ds) rest).bind fun (rows',us')=>.ret (rows',us++us'))
def dL (es:Nat):V→Q (List (List D))
 | .one (.d (.lit (.slice none 0 0)))=>.ret []
 | .one (.d (.sl size rows))=>Q.guard (decide (size=es)) (.ret rows)
 | .one (.slk k off n c)=>.get k fun
  | some (.arr rows size _ _)=>Q.guard (decide (c=rows.length∧size=es)) (.ret ((rows.drop off).take n))
  | _=>.fail
 | _=>.fail
def ee (dst:Option Nat) (elem size bytes:Nat) (s:V) (new:List (List D)):Q cD:=match s with
 | .one (.d (.lit (.slice none 0 0))) =>
  if new=[] then .ret (s,[]) else Q.guard (decide (new.length*bytes≤140737488355328∧new.length≤maxLen)) (fresh dst (.arr new size elem true) fun k=>.one (.slk k 0 new.length new.length))
 | .one (.slk k 0 n c)=>.get k fun
  | some (.arr rows size' elem' own)=>Q.guard (own&&decide (c=rows.length∧n=rows.length∧size'=size∧elem'=elem∧(n+new.length)*bytes≤140737488355328∧n+new.length≤maxLen))
    (.ret (.one (.slk k 0 (n+new.length) (n+new.length)),[(k,.arr (rows++new) size elem true)]))
  | _=>.fail
 | _=>.fail
def te (P:Program) (t:Nat) (g:Bool):Bool:=match (P.info? t).bind (·.zero) with
 | some (.agg _)=>g
 | some _=>!g
 | none=>false
def yJ:TypeDesc→Option Nat
 | .int _=>some 0
 | .string=>some 1
 | .bool=>some 2
 | _=>none
def rV (P:Program) (t:Nat):Option Nat:=match P.underlying t with
 | some (.map k _)=>(P.underlying k).bind yJ
 | _=>none
def jv (P:Program) (t:Nat):Option Nat:=match P.underlying t with
 | some (.map _ e)=>some e
 | _=>none
def Fv:Nat→Value→Value→Option Bool
 | 0,.int k a,.int k' b=>if k=k' then some (a==b) else none
 | 1,.string a,.string b=>some (a==b)
 | 2,.bool a,.bool b=>some (a==b)
 | _,_,_=>none
def dY (kd:Nat) (k:Value):List Value→Nat→Option (Option Nat)
 | [],_=>some none
 | x::xs,i=>match Fv kd k x with
  | some true=>some (some i)
  | some false=>dY kd k xs (i+1)
  | none=>none
def o5 (agg:Bool) (zs:List Value) (vals:List (List D)):Option Nat→Option (V×Bool)
 | some j=>vals[j]?.bind fun r=>(Fu agg (r.map .d)).map fun v=>(v,true)
 | none=>(Fu agg (gr zs)).map fun v=>(v,false)
def kw (kd:Nat) (agg ok:Bool) (zs:List Value) (x:V) (k:Value):Q cD :=
 (match x with
  | .one (.d (.mp agg' keys vals))=>Q.guard (agg==agg') (Q.opt ((dY kd k keys 0).bind (o5 agg zs vals)))
  | .one (.mk key)=>Q.get key fun
   | some (.mp agg' keys vals _)=>Q.guard (agg==agg') (Q.opt ((dY kd k keys 0).bind (o5 agg zs vals)))
   | _=>.fail
  | .one (.d (.lit (.map none)))=>Q.opt (o5 agg zs [] none)
  | _=>.fail).bind fun p=>.ret (if ok then .tup [p.1,cO (.bool p.2)] else p.1,[])
def j0:Nat→Value→Bool
 | 0,.int _ _=>true
 | 1,.string _=>true
 | 2,.bool _=>true
 | _,_=>false
def va (kd:Nat) (agg:Bool) (x:V) (k:Value) (v:V):Q cD:=match x with
 | .one (.mk key)=>.get key fun
  | some (.mp agg' keys vals own)=>Q.guard (own&&agg==agg'&&eE v==agg&&j0 kd k) ((Q.opt v.cells).bind fun cs=>(ez cs).bind fun (ds,us)=>Q.guard us.isEmpty ((Q.opt (dY kd k keys 0)).bind fun
    | some j=>.ret (.one .undef,[(key,.mp agg keys (vals.set j ds) true)])
    | none=>.ret (.one .undef,[(key,.mp agg (keys++[k]) (vals++[ds]) true)])))
  | _=>.fail
 | _=>.fail
def Hc (P:Program) (t:Nat):Bool:=match P.underlying t with | some (.interface _)=>false | some _=>true | none=>false
def yB (P:Program) (t:Nat) (name:String):Option Nat:=match P.info? t with
 | some i=>match i.methods.find? (fun m=>m.name==name) with
  | some m=>match m.path.toList,m.func,P.underlying t with
   | [],some (_,false),some (.pointer _)=>none
   | [],some (f,false),some _=>some f
   | _,_,_=>none
  | none=>none
 | none=>none
def qu (P:Program) (name:String):V→Option (Nat×V)
 | .one (.d (.ifc t true row))=>(yB P t name).map fun f=>(f,.agg (row.map .d))
 | .one (.d (.ifc t false [x]))=>(yB P t name).map fun f=>(f,.one (.d x))
 | _=>none
def B8 (P:Program) (t:Nat):Bool:=match P.underlying t with | some .bool=>true | _=>false
def wu (rec:Nat→Option (List Bool)) (P:Program):Nat→List Field→Option (List Bool)
 | _,[]=>some []
 | off,f::fs=>match rec f.type with
  | some ks=>if f.offset=off∧f.name ≠ "_" ∧ bE P f.type=some ks.length∧0 < ks.length then (wu rec P (off+ks.length) fs).map (ks++·) else none
  | none=>none
def kG (P:Program):Nat→Nat→Option (List Bool)
 | 0,_=>none
 | d+1,t=>match P.underlying t with
  | some (.int _)=>some [true]
  | some .bool=>some [false]
  | some (.struct fs)=>if P.stoodInHeld t=true∨P.eqGuardType P.depth t=true then none else wu (kG P d) P 0 fs.toList
  | _=>none
def lG:Bool→Value→Value→Option Bool
 | true,.int k a,.int k' b=>if k=k' then some (a==b) else none
 | false,.bool a,.bool b=>some (a==b)
 | _,_,_=>none
def cr:List Bool→List L→List L→Option Bool
 | [],[],[]=>some true
 | k::ks,.d (.lit u)::xs,.d (.lit v)::ys=>match lG k u v,cr ks xs ys with
  | some b,some c=>some (b&&c)
  | _,_=>none
 | _,_,_=>none
def Cj (op:BinOp):V→V→Option V
 | .one (.d (.sl _ _)),.one (.d (.lit (.slice none 0 0)))=>match op with
  | .eql=>some (cO (.bool false))
  | .neq=>some (cO (.bool true))
  | _=>none
 | .one (.d (.lit (.slice none 0 0))),.one (.d (.lit (.slice none 0 0)))=>match op with
  | .eql=>some (cO (.bool true))
  | .neq=>some (cO (.bool false))
  | _=>none
 | _,_=>none
def kN (P:Program) (op:BinOp) (t:Nat) (x y:V):Option V:=match x,y with
 | .one (.d (.lit (.int k a))),.one (.d (.lit (.int k' b)))=>(Fc op k a k' b).map cO
 | .one (.d (.lit (.bool a))),.one (.d (.lit (.bool b)))=>if B8 P t=true then (match op with
   | .eql=>some (cO (.bool (a==b)))
   | .neq=>some (cO (.bool (a != b)))
   | _=>none) else none
 | .one (.d (.lit (.string a))),.one (.d (.lit (.string b)))=>(N4 op a b).map cO
 | .agg xs,.agg ys=>match kG P 8 t with
  | some ks=>if dg P t=some true then (match op,cr ks xs ys with
   | .eql,some b=>some (cO (.bool b))
   | .neq,some b=>some (cO (.bool !b))
   | _,_=>none) else none
  | none=>none
 | x,y=>if (cp P t).isSome=true then Cj op x y else none
def dq (zs:List Value):V→Q cD
 | .one (.d (.lit (.slice none 0 0)))=>.ret (.tup [],[])
 | .one (.slk key off n c)=>.get key fun
  | some (.arr rows size elem own)=>Q.guard (own&&decide (c=rows.length∧size=zs.length∧off+n=rows.length)) (.ret (.tup [],[(key,.arr (rows.take off++List.replicate n (zs.map .lit)) size elem true)]))
  | _=>.fail
 | _=>.fail
def ma (dst:Option Nat) (rows:List (List D)) (s e len:Nat):Q cD:=match dst with
 | some _=>fresh dst (.arr rows s e true) fun k=>.one (.slk k 0 len len)
 | none=>.ret (.one (.d (.sl s rows)),[])
def eR (P:Program) (dst:Option Nat) (ρ:Operand→V):Op→Q cD
 | .move x | .assign x=>.ret (ρ x,[])
 | .pick c a b=>bf ((vBool? (ρ c)).map fun t=>if t=true then ρ a else ρ b)
 | .box elem x=>(Q.opt (ρ x).cells).bind fun cs=>match dst with
  | some _=>fresh dst (.box cs elem) fun k=>.one (.ptr k 0)
  | none=>(ez cs).bind fun (ds,us)=>.ret (.one (.d (.dp ds 0)),us)
 | .alloc elem=>(Q.opt (cE P elem)).bind fun zs=>fresh dst (.box (gr zs) elem) fun k=>.one (.ptr k 0)
 | .build t parts=>(Q.opt (cE P t)).bind fun zs=>Q.guard (dg P t==some true&&Ef P t) (bf ((j4 (kf P t) (gr zs) (parts.toList.map fun p=>(p.1,ρ p.2))).map .agg))
 | .buildSlice t len parts=>(Q.opt (cp P t)).bind fun e=>(Q.opt (bE P e)).bind fun s=>(Q.opt (cE P e)).bind fun zs =>
   Q.guard (decide (0 < s∧zs.length=s∧len*s≤16777216)) ((dl ρ s (List.replicate len (zs.map .lit)) parts.toList).bind fun (rows,us) =>
    (ma dst rows s e len).bind fun (v,u)=>.ret (v,us++u))
 | .load t a=>(Q.opt (dg P t)).bind fun g=>(Q.opt (bE P t)).bind fun s=>iZ g s (ρ a)
 | .store t a x=>(Q.opt (ρ x).cells).bind fun cs=>Q.guard (bE P t==some cs.length) (jV (ρ a) cs)
 | .nilCheck x=>match ρ x with
  | .one (.ptr ..) | .one (.pa ..) | .one (.d (.dp ..))=>.ret (ρ x,[])
  | _=>.fail
 | .binOp op t x y _=>bf (kN P op t (ρ x) (ρ y))
 | .unOp op _ x=>bf (match op,(ρ x).lit? with
  | .not,some (.bool b)=>some (cO (.bool !b))
  | .neg,some (.int k n)=>some (cO (.int k (k.wrap (0 - n))))
  | _,_=>none)
 | .makeFunc fn first captured=>match fn,cY (first.toList.map ρ),cY (captured.toList.map ρ) with
  | .func f,some [],some caps=>if f < 2000000 then .ret (.one (.fn f caps),[]) else .fail
  | .func f,some (c::cs),some []=>.ret (.one (.fn (f+2000000) (c::cs)),[])
  | _,_,_=>.fail
 | .makeInterface t x=>Q.guard (Hc P t&&dg P t==some (eE (ρ x))) ((Q.opt (ρ x).cells).bind fun cs=>(ez cs).bind fun (ds,us)=>match us with
   | []=>.ret (.one (.d (.ifc t (eE (ρ x)) ds)),[])
   | _=>.fail)
 | .makeSlice t l c=>(Q.opt (cp P t)).bind fun e=>(Q.opt (bE P e)).bind fun s=>(Q.opt (cE P e)).bind fun zs=>(Q.opt (ia P e)).bind fun bs =>
   (Q.opt (vInt? (ρ l))).bind fun n=>(Q.opt (vInt? (ρ c))).bind fun m=>Q.guard (decide (0 < s∧zs.length=s∧n=m∧0≤n.2∧bs*n.2≤140737488355328∧n.2≤9223372036854775807))
    (fresh dst (.arr (List.replicate n.2.toNat (zs.map .lit)) s e true) fun k=>.one (.slk k 0 n.2.toNat n.2.toNat))
 | .slice t x lo hi mx=>Q.guard ((cp P t).isSome&&mx.isNone) ((Q.opt (pd ρ lo)).bind fun l=>(Q.opt (pd ρ hi)).bind fun h=>(Q.opt (cp P t)).bind fun e=>(Q.opt (bE P e)).bind fun s=>kJ s (ρ x) l h)
 | .fieldAddr s x f=>(Q.opt (jD P s f)).bind fun p=>bf (fh p.1 (ρ x))
 | .field s x f=>(Q.opt (jD P s f)).bind fun p=>match ρ x with
  | .agg cs=>bf (cm p.2.2 p.2.1 p.1 cs)
  | _=>.fail
 | .indexAddr t x ix=>(Q.opt (vInt? (ρ ix))).bind fun i=>match ul P t,cp P t with
  | some (n,e),_=>(Q.opt (bE P e)).bind fun s=>ep (some (n,e)) s (ρ x) i.2
  | none,some e=>(Q.opt (bE P e)).bind fun s=>ep none s (ρ x) i.2
  | none,none=>.fail
 | .index t x ix=>(Q.opt (vInt? (ρ ix))).bind fun i=>(Q.opt (ul P t)).bind fun p=>(Q.opt (bE P p.2)).bind fun s=>(Q.opt (dg P p.2)).bind fun g=>match ρ x with
  | .agg cs=>Q.guard (decide (0≤i.2∧i.2 < p.1)) (bf (cm g s (i.2.toNat*s) cs))
  | _=>.fail
 | .convert src dst x=>(Q.opt (rW P src)).bind fun _=>(Q.opt (rW P dst)).bind fun k=>(Q.opt (vInt? (ρ x))).bind fun n=>.ret (cO (.int k (k.wrap n.2)),[])
 | .makeMap t none=>Q.guard ((rV P t).isSome) ((Q.opt ((jv P t).bind (dg P))).bind fun g=>fresh dst (.mp g [] [] true) fun k=>.one (.mk k))
 | .lookup t x ix ok=>(Q.opt (rV P t)).bind fun kd=>(Q.opt (jv P t)).bind fun e=>(Q.opt (dg P e)).bind fun g=>(Q.opt (cE P e)).bind fun zs=>(Q.opt (ρ ix).lit?).bind fun k=>Q.guard (j0 kd k&&te P e g) (kw kd g ok zs (ρ x) k)
 | .mapUpdate t m k v=>(Q.opt (rV P t)).bind fun kd=>(Q.opt (jv P t)).bind fun e=>(Q.opt (dg P e)).bind fun g=>(Q.opt (ρ k).lit?).bind fun kv=>va kd g (ρ m) kv (ρ v)
 | .extract t i=>match ρ t with
  | .tup vs=>bf vs[i]?
  | _=>.fail
 | .call c=>match c.callee with
  | .builtin .len=>match c.args.toList with
   | [x]=>match c.argTypes.toList with
    | [t]=>match cp P t with
     | some _=>bf ((Cn (ρ x)).map fun (n:Nat)=>cO (.int .i64 (n:Int)))
     | none=>Q.guard (Ld P t) (bf ((yf (ρ x)).map fun (n:Nat)=>cO (.int .i64 (n:Int))))
    | _=>.fail
   | _=>.fail
  | .builtin .cap=>match c.args.toList,c.argTypes.toList with
   | [x],[t]=>match ρ x with
    | .one (.d (.lit (.slice none 0 0)))=>Q.guard (cp P t).isSome (.ret (cO (.int .i64 0),[]))
    | _=>.fail
   | _,_=>.fail
  | .builtin .clear=>match c.args.toList,c.argTypes.toList with
   | [x],[t]=>(Q.opt (cp P t)).bind fun e=>(Q.opt (cE P e)).bind fun zs=>Q.guard (decide (0 < zs.length)) (dq zs (ρ x))
   | _,_=>.fail
  | .builtin .min=>bf (lV false (c.args.toList.map ρ))
  | .builtin .max=>bf (lV true (c.args.toList.map ρ))
  | .builtin .append=>match c.args.toList,c.argTypes.toList with
   | [s,x],[t,t']=>match rW P t' with
    | some _=>match ρ s with
     | .one (.d (.lit (.slice none 0 0)))=>(Q.opt (cp P t)).bind fun e=>(Q.opt (bE P e)).bind fun sz=>(Q.opt (ia P e)).bind fun bs=>(Q.opt (cE P e)).bind fun zs=>(Q.opt (vInt? (ρ x))).bind fun n =>
      Q.guard (decide (0 < sz∧zs.length=sz∧0 < n.2∧bs*n.2≤140737488355328∧n.2≤9223372036854775807)) (fresh dst (.arr (List.replicate n.2.toNat (zs.map .lit)) sz e true) fun k=>.one (.slk k 0 n.2.toNat n.2.toNat))
     | _=>.fail
    | none=>(Q.opt (cp P t)).bind fun e=>(Q.opt (bE P e)).bind fun sz=>(Q.opt (ia P e)).bind fun bs=>(Q.opt (cE P e)).bind fun zs=>Q.guard (decide (t=t'∧0 < sz∧0 < bs∧zs.length=sz)) ((dL sz (ρ x)).bind fun new=>ee dst e sz bs (ρ s) new)
   | _,_=>.fail
  | _=>.fail
 | _=>.fail
end
section
variable {P:Program} {w:World} {U:Nat→Prop} {ι:Pl} {ob:Ob}
def gb (ι:Pl) (k:Nat) (p:Nat×Nat):Pl:=fun j=>if j=k then p else ι j
theorem bp (ob:Ob) (k:Nat) (o:O):cx ob k o k=some o:=by simp [cx]
theorem aB (ob:Ob) {k j:Nat} (o:O) (h:j≠k):cx ob k o j=ob j:=by simp [cx,h]
theorem ap (ι:Pl) (k:Nat) (p:Nat×Nat):gb ι k p k=p:=by simp [gb]
theorem aX (ι:Pl) {k j:Nat} (p:Nat×Nat) (h:j≠k):gb ι k p j=ι j:=by simp [gb,h]
theorem Mem.block {k:Nat} {o:O} (hm:Mem w U ι ob) (h:ob k=some o):(ι k).1 < w.heap.size:=by
 have:=hm.obj k o h
 cases o with
 | box cells elem=>obtain ⟨cur,h1,_⟩:=this;exact (W6.1 h1).1
 | arr rows size elem own=>obtain ⟨cur,h1,_⟩:=this;exact (W6.1 h1).1
 | mp agg keys vals own=>obtain ⟨es,clock,h1,_⟩:=this;exact (W6.1 h1).1
theorem Mem.notU {k:Nat} {o:O} (hm:Mem w U ι ob) (h:ob k=some o) (ho:o.owned=true):¬ U (ι k).1:=by
 have:=hm.obj k o h
 cases o with
 | box cells elem=>obtain ⟨cur,_,_,h1⟩:=this;exact h1
 | arr rows size elem own =>
  obtain ⟨cur,_,_,_,_,_,h1⟩:=this
  simp [O.owned] at ho
  simpa [ho] using h1
 | mp agg keys vals own =>
  obtain ⟨es,clock,_,_,h1⟩:=this
  simp [O.owned] at ho
  simpa [ho] using h1
theorem OR.evo {w':World} {U':Nat→Prop} {ι':Pl} {ob':Ob} {k:Nat} {o:O} (e:Evo w U ι ob w' U' ι' ob') (hι:ι' k=ι k) (hb:w'.heap[(ι k).1]?=w.heap[(ι k).1]?) (hU:U' (ι k).1↔U (ι k).1)
  (h:OR w U ι ob k o):OR w' U' ι' ob' k o:=by
 cases o with
 | box cells elem =>
  obtain ⟨cur,h1,h2,h3⟩:=h
  exact ⟨cur,by rw [hι,hb];exact h1,LF.evo e _ _ h2,by rw [hι,hU];exact h3⟩
 | arr rows size elem own =>
  obtain ⟨cur,h1,h2,h3,h4,h5,h6⟩:=h
  refine ⟨cur,by rw [hι,hb];exact h1,by rw [hι];exact h2,by rw [hι];exact h3,by rw [hι];exact h4,by rw [hι];exact RR.mono e.kept e.sub _ hb rows 0 size h5,?_⟩
  rw [hι]
  cases own
  ·simpa [hU] using h6
  ·simpa [hU] using h6
 | mp agg keys vals own =>
  obtain ⟨es,clock,h1,h2,h3⟩:=h
  refine ⟨es,clock,by rw [hι,hb];exact h1,KR.mono e.kept e.sub vals agg keys es.toList h2,?_⟩
  rw [hι]
  cases own
  ·simpa [hU] using h3
  ·simpa [hU] using h3
def rZ (o new:O) (p q:Nat×Nat):Prop:=match o,new with
 | .box _ elem,.box _ elem'=>elem'=elem∧q.1=p.1
 | .arr rows size elem _,.arr rows' size' elem' _=>size'=size∧elem'=elem∧rows.length≤rows'.length∧(rows'.length=rows.length→q=p)
 | .mp agg _ _ _,.mp agg' _ _ _=>agg'=agg∧q.1=p.1
 | _,_=>False
theorem eY {w':World} (hm:Mem w U ι ob) (k:Nat) (new:O) (p:Nat×Nat)
  (os:w'.os=w.os) (tape:w'.tape=w.tape) (output:w'.output=w.output) (size:w.heap.size≤w'.heap.size)
  (hold:∀ b,b < w.heap.size→(ob k=none∨b≠(ι k).1)→w'.heap[b]?=w.heap[b]?)
  (hown:∀ o,ob k=some o→o.owned=true∧rZ o new (ι k) p)
  (hp:w.heap.size≤p.1∨(ob k≠none∧p.1=(ι k).1)) (hnew:new.owned=true)
  (hor:Evo w U ι ob w' U (gb ι k p) (cx ob k new)→OR w' U (gb ι k p) (cx ob k new) k new) :
  Mem w' U (gb ι k p) (cx ob k new)∧Evo w U ι ob w' U (gb ι k p) (cx ob k new):=by
 have keptU:∀ b,U b→w'.heap[b]?=w.heap[b]?:=fun b hb=>hold b (hm.lt b hb) (by
  cases hk:ob k with
  | none=>exact .inl rfl
  | some o =>
   refine .inr fun e=>?_
   exact hm.notU hk (hown o hk).1 (e ▸ hb))
 have e:Evo w U ι ob w' U (gb ι k p) (cx ob k new):=by
  refine ⟨os,tape,output,size,keptU,fun _ h=>h,?_,?_,?_,?_,?_,fun _ h=>.inl h⟩
  ·intro j cells elem hj
   by_cases hjk:j=k
   ·subst hjk
    have:=(hown _ hj).2
    cases new with
    | box c' e'=>simp [rZ] at this;exact ⟨c',by rw [bp,this.1],by rw [ap];exact this.2⟩
    | arr _ _ _ _=>simp [rZ] at this
    | mp _ _ _ _=>simp [rZ] at this
   ·exact ⟨cells,by rw [aB _ _ hjk];exact hj,by rw [aX _ _ hjk]⟩
  ·intro j rows sz elem own hj
   by_cases hjk:j=k
   ·subst hjk
    have:=(hown _ hj).2
    cases new with
    | box c' e'=>simp [rZ] at this
    | arr r' s' e' o' =>
     simp [rZ] at this
     obtain ⟨h1,h2,h3,h4⟩:=this
     exact ⟨r',o',by rw [bp,h1,h2],h3,by rw [ap];exact h4⟩
    | mp _ _ _ _=>simp [rZ] at this
   ·exact ⟨rows,own,by rw [aB _ _ hjk];exact hj,Tf _,fun _=>by rw [aX _ _ hjk]⟩
  ·intro j agg keys vals own hj
   by_cases hjk:j=k
   ·subst hjk
    have:=(hown _ hj).2
    cases new with
    | box c' e'=>simp [rZ] at this
    | arr r' s' e' o'=>simp [rZ] at this
    | mp a' k' v' o' =>
     simp [rZ] at this
     obtain ⟨rfl,h2⟩:=this
     exact ⟨k',v',o',bp _ _ _,by rw [ap];exact h2⟩
   ·exact ⟨keys,vals,own,by rw [aB _ _ hjk];exact hj,by rw [aX _ _ hjk]⟩
  ·intro b hb hno
   refine hold b hb ?_
   cases hk:ob k with
   | none=>exact .inl rfl
   | some o=>exact .inr fun e=>hno k o hk (hown o hk).1 e.symm
  ·intro j o hj ho
   by_cases hjk:j=k
   ·subst hjk
    rw [ap]
    rcases hp with h | ⟨h,h'⟩
    ·exact .inl h
    ·cases hk:ob j with
     | none=>exact absurd hk h
     | some o0=>exact .inr ⟨j,o0,hk,(hown _ hk).1,h'⟩
   ·rw [aB _ _ hjk] at hj
    exact .inr ⟨j,o,hj,ho,by rw [aX _ _ hjk]⟩
 refine ⟨⟨fun b hb=>Wh (hm.lt b hb) size,?_,?_⟩,e⟩
 ·intro j o hj
  by_cases hjk:j=k
  ·subst hjk
   rw [bp] at hj
   cases hj
   exact hor e
  ·rw [aB _ _ hjk] at hj
   refine OR.evo e (aX _ _ hjk) (hold _ (hm.block hj) ?_) Iff.rfl (hm.obj j o hj)
   cases hk:ob k with
   | none=>exact .inl rfl
   | some ok =>
    refine .inr fun heq=>?_
    cases ho:o.owned with
    | true=>exact hm.inj j k o ok hj hk ho (hown _ hk).1 hjk heq
    | false =>
     have h1:=hm.obj j o hj
     cases o with
     | box=>simp [O.owned] at ho
     | arr rows sz elem own =>
      simp [O.owned] at ho
      subst ho
      obtain ⟨_,_,_,_,_,_,h2⟩:=h1
      simp at h2
      exact hm.notU hk (hown _ hk).1 (heq ▸ h2)
     | mp agg keys vals own =>
      simp [O.owned] at ho
      subst ho
      obtain ⟨_,_,_,_,h2⟩:=h1
      simp at h2
      exact hm.notU hk (hown _ hk).1 (heq ▸ h2)
 ·intro j j' o o' hj hj' ho ho' hne
  have far:∀ i oi,ob i=some oi→oi.owned=true→i≠k→(ι i).1≠p.1:=by
   intro i oi hi hoi hik heq
   rcases hp with hp | ⟨hk,hp⟩
   ·have:=hm.block hi;omega
   ·cases hk':ob k with
    | none=>exact hk hk'
    | some ok=>exact hm.inj i k oi ok hi hk' hoi (hown _ hk').1 hik (by rw [heq,hp])
  by_cases hjk:j=k
  ·subst hjk
   have hj'k:j'≠j:=fun e=>hne e.symm
   rw [aB _ _ hj'k] at hj'
   rw [ap,aX _ _ hj'k]
   exact (far j' o' hj' ho' hj'k).symm
  ·rw [aB _ _ hjk] at hj
   rw [aX _ _ hjk]
   by_cases hj'k:j'=k
   ·subst hj'k
    rw [ap]
    exact far j o hj ho hjk
   ·rw [aB _ _ hj'k] at hj'
    rw [aX _ _ hj'k]
    exact hm.inj j j' o o' hj hj' ho ho' hne
theorem Gw {w':World} {U':Nat→Prop} {ι1:Pl} {ob1:Ob} (hm:Mem w' U' ι1 ob1) (e:Evo w U ι ob w' U' ι1 ob1) (k:Nat) (new:O) (p:Nat×Nat) (hk:ob1 k=none)
  (hp:w.heap.size≤p.1) (_:p.1 < w'.heap.size) (_:¬ U' p.1) (hfar:∀ i oi,ob1 i=some oi→oi.owned=true→(ι1 i).1≠p.1)
  (hor:OR w' U' (gb ι1 k p) (cx ob1 k new) k new) :
  Mem w' U' (gb ι1 k p) (cx ob1 k new)∧Evo w U ι ob w' U' (gb ι1 k p) (cx ob1 k new)∧(∀ x v,LR w' U' ι1 ob1 x v→LR w' U' (gb ι1 k p) (cx ob1 k new) x v):=by
 have nk:∀ j o,ob1 j=some o→j≠k:=by rintro j o hj rfl;rw [hk] at hj;cases hj
 have mono:∀ x v,LR w' U' ι1 ob1 x v→LR w' U' (gb ι1 k p) (cx ob1 k new) x v:=by
  have both:(∀ x:L,∀ v,LR w' U' ι1 ob1 x v→LR w' U' (gb ι1 k p) (cx ob1 k new) x v):=by
   intro x
   refine L.rec (motive_1:=fun x=>∀ v,LR w' U' ι1 ob1 x v→LR w' U' (gb ι1 k p) (cx ob1 k new) x v)
    (motive_2:=fun xs=>∀ vs,LF w' U' ι1 ob1 xs vs→LF w' U' (gb ι1 k p) (cx ob1 k new) xs vs) ?_ ?_ ?_ ?_ ?_ ?_ ?_ ?_ ?_ x
   ·intro x v h;simpa only [LR] using h
   ·intro k0 off n c v h
    simp only [LR] at h ⊢
    obtain ⟨rows,size,elem,own,h1,h2,h3,h4⟩:=h
    have:=nk _ _ h1
    exact ⟨rows,size,elem,own,by rw [aB _ _ this];exact h1,h2,by rw [aX _ _ this];exact h3,h4⟩
   ·intro k0 i off c v h
    simp only [LR] at h ⊢
    obtain ⟨rows,size,elem,own,h1,h2,h3,h4⟩:=h
    have:=nk _ _ h1
    exact ⟨rows,size,elem,own,by rw [aB _ _ this];exact h1,h2,by rw [aX _ _ this];exact h3,h4⟩
   ·intro k0 off v h
    simp only [LR] at h ⊢
    obtain ⟨cells,elem,h1,h2⟩:=h
    have:=nk _ _ h1
    exact ⟨cells,elem,by rw [aB _ _ this];exact h1,by rw [aX _ _ this];exact h2⟩
   ·intro f caps ih v h
    simp only [LR] at h ⊢
    obtain ⟨cs,h1,h2⟩:=h
    exact ⟨cs,h1,ih _ h2⟩
   ·intro k0 v h
    simp only [LR] at h ⊢
    obtain ⟨agg,keys,vals,own,h1,h2⟩:=h
    have:=nk _ _ h1
    exact ⟨agg,keys,vals,own,by rw [aB _ _ this];exact h1,by rw [aX _ _ this];exact h2⟩
   ·intro v h;simp [LR]
   ·intro vs h;simpa [LF] using h
   ·intro x xs ih1 ih2 vs h
    simp only [LF] at h ⊢
    obtain ⟨v,vs',h1,h2,h3⟩:=h
    exact ⟨v,vs',h1,ih1 _ h2,ih2 _ h3⟩
  exact both
 have monoF:∀ xs vs,LF w' U' ι1 ob1 xs vs→LF w' U' (gb ι1 k p) (cx ob1 k new) xs vs:=by
  intro xs
  induction xs with
  | nil=>intro vs h;simpa [LF] using h
  | cons x xs ih=>intro vs h;simp only [LF] at h ⊢;obtain ⟨v,vs',h1,h2,h3⟩:=h;exact ⟨v,vs',h1,mono _ _ h2,ih _ h3⟩
 refine ⟨⟨hm.lt,?_,?_⟩,⟨e.os,e.tape,e.output,e.size,e.kept,e.sub,?_,?_,?_,e.same,?_,e.orig⟩,mono⟩
 ·intro j o hj
  by_cases hjk:j=k
  ·subst hjk
   rw [bp] at hj
   cases hj
   exact hor
  ·rw [aB _ _ hjk] at hj
   have h:=hm.obj j o hj
   cases o with
   | box cells elem=>obtain ⟨cur,h1,h2,h3⟩:=h;exact ⟨cur,by rw [aX _ _ hjk];exact h1,monoF _ _ h2,by rw [aX _ _ hjk];exact h3⟩
   | arr rows size elem own=>obtain ⟨cur,h1,h2,h3,h4,h5,h6⟩:=h;exact ⟨cur,by rw [aX _ _ hjk];exact h1,by rw [aX _ _ hjk];exact h2,by rw [aX _ _ hjk];exact h3,by rw [aX _ _ hjk];exact h4,by rw [aX _ _ hjk];exact h5,by rw [aX _ _ hjk];exact h6⟩
   | mp agg keys vals own=>obtain ⟨es,clock,h1,h2,h3⟩:=h;exact ⟨es,clock,by rw [aX _ _ hjk];exact h1,h2,by rw [aX _ _ hjk];exact h3⟩
 ·intro j j' o o' hj hj' ho ho' hne
  by_cases hjk:j=k
  ·subst hjk
   have hj'k:j'≠j:=fun e=>hne e.symm
   rw [aB _ _ hj'k] at hj'
   rw [ap,aX _ _ hj'k]
   exact (hfar j' o' hj' ho').symm
  ·rw [aB _ _ hjk] at hj
   rw [aX _ _ hjk]
   by_cases hj'k:j'=k
   ·subst hj'k
    rw [ap]
    exact hfar j o hj ho
   ·rw [aB _ _ hj'k] at hj'
    rw [aX _ _ hj'k]
    exact hm.inj j j' o o' hj hj' ho ho' hne
 ·intro j cells elem hj
  obtain ⟨c',h1,h2⟩:=e.box j cells elem hj
  have:=nk _ _ h1
  exact ⟨c',by rw [aB _ _ this];exact h1,by rw [aX _ _ this];exact h2⟩
 ·intro j rows size elem own hj
  obtain ⟨r',o',h1,h2,h3⟩:=e.arr j rows size elem own hj
  have:=nk _ _ h1
  exact ⟨r',o',by rw [aB _ _ this];exact h1,h2,by rw [aX _ _ this];exact h3⟩
 ·intro j agg keys vals own hj
  obtain ⟨k',v',o',h1,h2⟩:=e.mp j agg keys vals own hj
  have:=nk _ _ h1
  exact ⟨k',v',o',by rw [aB _ _ this];exact h1,by rw [aX _ _ this];exact h2⟩
 ·intro j o hj ho
  by_cases hjk:j=k
  ·subst hjk;rw [ap];exact .inl hp
  ·rw [aB _ _ hjk] at hj
   rw [aX _ _ hjk]
   exact e.ownd j o hj ho
def O.shut:O→O
 | .arr rows size elem _=>.arr rows size elem false
 | .mp agg keys vals _=>.mp agg keys vals false
 | o=>o
def O.isBox:O→Bool
 | .box ..=>true
 | _=>false
theorem qf (hm:Mem w U ι ob) {k:Nat} {ok:O} (hk:ob k=some ok) (hnb:ok.isBox=false) :
  Mem w (fun b=>U b∨b=(ι k).1) ι (cx ob k ok.shut)∧Evo w U ι ob w (fun b=>U b∨b=(ι k).1) ι (cx ob k ok.shut):=by
 have e:Evo w U ι ob w (fun b=>U b∨b=(ι k).1) ι (cx ob k ok.shut):=by
  refine ⟨rfl,rfl,rfl,Tf _,fun _ _=>rfl,fun _ h=>.inl h,?_,?_,?_,fun _ _ _=>rfl,?_,?_⟩
  ·intro j cells el hj
   have hjk:j≠k:=by rintro rfl;rw [hk] at hj;cases hj;simp [O.isBox] at hnb
   exact ⟨cells,by rw [aB _ _ hjk];exact hj,rfl⟩
  ·intro j r s el o hj
   by_cases hjk:j=k
   ·subst hjk
    rw [hk] at hj
    cases hj
    exact ⟨r,false,bp _ _ _,Tf _,fun _=>rfl⟩
   ·exact ⟨r,o,by rw [aB _ _ hjk];exact hj,Tf _,fun _=>rfl⟩
  ·intro j agg keys vals o hj
   by_cases hjk:j=k
   ·subst hjk
    rw [hk] at hj
    cases hj
    exact ⟨keys,vals,false,bp _ _ _,rfl⟩
   ·exact ⟨keys,vals,o,by rw [aB _ _ hjk];exact hj,rfl⟩
  ·intro j o hj ho
   by_cases hjk:j=k
   ·subst hjk
    rw [bp] at hj
    cases hj
    cases ok<;>simp_all [O.shut,O.owned,O.isBox]
   ·rw [aB _ _ hjk] at hj
    exact .inr ⟨j,o,hj,ho,rfl⟩
  ·rintro b (hb | rfl)
   ·exact .inl hb
   ·cases hok:ok.owned with
    | true=>exact .inr (.inr ⟨k,ok,hk,hok,rfl⟩)
    | false =>
     have h0:=hm.obj _ _ hk
     left
     cases ok with
     | box=>simp [O.owned] at hok
     | arr rows size elem own=>simp [O.owned] at hok;subst hok;obtain ⟨_,_,_,_,_,_,h6⟩:=h0;simpa using h6
     | mp agg keys vals own=>simp [O.owned] at hok;subst hok;obtain ⟨_,_,_,_,h6⟩:=h0;simpa using h6
 refine ⟨⟨?_,?_,?_⟩,e⟩
 ·rintro b (hb | rfl)
  ·exact hm.lt b hb
  ·exact hm.block hk
 ·intro j o hj
  by_cases hjk:j=k
  ·subst hjk
   rw [bp] at hj
   cases hj
   have h0:=hm.obj _ _ hk
   cases ok with
   | box=>simp [O.isBox] at hnb
   | arr rows size elem own =>
    obtain ⟨cur,h1,h2,h3,h4,h5,h6⟩:=h0
    exact ⟨cur,h1,h2,h3,h4,RR.mono e.kept e.sub _ rfl rows 0 size h5,by simp⟩
   | mp agg keys vals own =>
    obtain ⟨es,clock,h1,h2,h3⟩:=h0
    exact ⟨es,clock,h1,KR.mono e.kept e.sub _ _ _ _ h2,by simp⟩
  ·rw [aB _ _ hjk] at hj
   have h1:=hm.obj j o hj
   have hne:o.owned=true→(ι j).1≠(ι k).1:=fun ho heq=>by
    cases hok:ok.owned with
    | true=>exact hm.inj j k o _ hj hk ho hok hjk heq
    | false =>
     have h0:=hm.obj _ _ hk
     have hUk:U (ι k).1:=by
      cases ok with
      | box=>simp [O.owned] at hok
      | arr rows size elem own=>simp [O.owned] at hok;subst hok;obtain ⟨_,_,_,_,_,_,h6⟩:=h0;simpa using h6
      | mp agg keys vals own=>simp [O.owned] at hok;subst hok;obtain ⟨_,_,_,_,h6⟩:=h0;simpa using h6
     exact hm.notU hj ho (heq ▸ hUk)
   cases o with
   | box cells el =>
    obtain ⟨cur,h2,h3,h4⟩:=h1
    exact ⟨cur,h2,LF.evo e _ _ h3,fun h=>h.elim h4 (hne rfl)⟩
   | arr r s el o =>
    obtain ⟨cur,h2,h3,h4,h5,h6,h7⟩:=h1
    refine ⟨cur,h2,h3,h4,h5,RR.mono e.kept e.sub _ rfl r 0 s h6,?_⟩
    cases o with
    | true=>simp at h7 ⊢;exact ⟨h7,hne rfl⟩
    | false=>simp at h7 ⊢;exact .inl h7
   | mp agg keys vals o =>
    obtain ⟨es,clock,h2,h3,h7⟩:=h1
    refine ⟨es,clock,h2,KR.mono e.kept e.sub _ _ _ _ h3,?_⟩
    cases o with
    | true=>simp at h7 ⊢;exact ⟨h7,hne rfl⟩
    | false=>simp at h7 ⊢;exact .inl h7
 ·intro j j' o o' hj hj' ho ho' hne
  have hsh:ok.shut.owned=false:=by cases ok<;>simp_all [O.shut,O.owned,O.isBox]
  have hj1:j≠k:=by rintro rfl;rw [bp] at hj;cases hj;rw [hsh] at ho;cases ho
  have hj2:j'≠k:=by rintro rfl;rw [bp] at hj';cases hj';rw [hsh] at ho';cases ho'
  rw [aB _ _ hj1] at hj
  rw [aB _ _ hj2] at hj'
  exact hm.inj j j' o o' hj hj' ho ho' hne
def io (P:Program) (w:World) (U:Nat→Prop) (ι:Pl) (ob:Ob) (s:Sem Value) (r:cD):Prop :=
 ∃ v w' U' ι',s.run P w=.ok v w'∧Mem w' U' ι' (bk ob r.2)∧Evo w U ι ob w' U' ι' (bk ob r.2)∧VR w' U' ι' (bk ob r.2) r.1 v
theorem aO (hm:Mem w U ι ob) {s:Sem Value} {v:V} {u:Value} (h:s.run P w=.ok u w) (hv:VR w U ι ob v u):io P w U ι ob s (v,[]) :=
 ⟨u,w,U,ι,h,hm,Evo.refl _ _ _ _,hv⟩
theorem LF.len {xs:List L} {vs:List Value} (h:LF w U ι ob xs vs):vs.length=xs.length:=by
 induction xs generalizing vs with
 | nil=>simp only [LF] at h;simp [h]
 | cons x xs ih=>simp only [LF] at h;obtain ⟨v,vs',rfl,_,h2⟩:=h;simp [ih h2]
theorem LF.at_ {xs:List L} {vs:List Value} (h:LF w U ι ob xs vs):∀ {j:Nat} {x:L},xs[j]?=some x→∃ v,vs[j]?=some v∧LR w U ι ob x v:=by
 induction xs generalizing vs with
 | nil=>intro j x hj;simp at hj
 | cons y ys ih =>
  simp only [LF] at h
  obtain ⟨v,vs',rfl,h1,h2⟩:=h
  intro j x hj
  cases j with
  | zero=>simp at hj;subst hj;exact ⟨v,rfl,h1⟩
  | succ j=>simpa using ih h2 (by simpa using hj)
theorem LF.mk {xs:List L} {vs:List Value} (hl:vs.length=xs.length) (h:∀ (j:Nat) (x:L) (v:Value),xs[j]?=some x→vs[j]?=some v→LR w U ι ob x v):LF w U ι ob xs vs:=by
 induction xs generalizing vs with
 | nil=>simp only [LF];exact Wd hl
 | cons y ys ih =>
  cases vs with
  | nil=>simp at hl
  | cons v vs =>
   simp only [LF]
   exact ⟨v,vs,rfl,h 0 y v rfl rfl,ih (by simpa using hl) fun j x u hx hu=>h (j+1) x u (by simpa using hx) (by simpa using hu)⟩
theorem LF.append {xs ys:List L} {vs us:List Value} (h:LF w U ι ob xs vs) (k:LF w U ι ob ys us):LF w U ι ob (xs++ys) (vs++us):=by
 induction xs generalizing vs with
 | nil=>simp only [LF] at h;simpa [h] using k
 | cons x xs ih=>simp only [LF] at h;obtain ⟨v,vs',rfl,h1,h2⟩:=h;simp only [Tr,LF];exact ⟨v,_,rfl,h1,ih h2⟩
theorem LF.take {xs:List L} {vs:List Value} (h:LF w U ι ob xs vs) (n:Nat):LF w U ι ob (xs.take n) (vs.take n):=by
 induction xs generalizing vs n with
 | nil=>simp only [LF] at h;simp [h,LF]
 | cons x xs ih =>
  simp only [LF] at h;obtain ⟨v,vs',rfl,h1,h2⟩:=h
  cases n with
  | zero=>simp [LF]
  | succ n=>simp only [Tg,LF];exact ⟨v,_,rfl,h1,ih h2 n⟩
theorem LF.drop {xs:List L} {vs:List Value} (h:LF w U ι ob xs vs) (n:Nat):LF w U ι ob (xs.drop n) (vs.drop n):=by
 induction xs generalizing vs n with
 | nil=>simp only [LF] at h;simp [h,LF]
 | cons x xs ih =>
  simp only [LF] at h;obtain ⟨v,vs',rfl,h1,h2⟩:=h
  cases n with
  | zero=>simp only [Y0,LF];exact ⟨v,_,rfl,h1,h2⟩
  | succ n=>simpa using ih h2 n
theorem VF.at_ {xs:List V} {vs:List Value} (h:VF w U ι ob xs vs):∀ {j:Nat} {x:V},xs[j]?=some x→∃ v,vs[j]?=some v∧VR w U ι ob x v:=by
 induction xs generalizing vs with
 | nil=>intro j x hj;simp at hj
 | cons y ys ih =>
  simp only [VF] at h
  obtain ⟨v,vs',rfl,h1,h2⟩:=h
  intro j x hj
  cases j with
  | zero=>simp at hj;subst hj;exact ⟨v,rfl,h1⟩
  | succ j=>simpa using ih h2 (by simpa using hj)
theorem vM {v:Value} (h:plain v=true):v.cells=#[v]:=by cases v<;>simp_all [plain,Value.cells]
theorem sn {v:Value} (h:plain v=true):v.oneCell'=true:=by cases v<;>simp_all [plain,Value.oneCell']
theorem oV (f:Nat) (a:Array Value):(iB f a).cells=#[iB f a]∧(iB f a).oneCell'=true:=by unfold iB;split<;>exact ⟨rfl,rfl⟩
theorem DR.cells {x:D} {v:Value} (h:DR w U x v):v.cells=#[v]∧v.oneCell'=true:=by
 cases x with
 | lit u=>simp only [DR] at h;obtain ⟨rfl,h⟩:=h;exact ⟨vM h,sn h⟩
 | sl size rows=>simp only [DR] at h;obtain ⟨a,cap,rfl,_⟩:=h;exact ⟨rfl,rfl⟩
 | dp row off=>simp only [DR] at h;obtain ⟨a,cap,rfl,_⟩:=h;exact ⟨rfl,rfl⟩
 | fn f caps=>simp only [DR] at h;obtain ⟨a,rfl,_⟩:=h;exact oV f a
 | mp agg keys vals=>simp only [DR] at h;obtain ⟨_,_,_,rfl,_⟩:=h;exact ⟨rfl,rfl⟩
 | ifc t agg row=>simp only [DR] at h;obtain ⟨_,rfl,_⟩:=h;exact ⟨rfl,rfl⟩
theorem LR.cells {x:L} {v:Value} (h:LR w U ι ob x v) (hx:x.isDef=true):v.cells=#[v]∧v.oneCell'=true:=by
 cases x with
 | d x=>simp only [LR] at h;exact DR.cells h
 | slk k off n c=>simp only [LR] at h;obtain ⟨_,_,_,_,_,_,_,a,c',rfl,_⟩:=h;exact ⟨rfl,rfl⟩
 | pa k i off c=>simp only [LR] at h;obtain ⟨_,_,_,_,_,_,_,a,rfl⟩:=h;exact ⟨rfl,rfl⟩
 | ptr k off=>simp only [LR] at h;obtain ⟨_,_,_,rfl⟩:=h;exact ⟨rfl,rfl⟩
 | fn f caps=>simp only [LR] at h;obtain ⟨a,rfl,_⟩:=h;exact oV f a
 | mk k=>simp only [LR] at h;obtain ⟨_,_,_,_,_,rfl⟩:=h;exact ⟨rfl,rfl⟩
 | undef=>simp [L.isDef] at hx
theorem VR.cells {x:V} {v:Value} {cs:List L} (h:VR w U ι ob x v) (hc:x.cells=some cs):LF w U ι ob cs v.cells.toList∧(∀ u∈v.cells.toList,u.oneCell'=true):=by
 cases x with
 | one x =>
  simp only [V.cells] at hc
  split at hc
  ·cases hc
   simp only [VR] at h
   have:=LR.cells h ‹_›
   rw [this.1]
   exact ⟨by simp only [LF];exact ⟨v,[],rfl,h,rfl⟩,by simpa using this.2⟩
  ·cases hc
 | agg xs =>
  simp only [V.cells] at hc
  split at hc
  ·rename_i hd
   cases hc
   simp only [VR] at h
   obtain ⟨vs,rfl,hl⟩:=h
   refine ⟨hl,fun u hu=>?_⟩
   simp only [Value.cells] at hu
   obtain ⟨j,hj,rfl⟩:=List.mem_iff_getElem.1 hu
   have hjl:j < cs.length:=by rw [←hl.len];exact hj
   obtain ⟨v',hv',hr⟩:=hl.at_ (Tc hjl)
   rw [Tc hj] at hv'
   cases hv'
   exact (LR.cells hr (by simpa using V4.1 hd _ (List.getElem_mem hjl))).2
  ·cases hc
 | tup xs=>simp [V.cells] at hc
theorem kx {zs:List Value} (h:zs.all plain=true):LF w U ι ob (gr zs) zs:=by
 induction zs with
 | nil=>simp [gr,LF]
 | cons z zs ih =>
  simp at h
  simp only [gr,Tl,LF]
  exact ⟨z,zs,rfl,by simp [LR,DR,h.1],ih (by simpa using h.2)⟩
theorem OA {v:Value} (h:plain v=true):DR w U (.lit v) v:=by simp [DR,h]
theorem fq {t:Nat} {zs:List Value} (h:cE P t=some zs):∃ i z,P.info? t=some i∧i.zero=some z∧z.cells.toList=zs∧zs.all plain=true:=by
 simp only [cE,Vg] at h
 obtain ⟨i,hi,z,hz,h⟩:=h
 split at h
 ·cases h;exact ⟨i,z,hi,hz,rfl,‹_›⟩
 ·cases h
theorem me (hm:Mem w U ι ob) {dst:Option Nat} {o:O} {f:Nat→V} {r:cD} (hr:(fresh dst o f).run ob=some r) {s:Sem Value} {u:Value} {obj:Obj} {c:Nat}
  (hrun:s.run P w=.ok u (w.alloc obj)) (ho:o.owned=true)
  (hor:∀ k ι' ob',ob' k=some o→(ι' k)=(w.heap.size,c)→Evo w U ι ob (w.alloc obj) U ι' ob'→OR (w.alloc obj) U ι' ob' k o)
  (hv:∀ k ι' ob',ob' k=some o→(ι' k)=(w.heap.size,c)→VR (w.alloc obj) U ι' ob' (f k) u):io P w U ι ob s r:=by
 unfold fresh at hr
 cases dst with
 | none=>simp [Q.run] at hr
 | some k =>
  simp only [Q.run] at hr
  cases hk:ob k with
  | some o=>simp [hk,Q.run] at hr
  | none =>
   simp only [hk,Q.run,T3] at hr
   subst hr
   obtain ⟨h1,h2⟩:=eY (w':=w.alloc obj) hm k o (w.heap.size,c) rfl rfl rfl (by simp) (fun b hb _=>by
    show (w.heap.push obj)[b]?=_
    rw [Array.getElem?_push,T5 (by omega)]) (fun o' h=>by rw [hk] at h;cases h) (.inl (Tf _)) ho (fun e=>hor k _ _ (bp _ _ _) (ap _ _ _) e)
   exact ⟨u,w.alloc obj,U,_,hrun,h1,h2,hv k _ _ (bp _ _ _) (ap _ _ _)⟩
end
section
open Go.RowKit
variable {P:Program} {w:World} {U:Nat→Prop} {ι:Pl} {ob:Ob}
theorem FR.len {xs:List D} {vs:List Value} (h:FR w U xs vs):vs.length=xs.length:=by
 induction xs generalizing vs with
 | nil=>simp only [FR] at h;simp [h]
 | cons x xs ih=>simp only [FR] at h;obtain ⟨v,vs',rfl,_,h2⟩:=h;simp [ih h2]
theorem FR.at_ {xs:List D} {vs:List Value} (h:FR w U xs vs):∀ {j:Nat} {x:D},xs[j]?=some x→∃ v,vs[j]?=some v∧DR w U x v:=by
 induction xs generalizing vs with
 | nil=>intro j x hj;simp at hj
 | cons y ys ih =>
  simp only [FR] at h
  obtain ⟨v,vs',rfl,h1,h2⟩:=h
  intro j x hj
  cases j with
  | zero=>simp at hj;subst hj;exact ⟨v,rfl,h1⟩
  | succ j=>simpa using ih h2 (by simpa using hj)
theorem FR.append {xs ys:List D} {vs us:List Value} (h:FR w U xs vs) (k:FR w U ys us):FR w U (xs++ys) (vs++us):=by
 induction xs generalizing vs with
 | nil=>simp only [FR] at h;simpa [h] using k
 | cons x xs ih=>simp only [FR] at h;obtain ⟨v,vs',rfl,h1,h2⟩:=h;simp only [Tr,FR];exact ⟨v,_,rfl,h1,ih h2⟩
theorem FR.one {xs:List D} {vs:List Value} (h:FR w U xs vs):∀ u∈vs,u.oneCell'=true:=by
 induction xs generalizing vs with
 | nil=>simp only [FR] at h;simp [h]
 | cons x xs ih =>
  simp only [FR] at h;obtain ⟨v,vs',rfl,h1,h2⟩:=h
  intro u hu
  rcases Ti.1 hu with rfl | hu
  ·exact h1.cells.2
  ·exact ih h2 u hu
theorem oE {b:Nat}:∀ {xs:List D} {o:Nat},CR w U b o xs↔∃ vs,FR w U xs vs∧∀ j u,vs[j]?=some u→w.cell? ⟨b,o+j,none⟩=some u
 | [],o=>by simp [CR,FR]
 | x::xs,o=>by
  simp only [CR,FR]
  constructor
  ·rintro ⟨⟨u,hc,hd⟩,hr⟩
   obtain ⟨vs,h1,h2⟩:=oE.1 hr
   refine ⟨u::vs,⟨u,vs,rfl,hd,h1⟩,fun j v hv=>?_⟩
   cases j with
   | zero=>simp at hv;subst hv;simpa using hc
   | succ j=>have:=h2 j v (by simpa using hv);rwa [show o+1+j=o+(j+1) by omega] at this
  ·rintro ⟨_,⟨u,vs,rfl,hd,h1⟩,h2⟩
   refine ⟨⟨u,by simpa using h2 0 u rfl,hd⟩,oE.2 ⟨vs,h1,fun j v hv=>?_⟩⟩
   have:=h2 (j+1) v (by simpa using hv)
   rwa [show o+(j+1)=o+1+j by omega] at this
theorem eu {b:Nat}:∀ {rs:List (List D)} {o size:Nat},RR w U b o size rs↔(∀ r∈rs,r.length=size)∧∃ vs,FR w U rs.flatten vs∧∀ j u,vs[j]?=some u→w.cell? ⟨b,o+j,none⟩=some u
 | [],o,size=>by simp [RR,FR]
 | r::rs,o,size=>by
  simp only [RR,List.flatten_cons]
  constructor
  ·rintro ⟨hl,hc,hr⟩
   obtain ⟨vs,h1,h2⟩:=oE.1 hc
   obtain ⟨h3,us,h4,h5⟩:=eu.1 hr
   refine ⟨by simpa [hl] using h3,vs++us,h1.append h4,fun j u hu=>?_⟩
   have hvl:vs.length=size:=by rw [h1.len,hl]
   rw [List.getElem?_append] at hu
   split at hu
   ·exact h2 j u hu
   ·have:=h5 _ u hu
    rw [hvl] at this
    rwa [show o+size+(j - size)=o+j by omega] at this
  ·rintro ⟨hl,vs,h1,h2⟩
   have hrl:r.length=size:=hl r (by simp)
   refine ⟨hrl,?_,?_⟩
   ·refine CR.mk fun j x hj=>?_
    obtain ⟨v,hv,hd⟩:=h1.at_ (j:=j) (x:=x) (by rw [V2 (Tn.1 hj).1];exact hj)
    exact ⟨v,h2 j v hv,hd⟩
   ·have key:∀ {xs ys:List D} {vs:List Value},FR w U (xs++ys) vs→FR w U ys (vs.drop xs.length):=by
     intro xs
     induction xs with
     | nil=>intro ys vs h;simpa using h
     | cons x xs ih=>intro ys vs h;simp only [Tr,FR] at h;obtain ⟨v,vs',rfl,_,h⟩:=h;simpa using ih h
    refine eu.2 ⟨fun r hr=>hl r (by simp [hr]),vs.drop size,by rw [←hrl];exact key h1,fun j u hu=>?_⟩
    rw [Wu] at hu
    have:=h2 _ u hu
    rwa [show o+(size+j)=o+size+j by omega] at this
theorem cF {rs:List (List D)} {size:Nat} (h:∀ r∈rs,r.length=size):rs.flatten.length=rs.length*size:=by
 induction rs with
 | nil=>simp
 | cons r rs ih=>simp [h r (by simp),ih (fun x hx=>h x (by simp [hx])),Wc,Nat.add_comm]
theorem jk {t:Nat} {i:TypeInfo} (h:P.info? t=some i):(typeInfo t).run P w=.ok i w:=by simp [typeInfo,h]
theorem cH {t s:Nat} (h:bE P t=some s):(sizeOf t).run P w=.ok s w:=by
 simp only [bE,Ta] at h
 obtain ⟨i,hi,rfl⟩:=h
 simp [sizeOf,jk hi]
theorem gy {t:Nat} {g:Bool} (h:dg P t=some g):(isAgg t).run P w=.ok g w:=by
 simp only [dg,Ta] at h
 obtain ⟨d,hd,rfl⟩:=h
 simp only [isAgg,Sem.run_bind,run_underlying hd,Result.andThen_ok]
 cases d<;>rfl
theorem tI {t:Nat} {zs:List Value} (h:cE P t=some zs):∃ z,(zeroValue t).run P w=.ok z w∧z.cells.toList=zs∧zs.all plain=true:=by
 obtain ⟨i,z,hi,hz,h1,h2⟩:=fq h
 exact ⟨z,by simp [zeroValue,jk hi,hz],h1,h2⟩
theorem eB {t e:Nat} (h:cp P t=some e):P.underlying t=some (.slice e):=by
 unfold cp at h
 split at h
 ·cases h;assumption
 ·cases h
theorem bG {b:Nat} {cur:Array Value} {e:Nat} {fz:Nat×Nat} (h:w.heap[b]?=some (.cells cur e fz)) (j:Nat):w.cell? ⟨b,j,none⟩=cur[j]?:=by simp [World.cell?,h]
theorem add_lit (b o n:Nat):Addr.add ⟨b,o,none⟩ n=⟨b,o+n,none⟩:=Addr.add_lit b o n
theorem EC (hm:Mem w U ι ob) {dst:Option Nat} {x:V} {u:Value} {cs:List L} {e:Nat} {r:cD} (hx:VR w U ι ob x u) (hc:x.cells=some cs)
  (hr:(fresh dst (.box cs e) fun k=>.one (.ptr k 0)).run ob=some r):io P w U ι ob (Instr.box e u) r:=by
 have hl:=(VR.cells hx hc).1
 refine me hm hr (u:=.pointer (some ⟨w.heap.size,0,none⟩)) (obj:=.cells u.cells e) (c:=0) (by simp [Instr.box,newVar,newRow]) rfl ?_ ?_
 ·intro k ι' ob' _ hι e'
  exact ⟨u.cells,by rw [hι];exact heap_alloc_new w _,LF.evo e' _ _ hl,by rw [hι];intro h;exact absurd (hm.lt _ h) (by simp)⟩
 ·intro k ι' ob' ho hι
  simp only [VR,LR]
  exact ⟨cs,e,ho,by rw [hι]⟩
theorem yP (hm:Mem w U ι ob) {dst:Option Nat} {zs:List Value} {e:Nat} {r:cD} (hz:cE P e=some zs)
  (hr:(fresh dst (.box (gr zs) e) fun k=>.one (.ptr k 0)).run ob=some r):io P w U ι ob (Instr.alloc e true (.tuple #[])) r:=by
 obtain ⟨z,h1,h2,h3⟩:=tI (w:=w) hz
 refine me hm hr (u:=.pointer (some ⟨w.heap.size,0,none⟩)) (obj:=.cells z.cells e) (c:=0) (by simp [Instr.alloc,h1,newVar,newRow]) rfl ?_ ?_
 ·intro k ι' ob' _ hι e'
  exact ⟨z.cells,by rw [hι];exact heap_alloc_new w _,by rw [h2];exact kx h3,by rw [hι];intro h;exact absurd (hm.lt _ h) (by simp)⟩
 ·intro k ι' ob' ho hι
  simp only [VR,LR]
  exact ⟨_,e,ho,by rw [hι]⟩
theorem wm {g:Bool} {s off:Nat} {cells:List L} {cur:List Value} {v:V} (h:cm g s off cells=some v) (hl:LF w U ι ob cells (cur.take cells.length)) (hcl:cells.length≤cur.length)
  {b:Nat} {e:Nat} {fz:Nat×Nat} {o:Nat} {arr:Array Value} (hb:w.heap[b]?=some (.cells arr e fz)) (ho:∀ j u,cur[j]?=some u→arr[o+j]?=some u) {t:Nat} (ha:dg P t=some g) (hs:bE P t=some s) :
  ∃ u,(loadVar t ⟨b,o+off,none⟩).run P w=.ok u w∧VR w U ι ob v u:=by
 unfold cm at h
 cases g with
 | true =>
  simp only [T6] at h
  split at h
  ·rename_i hle
   cases h
   have hll:((cur.drop off).take s).length=s:=by simp;omega
   have hrun:=run_loadCells_list (P:=P) w ⟨b,o+off,none⟩ ((cur.drop off).take s) (fun j u hu=>by
    rw [add_lit,bG hb]
    rw [Vs] at hu
    split at hu
    ·rw [Wu] at hu
     rw [Ww]
     exact ho _ u hu
    ·cases hu)
   rw [hll] at hrun
   refine ⟨.agg ((cur.drop off).take s).toArray,by simp [loadVar,gy ha,cH hs,hrun],?_⟩
   simp only [VR]
   refine ⟨_,rfl,?_⟩
   have:=(hl.drop off).take s
   simpa [List.drop_take,X8,show min s (cells.length - off)=s by omega] using this
  ·cases h
 | false =>
  simp only [T0,T9,Ta] at h
  obtain ⟨x,hx,rfl⟩:=h
  obtain ⟨u,hu,hr⟩:=hl.at_ hx
  have hlt:off < cells.length:=(Tn.1 hx).1
  rw [Vs,T1 hlt] at hu
  refine ⟨u,by simp [loadVar,gy ha,bG hb,ho off u hu],?_⟩
  simpa only [VR] using hr
theorem jX {r:List D} {vs:List Value} (h:FR w U r vs):LF w U ι ob (r.map .d) vs:=by
 induction r generalizing vs with
 | nil=>simpa [LF,FR] using h
 | cons x r ih=>simp only [FR] at h;obtain ⟨v,vs',rfl,h1,h2⟩:=h;simp only [Tl,LF];exact ⟨v,vs',rfl,by simpa only [LR] using h1,ih h2⟩
theorem vy {r:List D} {off s:Nat} {g:Bool} {v:V} (h:cm g s off (r.map .d)=some v) {b o:Nat} (hc:CR w U b o r) {t:Nat} (ha:dg P t=some g) (hs:bE P t=some s) :
  ∃ u,(loadVar t ⟨b,o+off,none⟩).run P w=.ok u w∧VR w U ι ob v u:=by
 obtain ⟨vs,h1,h2⟩:=oE.1 hc
 have hl:LF w U ι ob (r.map .d) vs:=jX h1
 unfold cm at h
 cases g with
 | true =>
  simp only [T6,Tj] at h
  split at h
  ·rename_i hle
   cases h
   have hvl:=h1.len
   have hll:((vs.drop off).take s).length=s:=by simp;omega
   have hrun:=run_loadCells_list (P:=P) w ⟨b,o+off,none⟩ ((vs.drop off).take s) (fun j u hu=>by
    rw [add_lit]
    rw [Vs] at hu
    split at hu
    ·rw [Wu] at hu
     rw [Ww]
     exact h2 _ u hu
    ·cases hu)
   rw [hll] at hrun
   refine ⟨.agg ((vs.drop off).take s).toArray,by simp [loadVar,gy ha,cH hs,hrun],?_⟩
   simp only [VR]
   exact ⟨_,rfl,(hl.drop off).take s⟩
  ·cases h
 | false =>
  simp only [T0,T9,Ta] at h
  obtain ⟨x,hx,rfl⟩:=h
  obtain ⟨u,hu,hr⟩:=hl.at_ hx
  refine ⟨u,by simp [loadVar,gy ha,h2 off u hu],?_⟩
  simpa only [VR] using hr
theorem bJ {o:Option V} {r:cD} (h:(bf o).run ob=some r):∃ v,o=some v∧r=(v,[]):=by
 cases o with
 | none=>simp [bf,Q.opt,Q.bind,Q.run] at h
 | some v=>simp [bf,Q.opt,Q.bind,Q.run] at h;exact ⟨v,rfl,h.symm⟩
theorem aF {α:Type} {b:Bool} {q:Q α} {r:α} (h:(Q.guard b q).run ob=some r):b=true∧q.run ob=some r:=by
 rw [Q.run_guard] at h
 split at h
 ·exact ⟨‹_›,h⟩
 ·cases h
theorem am {α β:Type} {o:Option α} {f:α→Q β} {r:β} (h:((Q.opt o).bind f).run ob=some r):∃ a,o=some a∧(f a).run ob=some r:=by
 rw [Q.run_bind,Q.run_opt,Vg] at h
 exact h
theorem aH {α β:Type} {q:Q α} {f:α→Q β} {r:β} (h:(q.bind f).run ob=some r):∃ a,q.run ob=some a∧(f a).run ob=some r:=by
 rw [Q.run_bind,Vg] at h
 exact h
theorem Ap (hm:Mem w U ι ob) {x:V} {u:Value} {g:Bool} {s t:Nat} {r:cD} (hx:VR w U ι ob x u) (ha:dg P t=some g) (hs:bE P t=some s)
  (hr:(iZ g s x).run ob=some r):∃ (a:Addr) (u':Value),u=.pointer (some a)∧(loadVar t a).run P w=.ok u' w∧VR w U ι ob r.1 u'∧r.2=[]:=by
 unfold iZ at hr
 split at hr
 ·rename_i k off
  simp only [Q.run] at hr
  split at hr
  ·rename_i cells e hk
   obtain ⟨v,hv,rfl⟩:=bJ hr
   simp only [VR,LR] at hx
   obtain ⟨_,_,_,rfl⟩:=hx
   obtain ⟨cur,h1,h2,h3⟩:=hm.obj k _ hk
   have hcl:=h2.len
   obtain ⟨u,h4,h5⟩:=wm (P:=P) hv (cur:=cur.toList) (by rw [Vc (by omega)];exact h2) (by omega) h1 (o:=0) (fun j u hu=>by simpa using hu) ha hs
   rw [Tz] at h4
   exact ⟨_,u,rfl,h4,h5,rfl⟩
  ·simp [Q.run] at hr
 ·rename_i k i off c
  simp only [Q.run] at hr
  split at hr
  ·rename_i rows sz e own hk
   obtain ⟨hc,hr⟩:=aF hr
   obtain ⟨row,hrow,hr⟩:=am hr
   obtain ⟨v,hv,rfl⟩:=bJ hr
   simp only [VR,LR] at hx
   obtain ⟨rows',size',_,_,hk',hcl,h0,_⟩:=hx
   rw [hk] at hk'
   cases hk'
   obtain ⟨h0,rfl⟩:=h0 (by simpa using hc)
   obtain ⟨cur,h1,h2,h3,h4,h5,h6⟩:=hm.obj k _ hk
   have hcr:=(h5.at_ hrow).2
   obtain ⟨u,h7,h8⟩:=vy (P:=P) hv hcr ha hs
   rw [Tz] at h7
   exact ⟨_,u,rfl,h7,h8,rfl⟩
  ·simp [Q.run] at hr
 ·rename_i row off
  obtain ⟨v,hv,rfl⟩:=bJ hr
  simp only [VR,LR,DR] at hx
  obtain ⟨b,o,rfl,hu,hc⟩:=hx
  obtain ⟨u,h7,h8⟩:=vy (P:=P) hv hc ha hs
  exact ⟨_,u,rfl,h7,h8,rfl⟩
 ·simp [Q.run] at hr
theorem Cv (hm:Mem w U ι ob) {x:V} {u:Value} {g:Bool} {s t:Nat} {r:cD} (hx:VR w U ι ob x u) (ha:dg P t=some g) (hs:bE P t=some s)
  (hr:(iZ g s x).run ob=some r):io P w U ι ob (Instr.loadAt t u) r:=by
 obtain ⟨a,u',rfl,h1,h2,h3⟩:=Ap (P:=P) hm hx ha hs hr
 obtain ⟨v,us⟩:=r
 simp only at h3
 subst h3
 exact aO hm (by simpa [Instr.loadAt,Instr.sureAddr] using h1) h2
end
section
open Go.RowKit
variable {P:Program} {w:World} {U:Nat→Prop} {ι:Pl} {ob:Ob}
def BA (P:Program) (w:World) (U:Nat→Prop) (ι:Pl) (ob:Ob) (s:Sem Unit) (r:cD):Prop :=
 ∃ w' U' ι',s.run P w=.ok () w'∧Mem w' U' ι' (bk ob r.2)∧Evo w U ι ob w' U' ι' (bk ob r.2)∧r.1=.one .undef
theorem jg {α:Type} (xs ys:List α) (off:Nat) (h:off+ys.length≤xs.length) (j:Nat) :
  (xs.take off++ys++xs.drop (off+ys.length))[j]?=if j < off then xs[j]? else if j < off+ys.length then ys[j - off]? else xs[j]?:=by
 rw [To,List.getElem?_append]
 simp only [Vo,show min off xs.length=off by omega]
 split
 ·rw [Vs,T1 (by omega)]
 ·rw [List.getElem?_append]
  split
  ·rw [T1 (by omega)]
  ·rw [T5 (by omega),Wu]
   congr 1
   omega
theorem LF.splice {xs ys:List L} {vs us:List Value} (h:LF w U ι ob xs vs) (k:LF w U ι ob ys us) (off:Nat) :
  LF w U ι ob (xs.take off++ys++xs.drop (off+ys.length)) (vs.take off++us++vs.drop (off+us.length)):=by
 rw [k.len]
 exact ((h.take off).append k).append (h.drop _)
theorem jW (w:World) (g:Nat) (cs:Array Value):(w.setRow g cs).heap.size=w.heap.size:=by simp [World.setRow]
theorem yM (hm:Mem w U ι ob) {x:V} {u y:Value} {v:V} {cs:List L} {t:Nat} {r:cD} (hx:VR w U ι ob x u) (hv:VR w U ι ob v y) (hc:v.cells=some cs) (hs:bE P t=some cs.length)
  (hr:(jV x cs).run ob=some r):BA P w U ι ob (Instr.storeAt t u y) r:=by
 obtain ⟨hl,h1⟩:=VR.cells hv hc
 have hsz:y.cells.size=cs.length:=by have:=hl.len;simpa using this
 have hpre:∀ a,(storeVar t a y).run P w=(storeCells a y.cells.toList).run P w:=fun a=>by
  simp [storeVar,hsz,cH hs]
 unfold jV at hr
 split at hr
 ·rename_i cs0 k off
  simp only [Q.run] at hr
  split at hr
  ·rename_i cells e hk
   obtain ⟨hle,hr⟩:=aF hr
   simp only [Q.run,T3] at hr
   subst hr
   simp only [VR,LR] at hx
   obtain ⟨_,_,_,rfl⟩:=hx
   obtain ⟨cur,h2,h3,h4⟩:=hm.obj k _ hk
   have hle':off+cs.length≤cells.length:=by simpa using hle
   have hcl:=h3.len
   simp only [Wo] at hcl
   have hrun:=run_storeCells_at P (ι k).1 off e y.cells.toList 0 cur w h2 (by simp [hsz];omega) h1
   simp only [Wk] at hrun
   obtain ⟨m1,m2⟩:=eY (w':=w.setRow (ι k).1 (cur.toList.take off++y.cells.toList++cur.toList.drop (off+y.cells.toList.length)).toArray) hm k
    (.box (cells.take off++cs++cells.drop (off+cs.length)) e) (ι k) rfl rfl rfl (by rw [jW];exact Tf _)
    (fun b _ hb=>setRow_other _ _ _ _ (hb.resolve_left (by simp [hk]))) (fun o ho=>by rw [hk] at ho;cases ho;exact ⟨rfl,rfl,rfl⟩) (.inr ⟨by simp [hk],rfl⟩) rfl
    (fun e'=>by
     refine ⟨_,by rw [ap];exact setRow_heap _ _ _ _ _ _ h2,?_,by rw [ap];exact h4⟩
     simp only []
     exact LF.evo e' _ _ (h3.splice hl off))
   refine ⟨_,U,_,by simpa [Instr.storeAt,Instr.sureAddr,hpre] using hrun,m1,m2,rfl⟩
  ·simp [Q.run] at hr
 ·rename_i cs0 k i off c
  simp only [Q.run] at hr
  split at hr
  ·rename_i rows sz e own hk
   obtain ⟨hg,hr⟩:=aF hr
   simp only [Te,T4] at hg
   obtain ⟨hown,hcc⟩:=hg
   subst hown
   obtain ⟨row,hrow,hr⟩:=am hr
   obtain ⟨⟨ds,us⟩,hfr,hr⟩:=aH hr
   obtain ⟨hg2,hr⟩:=aF hr
   simp only [Te,T4,List.isEmpty_iff] at hg2
   obtain ⟨hle,rfl⟩:=hg2
   simp only [Q.run,T3] at hr
   subst hr
   have hds:∀ {xs:List L} {ds:List D},(ez xs).run ob=some (ds,[])→xs=ds.map .d:=by
    intro xs
    induction xs with
    | nil=>intro ds h;simp [ez,Q.run] at h;simp [←h]
    | cons x xs ih =>
     intro ds h
     simp only [ez] at h
     obtain ⟨⟨d,u1⟩,h1,h⟩:=aH h
     obtain ⟨⟨ds',u2⟩,h2,h⟩:=aH h
     simp only [Q.run,T3,Ty,List.append_eq_nil_iff] at h
     obtain ⟨rfl,rfl,rfl⟩:=h
     have:=ih h2
     subst this
     cases x with
     | d x=>simp [lC,Q.run] at h1;subst h1;rfl
     | slk k off n c =>
      simp only [lC,Q.run] at h1
      split at h1
      ·obtain ⟨_,h1⟩:=aF h1;simp [Q.run] at h1
      ·simp [Q.run] at h1
     | pa=>simp [lC,Q.run] at h1
     | ptr=>simp [lC,Q.run] at h1
     | fn=>simp [lC,Q.run] at h1
     | mk=>simp only [lC,Q.run] at h1;split at h1<;>simp [Q.run] at h1
     | undef=>simp [lC,Q.run] at h1
   have hcs:=hds hfr
   subst hcs
   simp only [VR,LR] at hx
   obtain ⟨rows',size',_,_,hk',_,h0,_⟩:=hx
   rw [hk] at hk'
   cases hk'
   obtain ⟨hic,rfl⟩:=h0 hcc
   obtain ⟨cur,h2,h3,h4,h5,h6,h7⟩:=hm.obj k _ hk
   have hrl:=(h6.at_ hrow).1
   have hi:i < rows.length:=(Tn.1 hrow).1
   have hisz:i*sz+sz≤cur.size:=by
    rw [h5]
    calc i*sz+sz=(i+1)*sz:=by rw [Wc];omega
     _≤(ι k).2*sz:=W7 _ (by omega)
   have hyl:y.cells.toList.length=ds.length:=by simpa using hsz
   have hrun:=run_storeCells_at P (ι k).1 (i*sz+off) e y.cells.toList 0 cur w h2 (by rw [hyl];omega) h1
   simp only [Wk] at hrun
   have hsz':(cur.toList.take (i*sz+off)++y.cells.toList++cur.toList.drop (i*sz+off+y.cells.toList.length)).length=cur.size:=by
    simp only [Tp,Vo,Xh,Wo,hyl];omega
   have hFR:FR w U ds y.cells.toList:=by
    have key:∀ {ds:List D} {vs:List Value},LF w U ι ob (ds.map .d) vs→FR w U ds vs:=by
     intro ds
     induction ds with
     | nil=>intro vs h;simpa [LF,FR] using h
     | cons d ds ih=>intro vs h;simp only [Tl,LF,LR] at h;obtain ⟨v,vs',rfl,h1,h2⟩:=h;simp only [FR];exact ⟨v,vs',rfl,h1,ih h2⟩
    exact key hl
   obtain ⟨m1,m2⟩:=eY (w':=w.setRow (ι k).1 (cur.toList.take (i*sz+off)++y.cells.toList++cur.toList.drop (i*sz+off+y.cells.toList.length)).toArray) hm k
    (.arr (rows.set i (row.take off++ds++row.drop (off+ds.length))) sz e true) (ι k) rfl rfl rfl (by rw [jW];exact Tf _)
    (fun b _ hb=>setRow_other _ _ _ _ (hb.resolve_left (by simp [hk]))) (fun o ho=>by rw [hk] at ho;cases ho;exact ⟨rfl,rfl,rfl,by simp,fun _=>rfl⟩) (.inr ⟨by simp [hk],rfl⟩) rfl
    (fun e'=>by
     refine ⟨_,by rw [ap];exact setRow_heap _ _ _ _ _ _ h2,by rw [ap];simpa using h3,by rw [ap];exact h4,by rw [ap];simpa [h5] using hsz',?_,by rw [ap];exact h7⟩
     rw [ap]
     refine RR.mk fun j r hj=>?_
     have hcell:∀ q,(w.setRow (ι k).1 (cur.toList.take (i*sz+off)++y.cells.toList++cur.toList.drop (i*sz+off+y.cells.toList.length)).toArray).cell? ⟨(ι k).1,q,none⟩ =
       if q < i*sz+off then cur[q]? else if q < i*sz+off+ds.length then y.cells.toList[q - (i*sz+off)]? else cur[q]?:=fun q=>by
      rw [bG (setRow_heap _ _ _ _ _ _ h2)]
      have:=jg cur.toList y.cells.toList (i*sz+off) (by rw [hyl];simp;omega) q
      simp only [List.getElem?_toArray]
      rw [this,hyl]
      simp
     rw [List.getElem?_set] at hj
     have old:∀ {j:Nat} {r:List D},rows[j]?=some r→j≠i→r.length=sz∧CR (w.setRow (ι k).1 (cur.toList.take (i*sz+off)++y.cells.toList++cur.toList.drop (i*sz+off+y.cells.toList.length)).toArray) U (ι k).1 (0+j*sz) r:=by
      intro j r hj hne
      obtain ⟨hl2,hc2⟩:=h6.at_ hj
      refine ⟨hl2,CR.mk fun q x hq=>?_⟩
      obtain ⟨u,hu,hd⟩:=hc2.at_ hq
      have hql:q < sz:=by rw [←hl2];exact (Tn.1 hq).1
      refine ⟨u,?_,DR.mono e'.kept e'.sub x u hd⟩
      rw [bG h2] at hu
      rw [hcell]
      have:0+j*sz+q < i*sz∨i*sz+sz≤0+j*sz+q:=by
       rcases Nat.lt_or_gt_of_ne hne with h | h
       ·left
        have:(j+1)*sz≤i*sz:=W7 _ h
        rw [Wc] at this;omega
       ·right
        have:(i+1)*sz≤j*sz:=W7 _ h
        rw [Wc] at this;omega
      split
      ·exact hu
      ·rw [T5 (by omega)];exact hu
     split at hj
     ·rename_i hij
      subst hij
      try rw [T1 hi] at hj
      cases hj
      obtain ⟨hl2,hc2⟩:=h6.at_ hrow
      refine ⟨by simp only [Tp,Vo,Xh];omega,CR.mk fun q x hq=>?_⟩
      rw [jg _ _ _ hle] at hq
      rw [hcell]
      split at hq
      ·rename_i hlt
       obtain ⟨u,hu,hd⟩:=hc2.at_ hq
       rw [bG h2] at hu
       exact ⟨u,by rw [T1 (by omega)];exact hu,DR.mono e'.kept e'.sub x u hd⟩
      ·split at hq
       ·obtain ⟨u,hu,hd⟩:=hFR.at_ hq
        refine ⟨u,?_,DR.mono e'.kept e'.sub x u hd⟩
        rw [T5 (by omega),T1 (by omega)]
        rw [←hu];congr 1;omega
       ·obtain ⟨u,hu,hd⟩:=hc2.at_ hq
        rw [bG h2] at hu
        exact ⟨u,by rw [T5 (by omega),T5 (by omega)];exact hu,DR.mono e'.kept e'.sub x u hd⟩
     ·rename_i hij
      exact old hj (fun e=>hij e.symm))
   refine ⟨_,U,_,by simpa [Instr.storeAt,Instr.sureAddr,hpre] using hrun,m1,m2,rfl⟩
  ·simp [Q.run] at hr
 ·simp [Q.run] at hr
theorem wq (cs:List Value):∀ (vs:List Value) (off i:Nat) (arr:Array Value),arr.toList=cs→off+i+vs.length≤cs.length →
  ((vs.zipIdx i).foldl (fun a (p:Value×Nat)=>a.setIfInBounds (off+p.2) p.1) arr).toList=cs.take (off+i)++vs++cs.drop (off+i+vs.length):=by
 intro vs
 induction vs generalizing cs with
 | nil=>intro off i arr h _;simp [h]
 | cons v vs ih =>
  intro off i arr h hl
  simp only [Tb] at hl
  simp only [Xt,List.foldl_cons]
  rw [ih (cs.set (off+i) v) off (i+1) (arr.setIfInBounds (off+i) v) (by simp [h]) (by simp;omega)]
  apply Wz
  intro j
  have e1:=jg (cs.set (off+i) v) vs (off+(i+1)) (by simp;omega) j
  have e2:=jg cs (v::vs) (off+i) (by simp;omega) j
  rw [e1,e2]
  simp only [Tb]
  by_cases h1:j < off+i
  ·rw [T1 (by omega),T1 h1,List.getElem?_set_ne (by omega)]
  ·by_cases h2:j=off+i
   ·subst h2
    rw [T1 (by omega),T5 (by omega),T1 (by omega),List.getElem?_set_self (by omega)]
    simp
   ·rw [T5 (by omega),T5 h1]
    by_cases h3:j < off+(i+1)+vs.length
    ·rw [T1 h3,T1 (by omega)]
     rw [show j - (off+i)=(j - (off+(i+1)))+1 by omega]
     simp
    ·rw [T5 h3,T5 (by omega),List.getElem?_set_ne (by omega)]
theorem AS {place:Nat→Option (Nat×Nat)}:∀ {parts:List (Nat×V)} {parts':List (Nat×Value)} {cells cs':List L} {arr:Array Value},
  j4 place cells parts=some cs'→LF w U ι ob cells arr.toList→parts.length=parts'.length →
  (∀ (j:Nat) (p:Nat×V) (p':Nat×Value),parts[j]?=some p→parts'[j]?=some p'→p.1=p'.1∧VR w U ι ob p.2 p'.2) →
  ∃ arr',Instr.fill place arr parts'=some arr'∧LF w U ι ob cs' arr'.toList
 | [],[],cells,cs',arr,h,hl,_,_=>by simp [j4] at h;subst h;exact ⟨arr,rfl,hl⟩
 | [],_::_,_,_,_,_,_,hn,_=>by simp at hn
 | _::_,[],_,_,_,_,_,hn,_=>by simp at hn
 | (i,v)::rest,(i',v')::rest',cells,cs',arr,h,hl,hn,hp=>by
  obtain ⟨hi,hv⟩:=hp 0 _ _ rfl rfl
  simp only at hi hv
  subst hi
  simp only [j4] at h
  split at h
  ·rename_i off size cs hpl hcs
   split at h
   ·rename_i hsz
    obtain ⟨rfl,hsz⟩:=hsz
    obtain ⟨hvl,_⟩:=VR.cells hv hcs
    have hvs:v'.cells.size=cs.length:=by have:=hvl.len;simpa using this
    have hal:arr.size=cells.length:=by have:=hl.len;simpa using this
    have hfold:=wq arr.toList v'.cells.toList off 0 arr rfl (by simp [hvs,hal];omega)
    simp only [Wk] at hfold
    have hzip:v'.cells.zipIdx.foldl (fun cs (x:Value×Nat)=>cs.setIfInBounds (off+x.2) x.1) arr=(v'.cells.toList.zipIdx 0).foldl (fun a (p:Value×Nat)=>a.setIfInBounds (off+p.2) p.1) arr:=by
     rw [←Array.foldl_toList,Array.toList_zipIdx]
    obtain ⟨arr',h1,h2⟩:=AS (arr:=v'.cells.zipIdx.foldl (fun cs (x:Value×Nat)=>cs.setIfInBounds (off+x.2) x.1) arr) h (by
      rw [hzip,hfold]
      exact hl.splice hvl off) (by simpa using hn) (fun j p p' h1 h2=>hp (j+1) p p' (by simpa using h1) (by simpa using h2))
    refine ⟨arr',?_,h2⟩
    simp only [Instr.fill,hpl]
    rw [T5 (by simp [hvs,hal];omega)]
    exact h1
   ·cases h
  ·cases h
theorem lE {α β:Type} {f:α→Sem β} {g:α→β}:∀ {l:List α},(∀ a∈l,(f a).run P w=.ok (g a) w)→(l.mapM f).run P w=.ok (l.map g) w
 | [],_=>by simp
 | a::l,h=>by
  have ih:=lE (l:=l) (fun x hx=>h x (by simp [hx]))
  simp [Xr,h a (by simp),ih]
theorem yO (hm:Mem w U ι ob) {t:Nat} {zs:List Value} {parts:List (Nat×V)} {parts':Array (Nat×Value)} {r:cD} (hz:cE P t=some zs) (ha:dg P t=some true) (hlay:Ef P t=true)
  (hn:parts.length=parts'.size) (hp:∀ (j:Nat) (p:Nat×V) (p':Nat×Value),parts[j]?=some p→parts'[j]?=some p'→p.1=p'.1∧VR w U ι ob p.2 p'.2)
  (hr:(bf ((j4 (kf P t) (gr zs) parts).map .agg)).run ob=some r):io P w U ι ob (Instr.build t parts') r:=by
 obtain ⟨v,hv,rfl⟩:=bJ hr
 simp only [Ta] at hv
 obtain ⟨cs',hf,rfl⟩:=hv
 obtain ⟨z,h1,h2,h3⟩:=tI (w:=w) hz
 have hl:LF w U ι ob (gr zs) z.cells.toList:=by rw [h2];exact kx h3
 simp only [dg,Ta] at ha
 obtain ⟨d,hd,hda⟩:=ha
 have ni:∀ (place:Nat→Option (Nat×Nat)),(∀ i x,kf P t i=some x→place i=some x)→∃ arr,Instr.fill place z.cells parts'.toList=some arr∧LF w U ι ob cs' arr.toList:=by
  intro place hpl
  have hf':j4 place (gr zs) parts=some cs':=by
   have mono:∀ {ps:List (Nat×V)} {c c':List L},j4 (kf P t) c ps=some c'→j4 place c ps=some c':=by
    intro ps
    induction ps with
    | nil=>intro c c' h;simpa [j4] using h
    | cons q ps ih =>
     obtain ⟨i,v⟩:=q
     intro c c' h
     simp only [j4] at h ⊢
     split at h
     ·rename_i off size cs h1 h2
      rw [hpl _ _ h1,h2]
      split at h
      ·rename_i hh;simp only [];rw [T1 hh];exact ih h
      ·cases h
     ·cases h
   exact mono hf
  exact AS hf' hl (by simpa using hn) (fun j p p' a b=>hp j p p' a (by simpa using b))
 cases d with
 | struct fs =>
  have hlay':∀ f∈fs.toList,(bE P f.type).isSome=true:=by
   unfold Ef at hlay
   rw [hd] at hlay
   exact V4.1 hlay
  have hmap:((fs.mapM fun f=>do pure (f.offset,← sizeOf f.type):Sem (Array (Nat×Nat)))).run P w=.ok (fs.toList.map fun f=>(f.offset,(bE P f.type).getD 0)).toArray w:=by
   rw [Array.mapM_eq_mapM_toList,Sem.run_map,lE (g:=fun f=>(f.offset,(bE P f.type).getD 0))]
   ·rfl
   ·intro f hf
    obtain ⟨s,hs⟩:=W3.1 (hlay' f hf)
    simp [cH hs,hs]
  obtain ⟨arr,hfa,hla⟩:=ni ((fs.toList.map fun f=>(f.offset,(bE P f.type).getD 0)).toArray[·]?) (fun i x hx=>by
   simp only [kf,ul,hd,jD] at hx
   cases hfi:fs[i]? with
   | none=>simp [hfi] at hx
   | some f =>
    have hmem:f∈fs.toList:=by
     have:=Array.mem_of_getElem? hfi
     simpa using this
    obtain ⟨s,hs⟩:=W3.1 (hlay' f hmem)
    simp only [hfi,hs] at hx
    split at hx
    ·rename_i s' g he hg
     cases he
     split at hx
     ·simp at hx
     ·simp at hx
      subst hx
      simp [hfi,hs]
    ·simp at hx)
  refine aO hm (u:=.agg arr) ?_ (by simp only [VR];exact ⟨arr,rfl,hla⟩)
  simp only [Instr.build]
  rw [Sem.run_bind,h1,Result.andThen_ok,Sem.run_bind,run_underlying hd,Result.andThen_ok]
  simp only []
  rw [Sem.run_bind,hmap,Result.andThen_ok]
  simp only [hfa]
  rfl
 | array n e =>
  have hlay':(bE P e).isSome=true:=by simpa [Ef,hd] using hlay
  ·obtain ⟨s,hs⟩:=W3.1 hlay'
   obtain ⟨arr,hfa,hla⟩:=ni (fun i=>some (i*s,s)) (fun i x hx=>by
    simp only [kf,ul,hd,hs,Th] at hx
    exact hx)
   refine aO hm (u:=.agg arr) ?_ (by simp only [VR];exact ⟨arr,rfl,hla⟩)
   simp [Instr.build,h1,run_underlying hd,cH hs,hfa]
 | _=>simp [iH] at hda
end
section
open Go.RowKit
variable {P:Program} {w:World} {U:Nat→Prop} {ι:Pl} {ob:Ob}
def SameBut (ob ob1:Ob):Prop:=(∀ k rows size elem own,ob k=some (.arr rows size elem own)→∃ own',ob1 k=some (.arr rows size elem own'))∧(∀ k agg keys vals own,ob k=some (.mp agg keys vals own)→∃ own',ob1 k=some (.mp agg keys vals own'))∧(∀ k,ob k=none→ob1 k=none)
theorem SameBut.refl (ob:Ob):SameBut ob ob:=⟨fun _ _ _ _ own h=>⟨own,h⟩,fun _ _ _ _ own h=>⟨own,h⟩,fun _ h=>h⟩
theorem SameBut.freeze {ob1:Ob} (h:SameBut ob ob1) {k:Nat} {ok:O} (hk:ob k=some ok) (hnb:ok.isBox=false):SameBut ob (cx ob1 k ok.shut):=by
 refine ⟨?_,?_,?_⟩
 ·intro j r s e o hj
  by_cases hjk:j=k
  ·subst hjk;rw [hk] at hj;cases hj;exact ⟨false,bp _ _ _⟩
  ·obtain ⟨o',h'⟩:=h.1 j r s e o hj
   exact ⟨o',by rw [aB _ _ hjk];exact h'⟩
 ·intro j agg keys vals o hj
  by_cases hjk:j=k
  ·subst hjk;rw [hk] at hj;cases hj;exact ⟨false,bp _ _ _⟩
  ·obtain ⟨o',h'⟩:=h.2.1 j agg keys vals o hj
   exact ⟨o',by rw [aB _ _ hjk];exact h'⟩
 ·intro j hj
  have hjk:j≠k:=by rintro rfl;rw [hk] at hj;cases hj
  rw [aB _ _ hjk];exact h.2.2 j hj
theorem bO (ob:Ob) (u u':List (Nat×O)):bk ob (u++u')=bk (bk ob u) u':=by
 induction u generalizing ob with
 | nil=>rfl
 | cons x u ih=>obtain ⟨k,o⟩:=x;simp only [Tr,bk];exact ih _
theorem vk (hm:Mem w U ι ob) {k off n c:Nat} {v:Value} (h:LR w U ι ob (.slk k off n c) v) {rows:List (List D)} {size elem:Nat} {own:Bool} (hk:ob k=some (.arr rows size elem own)) (hc:c=rows.length)
  {U':Nat→Prop} (hU:∀ b,U b→U' b) (hb:U' (ι k).1):DR w U' (.sl size ((rows.drop off).take n)) v:=by
 simp only [LR] at h
 obtain ⟨rows',size',elem',own',hk',_,h1,_⟩:=h
 rw [hk] at hk'
 cases hk'
 obtain ⟨h1,rfl⟩:=h1 hc
 obtain ⟨cur,h2,h3,h4,h5,h6,h7⟩:=hm.obj k _ hk
 have hlen:((rows.drop off).take n).length=n:=by simp;omega
 simp only [DR]
 refine ⟨⟨(ι k).1,off*size,none⟩,(ι k).2 - off,by rw [hlen],by rw [hlen];omega,by omega,fun _=>⟨(ι k).1,off*size,rfl,hb,?_⟩⟩
 have:=((h6.drop off).take n)
 rw [Tz] at this
 exact RR.mono (fun _ _=>rfl) hU _ rfl _ _ _ this
theorem jA:∀ {cs:List L} {vs:List Value} {ds:List D} {us:List (Nat×O)} {ob1:Ob} {U1:Nat→Prop},(ez cs).run ob=some (ds,us)→SameBut ob ob1→Mem w U1 ι ob1→LF w U1 ι ob1 cs vs →
  ∃ U',Mem w U' ι (bk ob1 us)∧Evo w U1 ι ob1 w U' ι (bk ob1 us)∧FR w U' ds vs∧SameBut ob (bk ob1 us)
 | [],vs,ds,us,ob1,U1,h,hs,hm,hl=>by
  simp only [ez,Q.run,T3,Ty] at h
  obtain ⟨rfl,rfl⟩:=h
  simp only [LF] at hl
  subst hl
  exact ⟨U1,hm,Evo.refl _ _ _ _,by simp [FR],hs⟩
 | x::xs,vs,ds,us,ob1,U1,h,hs,hm,hl=>by
  simp only [ez] at h
  obtain ⟨⟨d,u1⟩,h1,h⟩:=aH h
  obtain ⟨⟨ds',u2⟩,h2,h⟩:=aH h
  simp only [Q.run,T3,Ty] at h
  obtain ⟨rfl,rfl⟩:=h
  simp only [LF] at hl
  obtain ⟨v,vs',rfl,hv,hl⟩:=hl
  have step:∃ U2,Mem w U2 ι (bk ob1 u1)∧Evo w U1 ι ob1 w U2 ι (bk ob1 u1)∧DR w U2 d v∧SameBut ob (bk ob1 u1):=by
   cases x with
   | d x =>
    simp only [lC,Q.run,T3,Ty] at h1
    obtain ⟨rfl,rfl⟩:=h1
    exact ⟨U1,hm,Evo.refl _ _ _ _,by simpa only [LR] using hv,hs⟩
   | slk k off n c =>
    simp only [lC,Q.run] at h1
    split at h1
    ·rename_i rows size elem own hk
     obtain ⟨hc,h1⟩:=aF h1
     simp only [Q.run,T3,Ty] at h1
     obtain ⟨rfl,rfl⟩:=h1
     obtain ⟨own',hk1⟩:=hs.1 _ _ _ _ _ hk
     obtain ⟨m1,m2⟩:=qf hm hk1 rfl
     exact ⟨_,m1,m2,vk hm hv hk1 (by simpa using hc) (fun b hb=>.inl hb) (.inr rfl),hs.freeze hk rfl⟩
    ·simp [Q.run] at h1
   | pa=>simp [lC,Q.run] at h1
   | ptr=>simp [lC,Q.run] at h1
   | fn=>simp [lC,Q.run] at h1
   | mk k =>
    simp only [lC,Q.run] at h1
    split at h1
    ·rename_i agg keys vals own hk
     simp only [Q.run,T3,Ty] at h1
     obtain ⟨rfl,rfl⟩:=h1
     obtain ⟨own',hk1⟩:=hs.2.1 _ _ _ _ _ hk
     obtain ⟨m1,m2⟩:=qf hm hk1 rfl
     simp only [LR] at hv
     obtain ⟨_,_,_,_,h2,rfl⟩:=hv
     rw [hk1] at h2
     cases h2
     obtain ⟨es,clock,h3,h4,h5⟩:=hm.obj _ _ hk1
     refine ⟨_,m1,m2,?_,hs.freeze hk rfl⟩
     simp only [DR]
     exact ⟨_,es,clock,rfl,.inr rfl,h3,KR.mono m2.kept m2.sub _ _ _ _ h4⟩
    ·simp [Q.run] at h1
   | undef=>simp [lC,Q.run] at h1
  obtain ⟨U2,m1,m2,m3,m4⟩:=step
  obtain ⟨U3,m5,m6,m7,m8⟩:=jA h2 m4 m1 (LF.evo m2 _ _ hl)
  refine ⟨U3,by rw [bO];exact m5,by rw [bO];exact m2.trans m6,?_,by rw [bO];exact m8⟩
  simp only [FR]
  exact ⟨v,vs',rfl,DR.mono m6.kept m6.sub _ _ m3,m7⟩
theorem FR.mono' {w':World} {U':Nat→Prop} {ob':Ob} {ι':Pl} (e:Evo w U ι ob w' U' ι' ob') {xs:List D} {vs:List Value} (h:FR w U xs vs):FR w' U' xs vs:=FR.mono e.kept e.sub _ _ h
theorem FR.take {xs:List D} {vs:List Value} (h:FR w U xs vs) (n:Nat):FR w U (xs.take n) (vs.take n):=by
 induction xs generalizing vs n with
 | nil=>simp only [FR] at h;simp [h,FR]
 | cons x xs ih =>
  simp only [FR] at h;obtain ⟨v,vs',rfl,h1,h2⟩:=h
  cases n with
  | zero=>simp [FR]
  | succ n=>simp only [Tg,FR];exact ⟨v,_,rfl,h1,ih h2 n⟩
theorem FR.drop {xs:List D} {vs:List Value} (h:FR w U xs vs) (n:Nat):FR w U (xs.drop n) (vs.drop n):=by
 induction xs generalizing vs n with
 | nil=>simp only [FR] at h;simp [h,FR]
 | cons x xs ih =>
  simp only [FR] at h;obtain ⟨v,vs',rfl,h1,h2⟩:=h
  cases n with
  | zero=>simp only [Y0,FR];exact ⟨v,_,rfl,h1,h2⟩
  | succ n=>simpa using ih h2 n
theorem wt {rows:List (List D)} {size i:Nat} {r:List D} (h:∀ r∈rows,r.length=size) (hi:i < rows.length) (hr:r.length=size) :
  (rows.set i r).flatten=rows.flatten.take (i*size)++r++rows.flatten.drop (i*size+size):=by
 induction rows generalizing i with
 | nil=>simp at hi
 | cons x rows ih =>
  have hx:x.length=size:=h x (by simp)
  cases i with
  | zero=>simp [←hx]
  | succ i =>
   have:=ih (fun y hy=>h y (by simp [hy])) (i:=i) (by simpa using hi)
   simp only [List.set_cons_succ,List.flatten_cons,this]
   have e1:(i+1)*size=size+i*size:=by rw [Wc];omega
   rw [e1,List.take_append,List.drop_append]
   simp only [hx,Vc (show x.length≤size+i*size by omega),show size+i*size - size=i*size by omega,show size+i*size+size - size=i*size+size by omega,List.drop_of_length_le (show x.length≤size+i*size+size by omega)]
   simp [To]
theorem s7 {ρ:Operand→V} {ρ':Operand→Value} {size:Nat}:∀ {parts:List (Nat×Operand)} {rows rows':List (List D)} {us:List (Nat×O)} {ob1:Ob} {U1:Nat→Prop} {arr:Array Value},
  (dl ρ size rows parts).run ob=some (rows',us)→SameBut ob ob1→Mem w U1 ι ob1→(∀ x,VR w U1 ι ob1 (ρ x) (ρ' x))→(∀ r∈rows,r.length=size)→FR w U1 rows.flatten arr.toList →
  ∃ U' arr',Mem w U' ι (bk ob1 us)∧Evo w U1 ι ob1 w U' ι (bk ob1 us)∧Instr.fill (fun i=>some (i*size,size)) arr (parts.map fun p=>(p.1,ρ' p.2))=some arr'∧FR w U' rows'.flatten arr'.toList∧(∀ r∈rows',r.length=size)∧rows'.length=rows.length∧SameBut ob (bk ob1 us)
 | [],rows,rows',us,ob1,U1,arr,h,hs,hm,hρ,hr,hf=>by
  simp only [dl,Q.run,T3,Ty] at h
  obtain ⟨rfl,rfl⟩:=h
  exact ⟨U1,arr,hm,Evo.refl _ _ _ _,rfl,hf,hr,rfl,hs⟩
 | (i,x)::rest,rows,rows',us,ob1,U1,arr,h,hs,hm,hρ,hr,hf=>by
  simp only [dl] at h
  obtain ⟨cs,hcs,h⟩:=am h
  obtain ⟨hg,h⟩:=aF h
  obtain ⟨⟨ds,u1⟩,h1,h⟩:=aH h
  obtain ⟨⟨rows2,u2⟩,h2,h⟩:=aH h
  simp only [Q.run,T3,Ty] at h
  obtain ⟨rfl,rfl⟩:=h
  simp only [T4] at hg
  obtain ⟨hlen,hi⟩:=hg
  obtain ⟨hl,_⟩:=VR.cells (hρ x) hcs
  obtain ⟨U2,m1,m2,m3,m4⟩:=jA h1 hs hm hl
  have hds:ds.length=size:=by rw [←m3.len,hl.len,hlen]
  have hvs:(ρ' x).cells.size=size:=by have:=hl.len;simp at this;omega
  have hflen:=cF hr
  have hal:arr.size=rows.length*size:=by have:=hf.len;rw [hflen] at this;simpa using this
  have hisz:i*size+size≤rows.length*size:=by
   calc i*size+size=(i+1)*size:=by rw [Wc];omega
    _≤rows.length*size:=W7 _ hi
  have hfold:=wq arr.toList (ρ' x).cells.toList (i*size) 0 arr rfl (by simp [hvs,hal];omega)
  simp only [Wk] at hfold
  have hzip:(ρ' x).cells.zipIdx.foldl (fun cs (y:Value×Nat)=>cs.setIfInBounds (i*size+y.2) y.1) arr=((ρ' x).cells.toList.zipIdx 0).foldl (fun a (p:Value×Nat)=>a.setIfInBounds (i*size+p.2) p.1) arr:=by
   rw [←Array.foldl_toList,Array.toList_zipIdx]
  have hf2:FR w U2 (rows.set i ds).flatten ((ρ' x).cells.zipIdx.foldl (fun cs (y:Value×Nat)=>cs.setIfInBounds (i*size+y.2) y.1) arr).toList:=by
   rw [hzip,hfold,wt hr hi hds]
   have:=FR.mono' m2 hf
   have hcl:(ρ' x).cells.toList.length=size:=by simpa using hvs
   rw [hcl]
   exact ((this.take _).append m3).append (this.drop _)
  obtain ⟨U3,arr',m5,m6,m7,m8,m9,m10,m11⟩:=s7 (arr:=(ρ' x).cells.zipIdx.foldl (fun cs (y:Value×Nat)=>cs.setIfInBounds (i*size+y.2) y.1) arr) h2 m4 m1 (fun y=>VR.evo m2 _ _ (hρ y)) (fun r hr'=>by
   rcases List.mem_or_eq_of_mem_set hr' with h | h
   ·exact hr r h
   ·rw [h];exact hds) hf2
  refine ⟨U3,arr',by rw [bO];exact m5,by rw [bO];exact m2.trans m6,?_,m8,m9,by rw [m10,Wq],by rw [bO];exact m11⟩
  simp only [Tl,Instr.fill]
  rw [T5 (by simp [hvs,hal];omega)]
  exact m7
theorem gx {zs:List Value} (h:zs.all plain=true):∀ n,FR w U (List.replicate n (zs.map D.lit)).flatten (List.replicate n zs).flatten:=by
 have one:∀ {zs:List Value},zs.all plain=true→FR w U (zs.map D.lit) zs:=by
  intro zs
  induction zs with
  | nil=>intro _;simp [FR]
  | cons z zs ih=>intro h;simp at h;simp only [Tl,FR];exact ⟨z,zs,rfl,OA h.1,ih (by simpa using h.2)⟩
 intro n
 induction n with
 | zero=>simp [FR]
 | succ n ih=>simp only [List.replicate_succ,List.flatten_cons];exact (one h).append ih
theorem gA {z:Array Value} {size n:Nat} (hz:z.size=size) (_:0 < size):((Array.range (n*size)).map (fun i=>z[i % z.size]!)).toList=(List.replicate n z.toList).flatten:=by
 induction n with
 | zero=>simp
 | succ n ih =>
  rw [List.replicate_succ',Wp,← ih]
  simp only [X7,Array.toList_range,List.flatten_cons,List.flatten_nil,Tt]
  rw [show (n+1)*size=n*size+size by rw [Wc];omega,List.range_add,X0]
  congr 1
  apply Wz
  intro j
  simp only [Vv,Tm]
  by_cases hj:j < size
  ·rw [X3 hj]
   simp only [Th,Function.comp,hz]
   rw [Nat.add_comm,Nat.add_mul_mod_self_right,Nat.mod_eq_of_lt hj]
   simp [hz,hj,getElem!_pos]
  ·rw [Ve (by simpa using hj),Ve (by simp [hz];omega)]
   rfl
theorem uk (hm:Mem w U ι ob) {dst:Option Nat} {rows:List (List D)} {size e n cap:Nat} {r:cD} {arr:Array Value} {s:Sem Value} (w':World) (hw:w'=w∨w'=w.drew)
  (hr:(fresh dst (.arr rows size e true) fun k=>.one (.slk k 0 n n)).run ob=some r) (hn:n=rows.length) (hcap:n≤cap) (hmax:cap≤maxLen) (hsz:arr.size=cap*size)
  (hrows:∀ r∈rows,r.length=size) (hf:∃ vs:List Value,FR w U rows.flatten vs∧∀ (j:Nat) (u:Value),vs[j]?=some u→arr[j]?=some u)
  (hrun:s.run P w=.ok (.slice (some ⟨w.heap.size,0,none⟩) n cap) (w'.alloc (.cells arr e))):io P w U ι ob s r:=by
 unfold fresh at hr
 cases dst with
 | none=>simp [Q.run] at hr
 | some k =>
  simp only [Q.run] at hr
  cases hk:ob k with
  | some o=>simp [hk,Q.run] at hr
  | none =>
   simp only [hk,Q.run,T3] at hr
   subst hr
   have hh:w'.heap=w.heap:=by rcases hw with rfl | rfl<;>rfl
   have hos:w'.os=w.os∧w'.tape=w.tape∧w'.output=w.output:=by rcases hw with rfl | rfl<;>exact ⟨rfl,rfl,rfl⟩
   have hnew:(w'.alloc (.cells arr e)).heap[w.heap.size]?=some (.cells arr e (0,0)):=by
    have:=heap_alloc_new w' (.cells arr e)
    rwa [hh] at this
   obtain ⟨h1,h2⟩:=eY (w':=w'.alloc (.cells arr e)) hm k (.arr rows size e true) (w.heap.size,cap) hos.1 hos.2.1 hos.2.2 (by simp [hh]) (fun b hb _=>by
    show (w'.heap.push _)[b]?=_
    rw [hh,Array.getElem?_push,T5 (by omega)]) (fun o' h=>by rw [hk] at h;cases h) (.inl (Tf _)) rfl (fun e'=>by
     refine ⟨arr,by rw [ap];exact hnew,by rw [ap];simpa [←hn] using hcap,by rw [ap];exact hmax,by rw [ap];exact hsz,?_,by rw [ap];simp;intro hU;exact absurd (hm.lt _ hU) (by simp)⟩
     rw [ap]
     obtain ⟨vs,hv1,hv2⟩:=hf
     exact eu.2 ⟨hrows,vs,FR.mono' e' hv1,fun j u hu=>by rw [bG hnew,Tz];exact hv2 j u hu⟩)
   refine ⟨_,_,U,_,hrun,h1,h2,?_⟩
   simp only [VR,LR]
   refine ⟨rows,size,e,true,bp _ _ _,by omega,fun _=>⟨by omega,by rw [ap];simp⟩,_,_,rfl,hcap,hmax⟩
end
section
open Go.RowKit
variable {P:Program} {w:World} {U:Nat→Prop} {ι:Pl} {ob:Ob}
theorem lP {t s:Nat} (h:bE P t=some s):∃ i,P.info? t=some i∧i.size=s:=by
 simpa [bE,Ta] using h
theorem kL {t s:Nat} (h:ia P t=some s):∃ i,P.info? t=some i∧i.bytes=s:=by
 simpa [ia,Ta] using h
theorem gv {x:V} {u:Value} {p:IntKind×Int} (hx:VR w U ι ob x u) (h:vInt? x=some p):u=.int p.1 p.2:=by
 unfold vInt? at h
 split at h
 ·simp only [T3] at h;subst h;simp only [VR,LR,DR] at hx;exact hx.1
 ·cases h
theorem Db {x:V} {u:Value} {b:Bool} (hx:VR w U ι ob x u) (h:vBool? x=some b):u=.bool b:=by
 unfold vBool? at h
 split at h
 ·simp only [T3] at h;subst h;simp only [VR,LR,DR] at hx;exact hx.1
 ·cases h
theorem tV {x:V} {u v:Value} (hx:VR w U ι ob x u) (h:x.lit?=some v):u=v∧plain v=true:=by
 unfold V.lit? at h
 split at h
 ·simp only [T3] at h;subst h;simpa only [VR,LR,DR] using hx
 ·cases h
theorem bW {v:Value} (h:plain v=true):VR w U ι ob (cO v) v:=by simp [cO,VR,LR,DR,h]
theorem qw (hm:Mem w U ι ob) {dst:Option Nat} {t e s bs:Nat} {zs:List Value} {k:IntKind} {n:Int} {r:cD} (he:cp P t=some e) (hs:bE P e=some s) (hz:cE P e=some zs) (hb:ia P e=some bs)
  (hs0:0 < s) (hzl:zs.length=s) (h0:0≤n) (hbn:(bs:Int)*n≤140737488355328) (h63:n≤9223372036854775807)
  (hr:(fresh dst (.arr (List.replicate n.toNat (zs.map .lit)) s e true) fun k=>.one (.slk k 0 n.toNat n.toNat)).run ob=some r):io P w U ι ob (Instr.makeSlice t (.int k n) (.int k n)) r:=by
 obtain ⟨i,z,hi,hz',hz1,hz2⟩:=fq hz
 obtain ⟨i',hi',hs'⟩:=lP hs
 obtain ⟨i'',hi'',hb'⟩:=kL hb
 rw [hi] at hi' hi''
 cases hi';cases hi''
 have hrun:=run_make (P:=P) w t e i z (eB he) hi hz' k k n n h0 (Xz _) (by rw [hb'];omega) h63
 rw [hs'] at hrun
 have hzsz:z.cells.size=s:=by rw [←hzl,← hz1];simp
 refine uk hm w (.inl rfl) hr (by simp) (Tf _) (by simp [maxLen];omega) (by rw [size_madeCells]) (by intro r hr;rw [List.eq_of_mem_replicate hr];simpa using hzl) ⟨(List.replicate n.toNat zs).flatten,gx hz2 _,?_⟩ hrun
 intro j u hu
 have:=gA (z:=z.cells) (n:=n.toNat) hzsz hs0
 rw [hz1] at this
 rw [←this] at hu
 have:=(Xo (xs:=madeCells z.cells (n.toNat*s)) (i:=j)).symm
 rw [this];exact hu
theorem kM (hm:Mem w U ι ob) {t e s len:Nat} {zs:List Value} {ρ:Operand→V} {ρ':Operand→Value} {parts:Array (Nat×Operand)} {rows:List (List D)} {us:List (Nat×O)}
  (hρ:∀ x,VR w U ι ob (ρ x) (ρ' x)) (he:cp P t=some e) (hs:bE P e=some s) (hz:cE P e=some zs) (hs0:0 < s) (hzl:zs.length=s) (hlen:len*s≤16777216)
  (hrows:(dl ρ s (List.replicate len (zs.map .lit)) parts.toList).run ob=some (rows,us)) :
  ∃ U' arr',Mem w U' ι (bk ob us)∧Evo w U ι ob w U' ι (bk ob us)∧FR w U' rows.flatten arr'.toList∧(∀ r∈rows,r.length=s)∧rows.length=len∧arr'.size=len*s∧SameBut ob (bk ob us) ∧
   (Instr.buildSlice t len (parts.map fun (i,x)=>(i,ρ' x))).run P w=.ok (.slice (some ⟨w.heap.size,0,none⟩) len len) (w.alloc (.cells arr' e)):=by
 obtain ⟨z,hz1,hz2,hz3⟩:=tI (w:=w) hz
 have hzsz:z.cells.size=s:=by rw [←hzl,← hz2];simp
 have hmf:=gA (z:=z.cells) (n:=len) hzsz hs0
 rw [hz2] at hmf
 obtain ⟨U',arr',m1,m2,m3,m4,m5,m6,m7⟩:=s7 (arr:=(Array.range (len*s)).map (fun i=>z.cells[i % z.cells.size]!)) hrows (SameBut.refl ob) hm hρ (by intro r hr;rw [List.eq_of_mem_replicate hr];simpa using hzl) (by rw [hmf];exact gx hz3 _)
 have hfl:=cF m5
 have hrl:rows.length=len:=by rw [m6];simp
 have hasz:arr'.size=len*s:=by have:=m4.len;rw [hfl,hrl] at this;simpa using this
 have hrun:(Instr.buildSlice t len (parts.map fun (i,x)=>(i,ρ' x))).run P w=.ok (.slice (some ⟨w.heap.size,0,none⟩) len len) (w.alloc (.cells arr' e)):=by
  have h24:¬ (2 ^ 24 < len*s):=by omega
  have hlist:((parts.map fun (x:Nat×Operand)=>(x.1,ρ' x.2)).toList)=parts.toList.map fun p=>(p.1,ρ' p.2):=by simp
  unfold Instr.buildSlice
  rw [Sem.run_bind,run_underlying (eB he)]
  simp only [Result.andThen_ok]
  rw [Sem.run_bind,cH hs,Result.andThen_ok,hlist]
  by_cases h0:len*s=0
  ·have hl0:len=0:=by
    rcases Nat.mul_eq_zero.1 h0 with h | h
    ·exact h
    ·omega
   subst hl0
   simp only [Nat.zero_mul] at m3 ⊢
   have hfill:Instr.fill (fun i=>some (i*s,s)) (Array.map (fun (x:Nat)=>(#[]:Array Value)[x % (#[]:Array Value).size]!) (Array.range 0)) (parts.toList.map fun p=>(p.1,ρ' p.2))=some arr':=by
    have:(Array.map (fun (x:Nat)=>(#[]:Array Value)[x % (#[]:Array Value).size]!) (Array.range 0))=(Array.range 0).map (fun i=>z.cells[i % z.cells.size]!):=by simp
    rw [this];exact m3
   simp only [Sem.run_bind,Sem.run_pure,Result.andThen_ok,T6,show ¬ (0 > 2 ^ 24) by omega,T9,hfill,newRow,run_newObj]
   rfl
  ·simp only [Sem.run_bind,Sem.run_pure,Result.andThen_ok,show ¬ (len*s > 2 ^ 24) by omega,T9,h0,hz1,m3,newRow,run_newObj]
   rfl
 exact ⟨U',arr',m1,m2,m4,m5,hrl,hasz,m7,hrun⟩
theorem ph (hm:Mem w U ι ob) {dst:Option Nat} {t e s len:Nat} {zs:List Value} {ρ:Operand→V} {ρ':Operand→Value} {parts:Array (Nat×Operand)} {rows:List (List D)} {us:List (Nat×O)} {v:V} {u:List (Nat×O)}
  (hρ:∀ x,VR w U ι ob (ρ x) (ρ' x)) (he:cp P t=some e) (hs:bE P e=some s) (hz:cE P e=some zs) (hs0:0 < s) (hzl:zs.length=s) (hlen:len*s≤16777216)
  (hrows:(dl ρ s (List.replicate len (zs.map .lit)) parts.toList).run ob=some (rows,us)) (hr:(fresh dst (.arr rows s e true) fun k=>.one (.slk k 0 len len)).run ob=some (v,u)) :
  io P w U ι ob (Instr.buildSlice t len (parts.map fun (i,x)=>(i,ρ' x))) (v,us++u):=by
 obtain ⟨U',arr',m1,m2,m4,m5,hrl,hasz,m7,hrun⟩:=kM hm hρ he hs hz hs0 hzl hlen hrows
 have hr':(fresh dst (.arr rows s e true) fun k=>.one (.slk k 0 len len)).run (bk ob us)=some (v,u):=by
  unfold fresh at hr ⊢
  cases dst with
  | none=>simp [Q.run] at hr
  | some k =>
   simp only [Q.run] at hr ⊢
   cases hk:ob k with
   | some o=>simp [hk,Q.run] at hr
   | none=>rw [hk] at hr;rw [m7.2.2 k hk];exact hr
 have hg:=uk (P:=P) m1 (arr:=arr') (cap:=len) w (.inl rfl) hr' hrl.symm (Tf _) (by
  have:len≤len*s:=Nat.le_mul_of_pos_right _ hs0
  simp [maxLen];omega) hasz m5 ⟨arr'.toList,m4,fun j u hu=>by simpa using hu⟩ hrun
 obtain ⟨v',w',U'',ι',g1,g2,g3,g4⟩:=hg
 exact ⟨v',w',U'',ι',g1,by simpa only [bO] using g2,by simpa only [bO] using m2.trans g3,by simpa only [bO] using g4⟩
theorem qN {x v:V} {u:Value} {n:Nat} (hx:VR w U ι ob x u) (h:fh n x=some v):∃ a:Addr,u=.pointer (some a)∧VR w U ι ob v (.pointer (some (a.add n))):=by
 unfold fh at h
 split at h
 ·simp only [T3] at h;subst h
  simp only [VR,LR] at hx ⊢
  obtain ⟨cells,e,h1,rfl⟩:=hx
  exact ⟨_,rfl,cells,e,h1,by rw [add_lit]⟩
 ·simp only [T3] at h;subst h
  simp only [VR,LR] at hx ⊢
  obtain ⟨rows,s,e,own,h1,h2,h3,a,rfl⟩:=hx
  refine ⟨_,rfl,rows,s,e,own,h1,h2,fun hc=>?_,_,rfl⟩
  obtain ⟨h4,h5⟩:=h3 hc
  cases h5
  exact ⟨h4,by rw [add_lit,Ww]⟩
 ·simp only [T3] at h;subst h
  simp only [VR,LR,DR] at hx ⊢
  obtain ⟨b,o,rfl,h1,h2⟩:=hx
  exact ⟨_,rfl,b,o,by rw [add_lit,Ww],h1,h2⟩
 ·cases h
theorem qx (hm:Mem w U ι ob) {x:V} {u:Value} {s f:Nat} {p:Nat×Nat×Bool} {r:cD} (hx:VR w U ι ob x u) (hf:jD P s f=some p) (hr:(bf (fh p.1 x)).run ob=some r):io P w U ι ob (Instr.fieldAt s u f) r:=by
 obtain ⟨v,hv,rfl⟩:=bJ hr
 obtain ⟨a,rfl,hv'⟩:=qN hx hv
 unfold jD at hf
 split at hf
 ·rename_i fs hfs
  split at hf
  ·rename_i fd hfd
   split at hf
   ·rename_i sz g hsz hg
    split at hf
    ·cases hf
    ·rename_i hne
     cases hf
     refine aO hm (u:=.pointer (some (a.add fd.offset))) ?_ hv'
     simp [Instr.fieldAt,run_underlying hfs,hfd,Instr.sureAddr,fieldPlace,cH hsz,hne]
   ·cases hf
  ·cases hf
 ·cases hf
theorem kF (hm:Mem w U ι ob) {x:V} {u y:Value} {t s e:Nat} {arr:Option (Nat×Nat)} {k:IntKind} {i:Int} {r:cD} (hx:VR w U ι ob x u) (hy:y=.int k i)
  (ht:(∃ n,arr=some (n,e)∧P.underlying t=some (.array n e))∨(arr=none∧P.underlying t=some (.slice e))) (hs:bE P e=some s) (hr:(ep arr s x i).run ob=some r):io P w U ι ob (Instr.indexAt t u y) r:=by
 subst hy
 rcases ht with ⟨n,rfl,hu⟩ | ⟨rfl,hu⟩
 ·simp only [ep] at hr
  obtain ⟨v,hv,rfl⟩:=bJ hr
  split at hv
  ·rename_i hb
   obtain ⟨a,rfl,hv'⟩:=qN hx hv
   refine aO hm (u:=.pointer (some (a.add (i.toNat*s)))) ?_ hv'
   simp [Instr.indexAt,run_underlying hu,Instr.sureAddr,asIntOf,hb,cH hs]
  ·cases hv
 ·simp only [ep] at hr
  split at hr
  ·rename_i k off n c
   simp only [Q.run] at hr
   split at hr
   ·rename_i rows size el own hk
    obtain ⟨hg,hr2⟩:=aF hr;clear hr
    simp only [T4] at hg
    obtain ⟨hc,rfl⟩:=hg
    obtain ⟨v,hv,rfl⟩:=bJ hr2
    split at hv
    ·rename_i hb
     cases hv
     simp only [VR,LR] at hx
     obtain ⟨rows',size',el',own',h1,h2,h3,_⟩:=hx
     rw [hk] at h1
     cases h1
     obtain ⟨h4,rfl⟩:=h3 hc
     refine aO hm (u:=.pointer (some ⟨(ι k).1,off*size+i.toNat*size,none⟩)) ?_ ?_
     ·simp [Instr.indexAt,run_underlying hu,asIntOf,hb,cH hs,add_lit]
     ·simp only [VR,LR]
      exact ⟨rows,size,el,own,hk,h2,fun _=>⟨by omega,by rw [Wc,Wk]⟩,_,rfl⟩
    ·cases hv
   ·simp [Q.run] at hr
  ·rename_i sz rows
   obtain ⟨hg,hr2⟩:=aF hr;clear hr
   simp only [T4] at hg
   subst hg
   obtain ⟨v,hv,rfl⟩:=bJ hr2
   split at hv
   ·rename_i h0
    simp only [Ta] at hv
    obtain ⟨row,hrow,rfl⟩:=hv
    simp only [VR,LR,DR] at hx
    obtain ⟨a,cap,rfl,h1,h2,h3⟩:=hx
    have hlt:i.toNat < rows.length:=(Tn.1 hrow).1
    obtain ⟨b,o,rfl,hUb,hrr⟩:=h3 (by omega)
    obtain ⟨hrl,hcr⟩:=hrr.at_ hrow
    refine aO hm (u:=.pointer (some ⟨b,o+i.toNat*sz,none⟩)) ?_ ?_
    ·simp [Instr.indexAt,run_underlying hu,asIntOf,h0,show i < rows.length by omega,cH hs,add_lit]
    ·simp only [VR,LR,DR]
     exact ⟨b,o+i.toNat*sz,by rw [Wk],hUb,hcr⟩
   ·cases hv
  ·simp [Q.run] at hr
theorem DM {kl kh:IntKind} {n cap:Nat} {l h:Option Int} {lv hv:Option Value} (hl:lv=l.map (Value.int kl)) (hh:hv=h.map (Value.int kh)) (h0:0≤l.getD 0) (h1:l.getD 0≤h.getD n) (h2:h.getD n≤n) (h3:n≤cap) :
  (Instr.sliceBounds true n cap lv hv none).run P w=.ok ((l.getD 0).toNat,(h.getD n).toNat,cap) w:=by
 subst hl hh
 cases l<;>cases h<;>simp only [Vu,T7,Wr,Th] at*<;> simp only [Instr.sliceBounds,Sem.run_bind,Sem.run_pure,Result.andThen_ok]
 ·simp
 ·rename_i hi
  rw [run_sliceBound _ _ _ _ _ (by omega) (by omega)]
  simp
 ·rename_i lo
  rw [run_sliceBound _ _ _ _ _ (by omega) (by omega)]
  simp
 ·rename_i lo hi
  rw [run_sliceBound _ _ _ _ _ (by omega) (by omega)]
  simp only [Result.andThen_ok]
  rw [run_sliceBound _ _ _ _ _ (by omega) (by omega)]
  simp
theorem DL {t e s n cap:Nat} {a:Option Addr} {kl kh:IntKind} {l h:Option Int} {lv hv:Option Value} (ht:P.underlying t=some (.slice e)) (hs:bE P e=some s) (hl:lv=l.map (Value.int kl)) (hh:hv=h.map (Value.int kh))
  (h0:0≤l.getD 0) (h1:l.getD 0≤h.getD n) (h2:h.getD n≤n) (h3:n≤cap) :
  (Instr.sliceAt t (.slice a n cap) lv hv none).run P w=.ok (.slice (if cap=(l.getD 0).toNat then a else a.map (·.add ((l.getD 0).toNat*s))) ((h.getD n).toNat - (l.getD 0).toNat) (cap - (l.getD 0).toNat)) w:=by
 have:=DM (P:=P) (w:=w) hl hh h0 h1 h2 h3
 simp [Instr.sliceAt,run_underlying ht,Instr.slice,this,cH hs]
theorem DK {t e s n cap:Nat} {a:Addr} {kl kh:IntKind} {l h:Option Int} {lv hv:Option Value} (ht:P.underlying t=some (.slice e)) (hs:bE P e=some s) (hl:lv=l.map (Value.int kl)) (hh:hv=h.map (Value.int kh))
  (h0:0≤l.getD 0) (h1:l.getD 0≤h.getD n) (h2:h.getD n≤n) (h3:n≤cap) :
  (Instr.sliceAt t (.slice (some a) n cap) lv hv none).run P w=.ok (.slice (some (if cap=(l.getD 0).toNat then a else a.add ((l.getD 0).toNat*s))) ((h.getD n).toNat - (l.getD 0).toNat) (cap - (l.getD 0).toNat)) w:=by
 rw [DL ht hs hl hh h0 h1 h2 h3]
 congr 2
 split<;>rfl
theorem EB (hm:Mem w U ι ob) {x:V} {u:Value} {t e s:Nat} {kl kh:IntKind} {l h:Option Int} {lv hv:Option Value} {r:cD} (hx:VR w U ι ob x u) (ht:P.underlying t=some (.slice e)) (hs:bE P e=some s)
  (hl:lv=l.map (Value.int kl)) (hh:hv=h.map (Value.int kh)) (hr:(kJ s x l h).run ob=some r):io P w U ι ob (Instr.sliceAt t u lv hv none) r:=by
 unfold kJ at hr
 split at hr
 ·rename_i k off n c
  simp only [Q.run] at hr
  split at hr
  ·rename_i rows size el own hk
   obtain ⟨hg,hr2⟩:=aF hr;clear hr
   simp only [T4] at hg
   obtain ⟨hc,rfl⟩:=hg
   obtain ⟨v,hv',rfl⟩:=bJ hr2
   split at hv'
   ·rename_i hb
    simp only [VR,LR] at hx
    obtain ⟨rows',size',el',own',h1,h2,h3,_,_,he,hcap,hmax⟩:=hx
    rw [hk] at h1
    cases h1
    obtain ⟨h4,rfl⟩:=h3 hc
    cases he
    have hrun:=DL (P:=P) (w:=w) (a:=some ⟨(ι k).1,off*size,none⟩) ht hs hl hh hb.1 hb.2.1 hb.2.2 hcap
    split at hv'
    ·rename_i hcase
     cases hv'
     refine aO hm hrun ?_
     simp only [VR,LR]
     refine ⟨rows,size,el,own,hk,h2,fun _=>⟨by omega,?_⟩,_,_,by rw [show (h.getD n - l.getD 0).toNat=(h.getD n).toNat - (l.getD 0).toNat by omega],by omega,by omega⟩
     rw [show (h.getD n - l.getD 0).toNat=(h.getD n).toNat - (l.getD 0).toNat by omega]
     congr 1
     ·split
      ·have:(l.getD 0).toNat=0:=by omega
       rw [this];simp
      ·simp only [Th,add_lit,Wc]
     ·omega
    ·cases hv'
     have hrun2:=DK (P:=P) (w:=w) (a:=(⟨(ι k).1,off*size,none⟩:Addr)) ht hs hl hh hb.1 hb.2.1 hb.2.2 hcap
     refine aO hm hrun2 ?_
     simp only [VR,LR,DR]
     refine ⟨_,_,by rw [show (h.getD n).toNat - (l.getD 0).toNat=0 by omega];rfl,by simp,by omega,by simp⟩
   ·cases hv'
  ·simp [Q.run] at hr
 ·rename_i size rows
  obtain ⟨hg,hr2⟩:=aF hr;clear hr
  simp only [T4] at hg
  subst hg
  obtain ⟨v,hv',rfl⟩:=bJ hr2
  split at hv'
  ·rename_i hb
   cases hv'
   simp only [VR,LR,DR] at hx
   obtain ⟨a,cap,rfl,h1,h2,h3⟩:=hx
   have hrun:=DK (P:=P) (w:=w) (a:=a) ht hs hl hh hb.1 hb.2.1 hb.2.2 h1
   refine aO hm hrun ?_
   have hlen:((rows.drop (l.getD 0).toNat).take (h.getD rows.length - l.getD 0).toNat).length=(h.getD rows.length).toNat - (l.getD 0).toNat:=by simp;omega
   simp only [VR,LR,DR]
   refine ⟨_,_,by rw [hlen],by rw [hlen];omega,by omega,fun hp=>?_⟩
   rw [hlen] at hp
   obtain ⟨b,o,rfl,hU,hrr⟩:=h3 (by omega)
   refine ⟨b,o+(l.getD 0).toNat*size,?_,hU,(hrr.drop _).take _⟩
   rw [T5 (by omega)]
   simp [add_lit]
  ·cases hv'
 ·obtain ⟨v,hv',rfl⟩:=bJ hr
  split at hv'
  ·rename_i hb
   cases hv'
   simp only [VR,LR,DR] at hx
   obtain ⟨rfl,hp⟩:=hx
   have hh0:h.getD (0:Nat)=0:=by simpa using hb.2
   have hrun:=DL (P:=P) (w:=w) (a:=none) (n:=0) (cap:=0) ht hs hl hh (by omega) (by omega) (by omega) (Tf _)
   refine aO hm (u:=.slice none 0 0) ?_ (by simp [VR,LR,DR,hp])
   rw [hrun]
   simp [hb.1,hb.2]
  ·cases hv'
 ·simp [Q.run] at hr
end
section
open Go.RowKit
variable {P:Program} {w:World} {U:Nat→Prop} {ι:Pl} {ob:Ob}
theorem Le (hm:Mem w U ι ob) {x:V} {u:Value} {es:Nat} {new:List (List D)} (hx:VR w U ι ob x u) (hr:(dL es x).run ob=some new) :
  ∃ (a:Option Addr) (n c:Nat),u=.slice a n c∧n=new.length∧(∀ r∈new,r.length=es)∧(a=none→new=[]) ∧
   ∃ vs,FR w U new.flatten vs∧∀ ad,a=some ad→∀ (j:Nat) (v:Value),vs[j]?=some v→w.cell? (ad.add j)=some v:=by
 unfold dL at hr
 split at hr
 ·simp only [Q.run,T3] at hr
  subst hr
  simp only [VR,LR,DR] at hx
  exact ⟨none,0,0,hx.1,rfl,by simp,fun _=>rfl,[],by simp [FR],by simp⟩
 ·rename_i size rows
  obtain ⟨hg,hr2⟩:=aF hr;clear hr
  simp only [T4] at hg
  subst hg
  simp only [Q.run,T3] at hr2
  subst hr2
  simp only [VR,LR,DR] at hx
  obtain ⟨a,cap,rfl,h1,h2,h3⟩:=hx
  rcases Nat.eq_zero_or_pos rows.length with h0 | h0
  ·have:rows=[]:=Wd h0
   subst this
   exact ⟨a,0,cap,rfl,rfl,by simp,fun _=>rfl,[],by simp [FR],by simp⟩
  ·obtain ⟨b,o,rfl,hU,hrr⟩:=h3 h0
   obtain ⟨h4,vs,h5,h6⟩:=eu.1 hrr
   refine ⟨_,_,cap,rfl,rfl,h4,by simp,vs,h5,fun ad hd j v hv=>?_⟩
   cases hd
   rw [add_lit]
   exact h6 j v hv
 ·rename_i k off n c
  simp only [Q.run] at hr
  split at hr
  ·rename_i rows size el own hk
   obtain ⟨hg,hr2⟩:=aF hr;clear hr
   simp only [T4] at hg
   obtain ⟨hc,rfl⟩:=hg
   simp only [Q.run,T3] at hr2
   subst hr2
   simp only [VR,LR] at hx
   obtain ⟨rows',size',el',own',h1,h2,h3,_⟩:=hx
   rw [hk] at h1
   cases h1
   obtain ⟨h4,rfl⟩:=h3 hc
   obtain ⟨cur,h5,h6,h7,h8,h9,h10⟩:=hm.obj k _ hk
   have hrr:=(h9.drop off).take n
   rw [Tz] at hrr
   obtain ⟨h11,vs,h12,h13⟩:=eu.1 hrr
   refine ⟨_,n,_,rfl,by simp;omega,h11,by simp,vs,h12,fun ad hd j v hv=>?_⟩
   cases hd
   rw [add_lit]
   exact h13 j v hv
  ·simp [Q.run] at hr
 ·simp [Q.run] at hr
theorem kQ (t ty e:TypeId) (i:TypeInfo) (ht:P.underlying t=some (.slice e)) (hi:P.info? e=some i) (b:Option Addr) (n cap:Nat) (hb:b=none→n=0) (hn:n≤cap) (a:Option Addr) (c:Nat) :
  (Builtin.append_ #[t,t] ty #[.slice b n cap,.slice a 0 c]).run P w=.ok (.slice b n cap) w:=by
 cases a with
 | none=>cases b<;>simp [Builtin.append_,run_underlying ht,sizeOf,typeInfo,hi,Builtin.lenOf,Builtin.firstCells,hn,storeCells]
 | some a=>cases b<;>simp [Builtin.append_,run_underlying ht,sizeOf,typeInfo,hi,Builtin.lenOf,Builtin.firstCells,hn,storeCells,loadCells,loadCellsFrom]
set_option maxHeartbeats 400000 in
theorem wl (hm:Mem w U ι ob) {dst:Option Nat} {t ty e sz bs:Nat} {s x:V} {us ux:Value} {new:List (List D)} {r:cD} (hs:VR w U ι ob s us) (hx:VR w U ι ob x ux)
  (he:cp P t=some e) (hsz:bE P e=some sz) (hbs:ia P e=some bs) (hz:(cE P e).isSome=true) (hs0:0 < sz) (_:0 < bs) (hsrc:(dL sz x).run ob=some new) (hr:(ee dst e sz bs s new).run ob=some r)
  (hzl:∀ zs,cE P e=some zs→zs.length=sz) :
  io P w U ι ob (Builtin.append_ #[t,t] ty #[us,ux]) r:=by
 obtain ⟨a,n,c,rfl,hn,hrows,hnone,vs,hvs,hcell⟩:=Le hm hx hsrc
 obtain ⟨zs,hzs⟩:=W3.1 hz
 have hzl':=hzl zs hzs
 obtain ⟨i,z,hi,hz',hz1,hz2⟩:=fq hzs
 obtain ⟨i',hi',hsize⟩:=lP hsz
 obtain ⟨i'',hi'',hbytes⟩:=kL hbs
 rw [hi] at hi' hi''
 cases hi';cases hi''
 have hzsz:z.cells.size=sz:=by rw [←hzl',← hz1];simp
 have hvl:vs.length=n*sz:=by rw [hvs.len,cF hrows,hn]
 unfold ee at hr
 split at hr
 ·split at hr
  ·rename_i hnew
   subst hnew
   simp only [Q.run,T3] at hr
   subst hr
   have hv:=hs
   simp only [VR,LR,DR] at hv
   obtain ⟨rfl,hp⟩:=hv
   simp at hn
   subst hn
   exact aO hm (kQ t ty e i (eB he) hi none 0 0 (fun _=>rfl) (Tf _) a c) hs
  ·rename_i hnew
   obtain ⟨hg,hr2⟩:=aF hr;clear hr
   simp only [T4] at hg
   simp only [VR,LR,DR] at hs
   obtain ⟨rfl,_⟩:=hs
   have hnpos:0 < n:=by rw [hn];exact List.length_pos_iff.2 hnew
   cases a with
   | none=>exact absurd (hnone rfl) hnew
   | some ad =>
    obtain ⟨v',w',h1,h2,h3,h4,h5⟩:=run_append_own_at (P:=P) w w.heap.size t ty e i z sz bs (eB he) hi hz' hsize hbytes hzsz hs0 (.slice none 0 0) 0 [] (World.ownsRow_nil _ _ _ _) ad n c vs hvl (hcell ad rfl) hvs.one (by omega) (by rw [Tz,hn];exact hg.1) (Tf _)
    rw [Tz,V5] at h2
    rcases h2 with ⟨h2l,h2 | ⟨g,cap,cur,rfl,hg1,hg2,hg3,hg4,hg5,hg6⟩⟩
    ·exact absurd (by omega) (Nat.lt_irrefl n)
    ·have hgw:g=w.heap.size:=by
      rcases h5 with h5 | h5<;>simp [Value.ownBlock] at h5
      exact h5
     subst hgw
     unfold fresh at hr2
     cases dst with
     | none=>simp [Q.run] at hr2
     | some k =>
      simp only [Q.run] at hr2
      cases hk:ob k with
      | some o=>simp [hk,Q.run] at hr2
      | none =>
       simp only [hk,Q.run,T3] at hr2
       subst hr2
       obtain ⟨m1,m2⟩:=eY (w':=w') hm k (.arr new sz e true) (w.heap.size,cap) h3.os h3.tape h3.output h3.size (fun b hb _=>h3.block b hb (by simp [Value.ownBlock])) (fun o' h=>by rw [hk] at h;cases h) (.inl (Tf _)) rfl (fun e'=>by
        refine ⟨cur,by rw [ap];exact hg2,by rw [ap];omega,by rw [ap];exact hg4,by rw [ap];exact hg5,?_,by rw [ap];simp;intro hU;exact absurd (hm.lt _ hU) (by simp)⟩
        rw [ap]
        refine eu.2 ⟨hrows,vs,FR.mono' e' hvs,fun j u hu=>?_⟩
        rw [bG hg2,Tz]
        rw [←hg6,Vs] at hu
        split at hu
        ·simpa using hu
        ·cases hu)
       refine ⟨_,_,U,_,h1,m1,m2,?_⟩
       simp only [VR,LR]
       exact ⟨new,sz,e,true,bp _ _ _,Tf _,fun _=>⟨by omega,by rw [ap];simp [hn]⟩,_,_,by rw [hn],by omega,hg4⟩
 ·rename_i k n0 c0
  simp only [Q.run] at hr
  split at hr
  ·rename_i rows size' elem' own hk
   obtain ⟨hg,hr2⟩:=aF hr;clear hr
   simp only [Te,T4] at hg
   obtain ⟨rfl,hc,rfl,rfl,rfl,hby,hmx⟩:=hg
   simp only [Q.run,T3] at hr2
   subst hr2
   simp only [VR,LR] at hs
   obtain ⟨rows',size'',el',own',h1,h2,h3,_⟩:=hs
   rw [hk] at h1
   cases h1
   obtain ⟨h4,rfl⟩:=h3 hc
   obtain ⟨cur,h5,h6,h7,h8,h9,h10⟩:=hm.obj k _ hk
   obtain ⟨hro,ovs,hov,hoc⟩:=eu.1 h9
   have hovl:ovs.length=rows.length*size':=by rw [hov.len,cF hro]
   have hcurle:rows.length*size'≤cur.size:=by rw [h8];exact W7 _ h6
   have hctake:cur.toList.take (rows.length*size')=ovs:=by
    apply Wz
    intro j
    rw [Vs]
    split
    ·rename_i hj
     have hjo:j < ovs.length:=by omega
     have:=hoc j ovs[j] (Tc hjo)
     rw [bG h5,Tz] at this
     rw [Tc hjo,← this]
     simp
    ·rw [Ve (by omega)]
   have hown:w.ownsRow (ι k).1 elem' size' (.slice (some ⟨(ι k).1,0,none⟩) rows.length ((ι k).2)) rows.length ovs :=
    ⟨hovl,.inr ⟨(ι k).1,(ι k).2,cur,rfl,Tf _,h5,h6,h7,h8,hctake⟩⟩
   rw [Nat.zero_mul]
   simp only [Nat.sub_zero]
   have ni:∀ (v':Value) (w':World),(Builtin.append_ #[t,t] ty #[.slice (some ⟨(ι k).1,0,none⟩) rows.length ((ι k).2),.slice a n c]).run P w=.ok v' w' →
     w'.ownsRow (ι k).1 elem' size' v' (rows.length+n) (ovs++vs)→w.grownBy w' (some (ι k).1)→(v'.ownBlock=some (ι k).1∨v'.ownBlock=some w.heap.size) →
     (n=0→v'=.slice (some ⟨(ι k).1,0,none⟩) rows.length ((ι k).2)) →
     io P w U ι ob (Builtin.append_ #[t,t] ty #[.slice (some ⟨(ι k).1,0,none⟩) rows.length ((ι k).2),.slice a n c]) (.one (.slk k 0 (rows.length+new.length) (rows.length+new.length)),[(k,.arr (rows++new) size' elem' true)]):=by
    intro v' w' g1 g2 g3 g4 g5
    have g2':∃ g cap cur',v'=.slice (some ⟨g,0,none⟩) (rows.length+n) cap∧(g=(ι k).1∨g=w.heap.size)∧w'.heap[g]?=some (.cells cur' elem' (0,0))∧rows.length+n≤cap∧cap≤maxLen∧cur'.size=cap*size'∧cur'.toList.take ((rows.length+n)*size')=ovs++vs∧(n=0→(g,cap)=ι k):=by
     rcases g2 with ⟨_,⟨rfl,_⟩ | ⟨g,cap,cur',rfl,_,q2,q3,q4,q5,q6⟩⟩
     ·simp [Value.ownBlock] at g4
     ·refine ⟨g,cap,cur',rfl,by simpa [Value.ownBlock] using g4,q2,q3,q4,q5,q6,fun h0=>?_⟩
      have:=g5 h0
      injection this with e1 e2 e3
      injection e1 with e1
      injection e1 with e1
      rw [e1,e3]
    obtain ⟨g,cap,cur',rfl,q1,q2,q3,q4,q5,q6,q7⟩:=g2'
    obtain ⟨m1,m2⟩:=eY (w':=w') hm k (.arr (rows++new) size' elem' true) (g,cap) g3.os g3.tape g3.output g3.size
     (fun b hb hbk=>g3.block b hb (by
      rcases hbk with hbk | hbk
      ·rw [hk] at hbk;cases hbk
      ·simpa using hbk)) (fun o' h=>by
      rw [hk] at h
      cases h
      refine ⟨rfl,rfl,rfl,by simp,fun h0=>q7 ?_⟩
      simp at h0
      rw [hn,h0];rfl) (by
      rcases q1 with rfl | rfl
      ·exact .inr ⟨by simp [hk],rfl⟩
      ·exact .inl (Tf _)) rfl (fun e'=>by
      refine ⟨cur',by rw [ap];exact q2,by rw [ap];simpa [←hn] using q3,by rw [ap];exact q4,by rw [ap];exact q5,?_,?_⟩
      ·rw [ap]
       refine eu.2 ⟨by
        intro r hr
        rcases V6.1 hr with h | h
        ·exact hro r h
        ·exact hrows r h,ovs++vs,by rw [Wp];exact (FR.mono' e' hov).append (FR.mono' e' hvs),fun j u hu=>?_⟩
       rw [bG q2,Tz]
       rw [←q6,Vs] at hu
       split at hu
       ·simpa using hu
       ·cases hu
      ·rw [ap]
       simp only [T6]
       rcases q1 with rfl | rfl
       ·simpa using h10
       ·intro hU;exact absurd (hm.lt _ hU) (by simp))
    refine ⟨_,_,U,_,g1,m1,m2,?_⟩
    simp only [VR,LR]
    exact ⟨rows++new,size',elem',true,bp _ _ _,by simp,fun _=>⟨by simp,by rw [ap];simp [hn]⟩,_,_,by rw [hn],by omega,q4⟩
   rcases Nat.eq_zero_or_pos n with hn0 | hn0
   ·have hnew0:new=[]:=Wd (by omega)
    have hvs0:vs=[]:=Wd (by rw [hvl,hn0];simp)
    subst hn0
    have hap:=kQ (P:=P) (w:=w) t ty elem' i (eB he) hi (some ⟨(ι k).1,0,none⟩) rows.length ((ι k).2) (by simp) h6 a c
    exact ni _ _ hap (by rw [hvs0,Tt];exact hown) (World.grownBy.refl _ _) (.inl rfl) (fun _=>rfl)
   ·cases a with
    | none=>have:=hnone rfl;rw [this] at hn;simp at hn;omega
    | some ad =>
     obtain ⟨v',w',g1,g2,g3,g4,g5⟩:=run_append_own_at (P:=P) w (ι k).1 t ty elem' i z size' bs (eB he) hi hz' hsize hbytes hzsz hs0 _ rows.length ovs hown ad n c vs hvl (hcell ad rfl) hvs.one (by rw [hn];exact hmx) (by rw [hn];exact hby) (Nat.le_of_lt (hm.block hk))
     refine ni v' w' g1 g2 g3 (by simpa only [Value.ownBlock] using g5) (fun h=>absurd h (Nat.ne_of_gt hn0))
  ·simp [Q.run] at hr
 ·simp [Q.run] at hr
end
section
open Go.RowKit
variable {P:Program} {w:World} {U:Nat→Prop} {ι:Pl} {ob:Ob}
theorem sG {t kd:Nat} (h:rV P t=some kd):∃ k e d,P.underlying t=some (.map k e)∧P.underlying k=some d∧yJ d=some kd:=by
 unfold rV at h
 split at h
 ·simp only [Vg] at h
  obtain ⟨d,h1,h2⟩:=h
  exact ⟨_,_,d,by assumption,h1,h2⟩
 ·cases h
theorem oJ {d:TypeDesc} {kd:Nat} {u v:Value} {b:Bool} (hd:yJ d=some kd) (h:Fv kd u v=some b):Instr.sameNow d u v=some b:=by
 cases d<;>simp [yJ] at hd<;>subst hd<;>cases u<;>cases v<;>simp_all [Fv,Instr.sameNow]
theorem mh {d:TypeDesc} {kd:Nat} {k:Value} {agg:Bool} (hd:yJ d=some kd):∀ {vals:List (List D)} {keys:List Value} {es:List MapEntry} {i:Nat} {r:Option Nat},KR w U agg keys es vals→dY kd k keys i=some r →
  ∃ r',Instr.findNow d k es i=some r'∧r'.map (·.1)=r∧(∀ j x,r'=some (j,x)→i≤j∧∃ row cs,vals[j - i]?=some row∧x=dS agg cs∧(agg=false→cs.length=1)∧FR w U row cs)∧(∀ j,r=some j→i≤j∧∃ kk,keys[j - i]?=some kk∧Fv kd k kk=some true)
 | [],keys,es,i,r,hk,h=>by
  simp only [KR] at hk
  obtain ⟨rfl,rfl⟩:=hk
  simp only [dY,T3] at h
  subst h
  exact ⟨none,rfl,rfl,by simp,by simp⟩
 | row::vals,keys,es,i,r,hk,h=>by
  simp only [KR] at hk
  obtain ⟨k1,ks,e,es',cs,rfl,rfl,he,hp,hv,hc,hf,hk⟩:=hk
  simp only [dY] at h
  split at h
  ·rename_i heq
   cases h
   refine ⟨some (i,e.val),?_,rfl,?_,?_⟩
   ·simp only [Instr.findNow,he,oJ hd heq]
   ·intro j x hx
    cases hx
    exact ⟨Tf _,row,cs,by simp,hv,hc,hf⟩
   ·intro j hj
    cases hj
    exact ⟨Tf _,k1,by simp,heq⟩
  ·rename_i heq
   obtain ⟨r',h1,h2,h3,h4⟩:=mh hd hk h
   refine ⟨r',?_,h2,?_,?_⟩
   ·simp only [Instr.findNow,he,oJ hd heq];exact h1
   ·intro j x hx
    obtain ⟨h5,row',cs',h6,h7⟩:=h3 j x hx
    exact ⟨by omega,row',cs',by rw [show j - i=(j - (i+1))+1 by omega];simpa using h6,h7⟩
   ·intro j hj
    obtain ⟨h5,kk,h6,h7⟩:=h4 j hj
    exact ⟨by omega,kk,by rw [show j - i=(j - (i+1))+1 by omega];simpa using h6,h7⟩
  ·cases h
theorem fY {t kd:Nat} {d:TypeDesc} {e:Bool} {v:Value} (ht:P.underlying t=some d) (hd:yJ d=some kd):(Instr.checkKey e 10000 t v).run P w=.ok () w:=by
 have:∀ n,(Instr.checkKey e (n+1) t v).run P w=.ok () w:=by
  intro n
  cases d<;>simp [yJ] at hd<;>simp [Instr.checkKey,run_underlying ht]
 exact this 9999
theorem yA {agg:Bool} {xs:List L} {cs:List Value} {v:V} (h:Fu agg xs=some v) (hl:LF w U ι ob xs cs) (hc:agg=false→cs.length=1):VR w U ι ob v (dS agg cs):=by
 unfold Fu at h
 split at h
 ·cases h;simp only [VR,dS,T6];exact ⟨_,rfl,hl⟩
 ·cases h
  simp only [LF] at hl
  obtain ⟨u,us,rfl,h1,h2⟩:=hl
  simpa only [VR,dS,T0,T9,List.headD_cons] using h1
 ·cases h
theorem wh (hm:Mem w U ι ob) {t kd e:Nat} {g ok:Bool} {zs:List Value} {x:V} {ux:Value} {k:Value} {r:cD} (hx:VR w U ι ob x ux) (hk:rV P t=some kd) (he:jv P t=some e) (hz:cE P e=some zs) (hzg:(P.info? e).bind (·.zero)=some (dS g zs))
  (hr:(kw kd g ok zs x k).run ob=some r):io P w U ι ob (Instr.lookup t ux k ok) r:=by
 obtain ⟨kt,e',d,ht,htk,hd⟩:=sG hk
 have:e'=e:=by simpa [jv,ht] using he
 subst this
 obtain ⟨i0,z0,hi,hz0,hz1,hz2⟩:=fq hz
 have hz3:z0=dS g zs:=by rw [hi] at hzg;simpa [hz0] using hzg
 have hzrun:(zeroValue e').run P w=.ok (dS g zs) w:=by simp [zeroValue,jk hi,hz0,hz3]
 unfold kw at hr
 obtain ⟨p,hp,hr⟩:=aH hr
 simp only [Q.run,T3] at hr
 have main:∀ (b:Nat) (es:Array MapEntry) (clock:Nat) (keys:List Value) (vals:List (List D)),w.heap[b]?=some (.map es clock)→KR w U g keys es.toList vals→(dY kd k keys 0).bind (o5 g zs vals)=some p →
   io P w U ι ob (Instr.lookup t (.map (some b)) k ok) r:=by
  intro b es clock keys vals hb hkr hf
  rw [Vg] at hf
  obtain ⟨q,hq,hg⟩:=hf
  obtain ⟨r',h1,h2,h3,_⟩:=mh hd hkr hq
  have hobj:(getObj b).run P w=.ok (.map es clock) w:=by simp [getObj,Sem.run,hb]
  have hfind:(Instr.findKey kt k es.toList).run P w=.ok r' w:=by simp [Instr.findKey,run_underlying htk,h1]
  obtain ⟨u,hu,hrun⟩:∃ u,VR w U ι ob p.1 u∧(Instr.lookup t (.map (some b)) k ok).run P w=.ok (if ok then .tuple #[u,.bool p.2] else u) w:=by
   cases r' with
   | none =>
    simp only [Wr] at h2
    subst h2
    simp only [o5,Ta] at hg
    obtain ⟨v,hv,rfl⟩:=hg
    refine ⟨dS g zs,yA hv (kx hz2) ?_,?_⟩
    ·intro hgf
     subst hgf
     unfold Fu at hv
     split at hv
     ·contradiction
     ·rename_i hll;have:=congrArg List.length hll;simpa [gr] using this
     ·cases hv
    ·simp [Instr.lookup,run_underlying ht,hobj,fY htk hd,hfind,hzrun]
   | some jx =>
    obtain ⟨j,x⟩:=jx
    simp only [Th] at h2
    subst h2
    obtain ⟨_,row,cs,hrow,rfl,hc,hfr⟩:=h3 j x rfl
    simp only [o5,Vg,Ta] at hg
    obtain ⟨row',hrow',v,hv,rfl⟩:=hg
    rw [Nat.sub_zero,hrow'] at hrow
    cases hrow
    refine ⟨dS g cs,yA hv (jX hfr) hc,?_⟩
    simp [Instr.lookup,run_underlying ht,hobj,fY htk hd,hfind]
  subst hr
  refine aO hm hrun ?_
  cases ok with
  | true=>simp only [T6,VR,VF];exact ⟨_,rfl,_,_,rfl,hu,.bool p.2,[],rfl,bW rfl,rfl⟩
  | false=>simpa using hu
 split at hp
 ·rename_i agg' keys vals
  obtain ⟨hg,hp2⟩:=aF hp
  simp only [X9] at hg
  subst hg
  rw [Q.run_opt] at hp2
  simp only [VR,LR,DR] at hx
  obtain ⟨b,es,clock,rfl,hU,hb,hkr⟩:=hx
  exact main b es clock keys vals hb hkr hp2
 ·rename_i key
  simp only [Q.run] at hp
  split at hp
  ·rename_i agg' keys vals own hkey
   obtain ⟨hg,hp2⟩:=aF hp
   simp only [X9] at hg
   subst hg
   rw [Q.run_opt] at hp2
   simp only [VR,LR] at hx
   obtain ⟨_,_,_,_,h1,rfl⟩:=hx
   obtain ⟨es,clock,hb,hkr,_⟩:=hm.obj _ _ hkey
   exact main _ es clock keys vals hb hkr hp2
  ·simp [Q.run] at hp
 ·rw [Q.run_opt] at hp
  simp only [VR,LR,DR] at hx
  obtain ⟨rfl,_⟩:=hx
  simp only [o5,Ta] at hp
  obtain ⟨v,hv,rfl⟩:=hp
  have hu:VR w U ι ob v (dS g zs):=yA hv (kx hz2) (by
   intro hgf
   subst hgf
   unfold Fu at hv
   split at hv
   ·contradiction
   ·rename_i hll;have:=congrArg List.length hll;simpa [gr] using this
   ·cases hv)
  subst hr
  refine aO hm (u:=if ok then .tuple #[dS g zs,.bool false] else dS g zs) ?_ ?_
  ·have hfind:(Instr.findKey kt k []).run P w=.ok none w:=by simp [Instr.findKey,run_underlying htk,Instr.findNow]
   simp [Instr.lookup,run_underlying ht,fY htk hd,hfind,hzrun]
  ·cases ok with
   | true=>simp only [T6,VR,VF];exact ⟨_,rfl,_,_,rfl,hu,.bool false,[],rfl,bW rfl,rfl⟩
   | false=>simpa using hu
 ·simp [Q.run] at hp
theorem KR.push {agg:Bool} {row:List D} {cs:List Value} {k:Value} {n:Nat}:∀ {vals:List (List D)} {keys:List Value} {es:List MapEntry},KR w U agg keys es vals→plain k=true→(agg=false→cs.length=1)→FR w U row cs →
  KR w U agg (keys++[k]) (es++[{ key:=k,val:=dS agg cs,born:=n }]) (vals++[row])
 | [],keys,es,h,hp,hc,hf=>by
  simp only [KR] at h
  obtain ⟨rfl,rfl⟩:=h
  simp only [V5,KR]
  exact ⟨k,[],_,[],cs,rfl,rfl,rfl,hp,rfl,hc,hf,rfl,rfl⟩
 | r::rs,keys,es,h,hp,hc,hf=>by
  simp only [KR] at h
  obtain ⟨k1,ks,e,es',cs1,rfl,rfl,h3,h4,h5,h6,h7,h8⟩:=h
  simp only [Tr,KR]
  exact ⟨k1,_,e,_,cs1,rfl,rfl,h3,h4,h5,h6,h7,KR.push h8 hp hc hf⟩
theorem KR.set_ {agg:Bool} {row:List D} {cs:List Value} {k:Value}:∀ {vals:List (List D)} {keys:List Value} {es:List MapEntry} {j:Nat},KR w U agg keys es vals→(∀ kk,keys[j]?=some kk→kk=k)→(agg=false→cs.length=1)→FR w U row cs →
  KR w U agg keys (es.modify j fun e=>{ e with key:=k,val:=dS agg cs }) (vals.set j row)
 | [],keys,es,j,h,_,_,_=>by
  simp only [KR] at h
  obtain ⟨rfl,rfl⟩:=h
  simp [KR]
 | r::rs,keys,es,j,h,hkk,hc,hf=>by
  simp only [KR] at h
  obtain ⟨k1,ks,e,es',cs1,rfl,rfl,h3,h4,h5,h6,h7,h8⟩:=h
  cases j with
  | zero =>
   have:=hkk k1 rfl
   subst this
   simp only [List.set_cons_zero,List.modify_zero_cons,KR]
   exact ⟨k1,ks,_,es',cs,rfl,rfl,rfl,h4,rfl,hc,hf,h8⟩
  | succ j =>
   simp only [List.set_cons_succ,List.modify_succ_cons,KR]
   exact ⟨k1,ks,e,_,cs1,rfl,rfl,h3,h4,h5,h6,h7,KR.set_ h8 (fun kk hk=>hkk kk (by simpa using hk)) hc hf⟩
theorem F4 (a b:ByteArray):(a==b)=true↔a=b:=by
 rw [beq_toListBytes]
 simp only [X9]
 constructor
 ·intro h
  rw [ByteArray.toList_eq,ByteArray.toList_eq] at h
  obtain ⟨⟨x⟩⟩:=a
  obtain ⟨⟨y⟩⟩:=b
  simp at h
  rw [h]
 ·rintro rfl;rfl
theorem Eh {kd:Nat} {u v:Value} (h:Fv kd u v=some true):v=u:=by
 unfold Fv at h
 split at h
 ·split at h
  ·rename_i hk;simp at h;rw [hk,h]
  ·cases h
 ·simp only [T3] at h;rw [(F4 _ _).1 h]
 ·simp at h;rw [h]
 ·cases h
theorem Dn {kd:Nat} {u v:Value} (h:Fv kd u v=some true) (n:Nat):Instr.sameBits n v u=true:=by
 have:=Eh h
 subst this
 unfold Fv at h
 split at h
 ·cases n<;>simp [Instr.sameBits]
 ·cases n<;>simp [Instr.sameBits,(F4 _ _).2 rfl]
 ·cases n<;>simp [Instr.sameBits]
 ·cases h
theorem qH {xs:List L} {ds:List D}:(ez xs).run ob=some (ds,[])→xs=ds.map .d:=by
 induction xs generalizing ds with
 | nil=>intro h;simp [ez,Q.run] at h;simp [←h]
 | cons x xs ih =>
  intro h
  simp only [ez] at h
  obtain ⟨⟨d,u1⟩,h1,h⟩:=aH h
  obtain ⟨⟨ds',u2⟩,h2,h⟩:=aH h
  simp only [Q.run,T3,Ty,List.append_eq_nil_iff] at h
  obtain ⟨rfl,rfl,rfl⟩:=h
  have:=ih h2
  subst this
  cases x with
  | d x=>simp [lC,Q.run] at h1;subst h1;rfl
  | slk k off n c =>
   simp only [lC,Q.run] at h1
   split at h1
   ·obtain ⟨_,h1⟩:=aF h1;simp [Q.run] at h1
   ·simp [Q.run] at h1
  | pa=>simp [lC,Q.run] at h1
  | ptr=>simp [lC,Q.run] at h1
  | fn=>simp [lC,Q.run] at h1
  | mk=>simp only [lC,Q.run] at h1;split at h1<;>simp [Q.run] at h1
  | undef=>simp [lC,Q.run] at h1
theorem qT {ds:List D} {vs:List Value} (h:LF w U ι ob (ds.map .d) vs):FR w U ds vs:=by
 induction ds generalizing vs with
 | nil=>simpa [LF,FR] using h
 | cons d ds ih=>simp only [Tl,LF,LR] at h;obtain ⟨v,vs',rfl,h1,h2⟩:=h;simp only [FR];exact ⟨v,vs',rfl,h1,ih h2⟩
theorem EA (hm:Mem w U ι ob) {t kd:Nat} {g:Bool} {x v:V} {ux uv:Value} {k:Value} {r:cD} (hx:VR w U ι ob x ux) (hv:VR w U ι ob v uv) (hkp:plain k=true) (hk:rV P t=some kd)
  (hr:(va kd g x k v).run ob=some r):BA P w U ι ob (Instr.mapUpdate t ux k uv) r:=by
 obtain ⟨kt,e',d,ht,htk,hd⟩:=sG hk
 unfold va at hr
 split at hr
 ·rename_i key
  simp only [Q.run] at hr
  split at hr
  ·rename_i agg' keys vals own hkey
   obtain ⟨hg,hr2⟩:=aF hr;clear hr
   simp only [Te,X9] at hg
   obtain ⟨⟨⟨rfl,rfl⟩,hva⟩,hik⟩:=hg
   obtain ⟨cs,hcs,hr⟩:=am hr2;clear hr2
   obtain ⟨⟨ds,us⟩,hfr,hr2⟩:=aH hr;clear hr
   obtain ⟨hus,hr3⟩:=aF hr2;clear hr2
   simp only [List.isEmpty_iff] at hus
   subst hus
   obtain ⟨q,hq,hr⟩:=am hr3;clear hr3
   have hcd:=qH hfr
   subst hcd
   obtain ⟨hl,_⟩:=VR.cells hv hcs
   have hFR:=qT hl
   have huv:uv=dS g uv.cells.toList∧(g=false→uv.cells.toList.length=1):=by
    cases v with
    | one y =>
     simp only [eE] at hva
     subst hva
     have hlen:=hFR.len
     simp only [V.cells] at hcs
     split at hcs
     ·rename_i hdef
      simp only [VR] at hv
      have:=(LR.cells hv hdef).1
      rw [this]
      exact ⟨rfl,fun _=>rfl⟩
     ·cases hcs
    | agg ys =>
     simp only [eE] at hva
     subst hva
     simp only [VR] at hv
     obtain ⟨vs,rfl,_⟩:=hv
     exact ⟨rfl,by simp⟩
    | tup ys=>simp [V.cells] at hcs
   simp only [VR,LR] at hx
   obtain ⟨_,_,_,_,h1,rfl⟩:=hx
   obtain ⟨es,clock,hb,hkr,hU⟩:=hm.obj _ _ hkey
   obtain ⟨r',f1,f2,f3,f4⟩:=mh hd hkr hq
   have hobj:(getObj (ι key).1).run P w=.ok (.map es clock) w:=by simp [getObj,Sem.run,hb]
   have hfind:(Instr.findKey kt k es.toList).run P w=.ok r' w:=by simp [Instr.findKey,run_underlying htk,f1]
   have hset:∀ o:Obj,(setObj (ι key).1 o).run P w=.ok () { w with heap:=w.heap.setIfInBounds (ι key).1 o }:=fun o=>by simp [setObj,Sem.run,hb]
   have hblk:=hm.block hkey
   have ni:∀ (es2:Array MapEntry) (clock2:Nat) (keys2:List Value) (vals2:List (List D)),KR w U g keys2 es2.toList vals2→(Instr.mapUpdate t (.map (some (ι key).1)) k uv).run P w=.ok () { w with heap:=w.heap.setIfInBounds (ι key).1 (.map es2 clock2) } →
     r=(.one .undef,[(key,.mp g keys2 vals2 true)])→BA P w U ι ob (Instr.mapUpdate t (.map (some (ι key).1)) k uv) r:=by
    intro es2 clock2 keys2 vals2 hk2 hrun hr'
    subst hr'
    obtain ⟨m1,m2⟩:=eY (w':={ w with heap:=w.heap.setIfInBounds (ι key).1 (.map es2 clock2) }) hm key (.mp g keys2 vals2 true) (ι key) rfl rfl rfl (by simp)
     (fun b hb' hbk=>by
      have hne:b≠(ι key).1:=hbk.resolve_left (by simp [hkey])
      simp [Ne.symm hne])
     (fun o ho=>by rw [hkey] at ho;cases ho;exact ⟨rfl,rfl,rfl⟩) (.inr ⟨by simp [hkey],rfl⟩) rfl
     (fun e2=>⟨es2,clock2,by rw [ap];simp [hblk],KR.mono e2.kept e2.sub _ _ _ _ hk2,by rw [ap];exact hU⟩)
    exact ⟨_,U,_,hrun,m1,m2,rfl⟩
   cases q with
   | none =>
    simp only [Q.run,T3] at hr
    have hr'n:r'=none:=by cases r'<;>simp at f2 ⊢
    subst hr'n
    refine ni (es.push { key:=k,val:=uv,born:=clock }) (clock+1) _ _ ?_ ?_ hr.symm
    ·have:=KR.push (n:=clock) hkr hkp huv.2 hFR
     rw [←huv.1] at this
     simpa using this
    ·simp [Instr.mapUpdate,run_underlying ht,hobj,fY htk hd,hfind,hset]
   | some j =>
    simp only [Q.run,T3] at hr
    obtain ⟨⟨j',x'⟩,rfl,hj'⟩:=Ta.1 f2
    simp only at hj'
    subst hj'
    obtain ⟨_,kk,hkk,hkeq⟩:=f4 j' rfl
    rw [Nat.sub_zero] at hkk
    have hkk':=Eh hkeq
    have hold:((es[j']?).map (·.key)).getD k=k:=by
     cases hes:es[j']? with
     | none=>rfl
     | some e0 =>
      have aux:∀ {vals:List (List D)} {keys:List Value} {es:List MapEntry} {j:Nat} {e:MapEntry} {kk:Value},KR w U g keys es vals→es[j]?=some e→keys[j]?=some kk→e.key=kk:=by
       intro vals
       induction vals with
       | nil=>intro keys es j e kk h h1;simp only [KR] at h;obtain ⟨rfl,rfl⟩:=h;simp at h1
       | cons r rs ih =>
        intro keys es j e kk h h1 h2
        simp only [KR] at h
        obtain ⟨k1,ks,e1,es',cs1,rfl,rfl,h3,_,_,_,_,h8⟩:=h
        cases j with
        | zero=>simp at h1 h2;rw [←h1,← h2];exact h3
        | succ j=>exact ih h8 (by simpa using h1) (by simpa using h2)
      simp only [Th,T7]
      rw [aux hkr (by simpa using hes) hkk,hkk']
    have hstay:(Instr.keyThatStays (((es[j']?).map (·.key)).getD k) k).run P w=.ok k w:=by
     rw [hold]
     have:Instr.sameBits 10000 k k=true:=by
      have h:=Dn hkeq 10000
      rwa [hkk'] at h
     simp [Instr.keyThatStays,this]
    refine ni (es.modify j' fun e=>{ e with key:=k,val:=uv }) clock _ _ ?_ ?_ hr.symm
    ·have:=KR.set_ (j:=j') (k:=k) hkr (fun q hq=>by rw [hkk] at hq;cases hq;exact hkk') huv.2 hFR
     rw [←huv.1] at this
     simpa using this
    ·simp only [Instr.mapUpdate,Sem.run_bind,run_underlying ht,Result.andThen_ok,hobj,fY htk hd,hfind,hstay,hset]
  ·simp [Q.run] at hr
 ·simp [Q.run] at hr
theorem u8 (hm:Mem w U ι ob) {dst:Option Nat} {t:Nat} {g:Bool} {r:cD} (hr:(fresh dst (.mp g [] [] true) fun k=>.one (.mk k)).run ob=some r):io P w U ι ob (Instr.makeMap t none) r:=by
 refine me hm hr (u:=.map (some w.heap.size)) (obj:=.map #[] 0) (c:=0) (by simp [Instr.makeMap]) rfl ?_ ?_
 ·intro k ι' ob' _ hι e'
  exact ⟨#[],0,by rw [hι];exact heap_alloc_new w _,by simp [KR],by rw [hι];simp;intro h;exact absurd (hm.lt _ h) (by simp)⟩
 ·intro k ι' ob' ho hι
  simp only [VR,LR]
  exact ⟨g,[],[],true,ho,by rw [hι]⟩
end
section
open Go.RowKit
variable {P:Program} {w:World} {U:Nat→Prop} {ι:Pl} {ob:Ob}
theorem wU (hm:Mem w U ι ob) {k:Nat} {rows rows':List (List D)} {size elem:Nat} {cur:Array Value} (hk:ob k=some (.arr rows size elem true)) (hcur:w.heap[(ι k).1]?=some (.cells cur elem (0,0)))
  {new:List Value} (hnl:new.length=cur.size) (hlen:rows'.length=rows.length) (hrl:∀ r∈rows',r.length=size) {vs:List Value} (hvs:FR w U rows'.flatten vs) (hv:∀ (j:Nat) (u:Value),vs[j]?=some u→new[j]?=some u) :
  ∃ ι',Mem (w.setRow (ι k).1 new.toArray) U ι' (cx ob k (.arr rows' size elem true))∧Evo w U ι ob (w.setRow (ι k).1 new.toArray) U ι' (cx ob k (.arr rows' size elem true)):=by
 obtain ⟨cur',h2,h3,h4,h5,h6,h7⟩:=hm.obj k _ hk
 rw [hcur] at h2
 cases h2
 obtain ⟨m1,m2⟩:=eY (w':=w.setRow (ι k).1 new.toArray) hm k (.arr rows' size elem true) (ι k) rfl rfl rfl (by rw [jW];exact Tf _)
  (fun b _ hb=>setRow_other _ _ _ _ (hb.resolve_left (by simp [hk]))) (fun o ho=>by rw [hk] at ho;cases ho;exact ⟨rfl,rfl,rfl,by omega,fun _=>rfl⟩) (.inr ⟨by simp [hk],rfl⟩) rfl
  (fun e'=>by
   refine ⟨_,by rw [ap];exact setRow_heap _ _ _ _ _ _ hcur,by rw [ap];omega,by rw [ap];exact h4,by rw [ap];simp [hnl,h5],?_,by rw [ap];exact h7⟩
   rw [ap,eu]
   refine ⟨hrl,vs,FR.mono e'.kept e'.sub _ _ hvs,fun j u hj=>?_⟩
   rw [bG (setRow_heap _ _ _ _ _ _ hcur)]
   simpa using hv j u hj)
 exact ⟨_,m1,m2⟩
theorem yN (hm:Mem w U ι ob) {x:V} {ux:Value} {t ty e:Nat} {zs:List Value} {r:cD} (hx:VR w U ι ob x ux) (he:cp P t=some e) (hz:cE P e=some zs) (hs0:0 < zs.length) (hr:(dq zs x).run ob=some r) :
  io P w U ι ob (Builtin.clear_ #[t] ty #[ux]) r:=by
 obtain ⟨zv,hzv,hzc,hzp⟩:=tI (w:=w) hz
 have hu:=eB he
 unfold dq at hr
 split at hr
 ·simp only [Q.run,T3] at hr
  subst hr
  simp only [VR,LR,DR] at hx
  obtain ⟨rfl,_⟩:=hx
  refine aO hm (u:=.tuple #[]) ?_ (by simp only [VR,VF];exact ⟨#[],rfl,rfl⟩)
  simp [Builtin.clear_,run_underlying hu]
 ·rename_i k off n c
  simp only [Q.run] at hr
  split at hr
  ·rename_i rows size elem own hk
   obtain ⟨hg,hr'⟩:=aF hr
   simp only [Q.run,T3] at hr'
   subst hr'
   clear hr
   simp only [Te,T4] at hg
   obtain ⟨hown,rfl,rfl,hofn⟩:=hg
   subst hown
   simp only [VR,LR] at hx
   obtain ⟨rows',size',elem',own',hk',_,hval,_⟩:=hx
   rw [hk] at hk'
   cases hk'
   obtain ⟨_,rfl⟩:=hval rfl
   obtain ⟨cur,h2,h3,h4,h5,h6,h7⟩:=hm.obj k _ hk
   rw [eu] at h6
   obtain ⟨hrl,vs,hvs,hcell⟩:=h6
   have hvl:vs.length=rows.length*zs.length:=by
    rw [hvs.len,cF (fun r hr=>hrl r hr)]
   have hvc:∀ (j:Nat) (u:Value),vs[j]?=some u→cur.toList[j]?=some u:=fun j u hj=>by
    have:=hcell j u hj
    rw [bG h2] at this
    simpa using this
   have hzsz:zv.cells.size=zs.length:=by rw [←hzc];simp
   have hzer:(Builtin.zeroCells zv.cells n).toList=(List.replicate n zs).flatten:=by
    have:=gA (z:=zv.cells) (n:=n) hzsz hs0
    rw [hzc] at this
    rw [←this]
    unfold Builtin.zeroCells
    rw [hzsz]
   have hzflen:(List.replicate n zs).flatten.length=n*zs.length:=by
    simp [List.length_flatten]
   have hcl:rows.length*zs.length≤cur.toList.length:=by
    have:=W7 zs.length h3
    rw [←h5] at this
    simpa using this
   have hmul:off*zs.length+n*zs.length=rows.length*zs.length:=by rw [←Wc,hofn]
   have hone:∀ v∈(List.replicate n zs).flatten,v.oneCell'=true:=by
    intro v hv
    obtain ⟨l,hl,hv⟩:=List.mem_flatten.1 hv
    rw [(List.mem_replicate.1 hl).2] at hv
    exact sn (by simpa using (V4.1 hzp) v hv)
   have hnl:(cur.toList.take (off*zs.length)++(List.replicate n zs).flatten++cur.toList.drop (off*zs.length+(List.replicate n zs).flatten.length)).length=cur.size:=by
    simp only [Tp,Vo,Xh,hzflen,Wo] at hcl ⊢
    omega
   obtain ⟨ι',m1,m2⟩:=wU hm hk h2 hnl (rows':=rows.take off++List.replicate n (zs.map .lit)) (by simp;omega)
    (fun r hr=>by
     rcases V6.1 hr with hr | hr
     ·exact hrl r (Wx hr)
     ·rw [(List.mem_replicate.1 hr).2];simp)
    (vs:=vs.take (off*zs.length)++(List.replicate n zs).flatten)
    (by
     rw [Wp]
     have hto:(rows.take off).flatten=rows.flatten.take (off*zs.length):=by
      have e1:rows.flatten=(rows.take off).flatten++(rows.drop off).flatten:=by rw [←Wp,Xb]
      have e2:(rows.take off).flatten.length=off*zs.length:=by
       rw [cF (size:=zs.length) (fun r hr=>hrl r (Wx hr)),Vo,Nat.min_eq_left (by omega)]
      rw [e1,Vk (by omega),← e2,Vf]
     rw [hto]
     exact (hvs.take _).append (gx hzp n))
    (fun j u hj=>by
     by_cases hlt:j < off*zs.length
     ·rw [V2 (by rw [Vo];omega),Vs,T1 hlt] at hj
      rw [To,V2 (by rw [Vo];omega),Vs,T1 hlt]
      exact hvc j u hj
     ·have hl1:(vs.take (off*zs.length)).length=off*zs.length:=by rw [Vo];omega
      have hl2:(cur.toList.take (off*zs.length)).length=off*zs.length:=by rw [Vo];omega
      rw [Vd (by omega),hl1] at hj
      rw [To,Vd (by omega),hl2]
      have:=(Tn.1 hj).1
      rw [V2 this]
      exact hj)
   by_cases hn:n=0
   ·subst hn
    have hoff:off=rows.length:=by omega
    have hself:cx ob k (.arr (rows.take off++List.replicate 0 (zs.map .lit)) zs.length elem true)=ob:=by
     funext j
     simp only [cx,hoff,Vf,List.replicate_zero,Tt]
     split
     ·rename_i e;rw [e,hk]
     ·rfl
    refine ⟨.tuple #[],w,U,ι,?_,?_,?_,by simp only [VR,VF];exact ⟨#[],rfl,rfl⟩⟩
    ·simp [Builtin.clear_,run_underlying hu]
    ·simp only [bk];rw [hself];exact hm
    ·simp only [bk];rw [hself];exact Evo.refl _ _ _ _
   ·have hrun:=run_storeCells_at P (ι k).1 (off*zs.length) elem (List.replicate n zs).flatten 0 cur w h2 (by rw [hzflen];simp only [Wo] at hcl;omega) hone
    simp only [Wk] at hrun
    refine ⟨.tuple #[],_,U,ι',?_,m1,m2,by simp only [VR,VF];exact ⟨#[],rfl,rfl⟩⟩
    cases n with
    | zero=>exact absurd rfl hn
    | succ n=>simp [Builtin.clear_,run_underlying hu,hzv,hzer,hrun]
  ·simp [Q.run] at hr
 ·simp [Q.run] at hr
theorem ox (w:World) (o:Obj) {b:Nat} (hb:b < w.heap.size):(w.alloc o).heap[b]?=w.heap[b]?:=by
 show (w.heap.push o)[b]?=_
 rw [Array.getElem?_push,T5 (by omega)]
theorem vU (hm:Mem w U ι ob) (obj:Obj):Mem (w.alloc obj) (fun b=>U b∨b=w.heap.size) ι ob∧Evo w U ι ob (w.alloc obj) (fun b=>U b∨b=w.heap.size) ι ob:=by
 have e:Evo w U ι ob (w.alloc obj) (fun b=>U b∨b=w.heap.size) ι ob :=
  ⟨rfl,rfl,rfl,by simp,fun b hb=>ox w obj (hm.lt b hb),fun _ h=>.inl h,fun _ cells _ h=>⟨cells,h,rfl⟩,fun _ rows _ _ own h=>⟨rows,own,h,Tf _,fun _=>rfl⟩,fun _ _ keys vals own h=>⟨keys,vals,own,h,rfl⟩,
   fun b hb _=>ox w obj hb,fun k o h ho=>.inr ⟨k,o,h,ho,rfl⟩,fun b h=>h.elim .inl fun h=>.inr (.inl (by omega))⟩
 refine ⟨⟨fun b hb=>?_,fun k o hk=>?_,hm.inj⟩,e⟩
 ·have:(w.alloc obj).heap.size=w.heap.size+1:=by simp
  rcases hb with hb | rfl
  ·have:=hm.lt b hb;omega
  ·omega
 ·have hlt:=hm.block hk
  have hne:(ι k).1≠w.heap.size:=by omega
  refine OR.evo e rfl (ox w obj hlt) ⟨fun h=>h.resolve_right hne,.inl⟩ (hm.obj k o hk) |> fun h=>?_
  exact h
theorem wk (hm:Mem w U ι ob) {t e s len:Nat} {zs:List Value} {ρ:Operand→V} {ρ':Operand→Value} {parts:Array (Nat×Operand)} {rows:List (List D)} {us:List (Nat×O)}
  (hρ:∀ x,VR w U ι ob (ρ x) (ρ' x)) (he:cp P t=some e) (hs:bE P e=some s) (hz:cE P e=some zs) (hs0:0 < s) (hzl:zs.length=s) (hlen:len*s≤16777216)
  (hrows:(dl ρ s (List.replicate len (zs.map .lit)) parts.toList).run ob=some (rows,us)) :
  io P w U ι ob (Instr.buildSlice t len (parts.map fun (i,x)=>(i,ρ' x))) (.one (.d (.sl s rows)),us):=by
 obtain ⟨U',arr',m1,m2,m4,m5,hrl,hasz,m7,hrun⟩:=kM hm hρ he hs hz hs0 hzl hlen hrows
 obtain ⟨n1,n2⟩:=vU m1 (.cells arr' e)
 refine ⟨_,w.alloc (.cells arr' e),_,ι,hrun,n1,m2.trans n2,?_⟩
 simp only [VR,LR,DR]
 have hle:len≤len*s:=Nat.le_mul_of_pos_right _ hs0
 refine ⟨⟨w.heap.size,0,none⟩,len,by rw [hrl],by omega,by simp [maxLen];omega,fun _=>⟨w.heap.size,0,rfl,.inr rfl,?_⟩⟩
 have hnew:(w.alloc (.cells arr' e)).heap[w.heap.size]?=some (.cells arr' e (0,0)):=heap_alloc_new w _
 exact eu.2 ⟨m5,arr'.toList,FR.mono n2.kept n2.sub _ _ m4,fun j u hu=>by rw [bG hnew,Tz];simpa using hu⟩
theorem Cx (hm:Mem w U ι ob) {x:V} {u:Value} {cs:List L} {e:Nat} {r:cD} (hx:VR w U ι ob x u) (hc:x.cells=some cs)
  (hr:((ez cs).bind fun (ds,us)=>.ret (.one (.d (.dp ds 0)),us)).run ob=some r):io P w U ι ob (Instr.box e u) r:=by
 obtain ⟨⟨ds,us⟩,hf,hr⟩:=aH hr
 simp only [Q.run,T3] at hr
 subst hr
 have hl:=(VR.cells hx hc).1
 obtain ⟨U1,m1,e1,f1,_⟩:=jA hf (SameBut.refl ob) hm hl
 obtain ⟨m2,e2⟩:=vU m1 (.cells u.cells e)
 refine ⟨.pointer (some ⟨w.heap.size,0,none⟩),w.alloc (.cells u.cells e),_,ι,by simp [Instr.box,newVar,newRow],m2,e1.trans e2,?_⟩
 simp only [VR,LR,DR]
 refine ⟨w.heap.size,0,rfl,.inr rfl,?_⟩
 rw [oE]
 refine ⟨u.cells.toList,FR.mono e2.kept e2.sub _ _ f1,fun j v hj=>?_⟩
 have hh:(w.alloc (.cells u.cells e)).heap[w.heap.size]?=some (.cells u.cells e):=heap_alloc_new w _
 rw [bG hh]
 simpa using hj
end
end Go.VE
