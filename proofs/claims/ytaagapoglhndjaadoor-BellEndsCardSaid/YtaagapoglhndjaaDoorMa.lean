/- The data that a Go value reads as, and the relation between such data and the model's memory. -/
import Derived.WalkKit
import Derived.Maps.AppendAt
import Derived.Deep.Draws
import Derived.Laws.MakeOwn
import Derived.Laws.Slices
import Derived.Laws.StructEq
namespace Go.VE
theorem Jl:type_of% @Bool.false_eq_true:=@Bool.false_eq_true
theorem Jm:type_of% @Option.some.injEq:=@Option.some.injEq
theorem Jn:type_of% @Bool.and_eq_true:=@Bool.and_eq_true
theorem Jo:type_of% @List.getElem?_eq_getElem:=@List.getElem?_eq_getElem
theorem Jp:type_of% @List.length_map:=@List.length_map
theorem Jq:type_of% @decide_eq_true_eq:=@decide_eq_true_eq
theorem Jr:type_of% @decide_true:=@decide_true
theorem Js:type_of% @if_true:=@if_true
theorem Jt:type_of% @decide_false:=@decide_false
theorem Ju:type_of% @if_false:=@if_false
theorem Jv:type_of% @Nat.zero_add:=@Nat.zero_add
theorem Jw:type_of% @Option.map_eq_some_iff:=@Option.map_eq_some_iff
theorem Jx:type_of% @List.length_cons:=@List.length_cons
theorem Jy:type_of% @List.length_nil:=@List.length_nil
theorem Jz:type_of% @List.map_cons:=@List.map_cons
theorem K0:type_of% @List.length_append:=@List.length_append
theorem K1:type_of% @if_pos:=@if_pos
theorem K2:type_of% @List.mem_of_getElem?:=@List.mem_of_getElem?
theorem K4:type_of% @Int.toNat_natCast:=@Int.toNat_natCast
theorem K5:type_of% @List.getElem?_eq_some_iff:=@List.getElem?_eq_some_iff
theorem K6:type_of% @List.getD_eq_getElem?_getD:=@List.getD_eq_getElem?_getD
theorem K7:type_of% @Bool.not_true:=@Bool.not_true
theorem K8:type_of% @Option.bind_some:=@Option.bind_some
theorem K9:type_of% @List.getElem?_map:=@List.getElem?_map
theorem Ka:type_of% @List.mem_cons:=@List.mem_cons
theorem Kb:type_of% @List.append_assoc:=@List.append_assoc
theorem Kc:type_of% @if_neg:=@if_neg
theorem Kd:type_of% @List.take_of_length_le:=@List.take_of_length_le
theorem Ke:type_of% @List.nil_append:=@List.nil_append
theorem Kf:type_of% @List.mem_append:=@List.mem_append
theorem Kg:type_of% @Nat.le_refl:=@Nat.le_refl
theorem Kh:type_of% @List.append_nil:=@List.append_nil
theorem Ki:type_of% @Bool.true_and:=@Bool.true_and
theorem Kj:type_of% @List.mem_filter:=@List.mem_filter
theorem Kk:type_of% @Nat.add_zero:=@Nat.add_zero
theorem Kl:type_of% @List.mem_singleton:=@List.mem_singleton
theorem Km:type_of% @Option.bind_eq_some_iff:=@Option.bind_eq_some_iff
theorem Kn:type_of% @Prod.mk.injEq:=@Prod.mk.injEq
theorem Ko:type_of% @Array.getD_eq_getD_getElem?:=@Array.getD_eq_getD_getElem?
theorem Kp:type_of% @List.cons_append:=@List.cons_append
theorem Kq:type_of% @List.all_eq_true:=@List.all_eq_true
theorem Kr:type_of% @List.getElem?_eq_none:=@List.getElem?_eq_none
theorem Ks:type_of% @List.mem_cons_of_mem:=@List.mem_cons_of_mem
theorem Kt:type_of% @and_self:=@and_self
theorem Ku:type_of% @not_false_eq_true:=@not_false_eq_true
theorem Kv:type_of% @Option.map_some:=@Option.map_some
theorem Kw:type_of% @List.mem_map:=@List.mem_map
theorem Kx:type_of% @List.getElem?_cons_zero:=@List.getElem?_cons_zero
theorem Ky:type_of% @List.map_nil:=@List.map_nil
theorem Kz:type_of% @List.mem_append_left:=@List.mem_append_left
theorem M1:type_of% @Bool.not_eq_true':=@Bool.not_eq_true'
theorem M2:type_of% @List.mem_append_right:=@List.mem_append_right
theorem M3:type_of% @List.length_take:=@List.length_take
theorem M4:type_of% @Option.getD_some:=@Option.getD_some
theorem M5:type_of% @List.not_mem_nil:=@List.not_mem_nil
theorem M6:type_of% @List.map_append:=@List.map_append
theorem M7:type_of% @decide_eq_false_iff_not:=@decide_eq_false_iff_not
theorem M8:type_of% @Nat.mul_le_mul_right:=@Nat.mul_le_mul_right
theorem M9:type_of% @List.getElem?_take:=@List.getElem?_take
theorem Ma:type_of% @List.getElem?_append_left:=@List.getElem?_append_left
theorem Mb:type_of% @List.take_length:=@List.take_length
theorem Mc:type_of% @List.nodup_cons:=@List.nodup_cons
theorem Md:type_of% @Bool.or_eq_true:=@Bool.or_eq_true
theorem Me:type_of% @Array.getElem?_eq_some_iff:=@Array.getElem?_eq_some_iff
theorem Mf:type_of% @List.ext_getElem?:=@List.ext_getElem?
theorem Mg:type_of% @List.mem_range:=@List.mem_range
theorem Mh:type_of% @Bool.false_and:=@Bool.false_and
theorem Mi:type_of% @Nat.lt_of_lt_of_le:=@Nat.lt_of_lt_of_le
theorem Mj:type_of% @List.mem_cons_self:=@List.mem_cons_self
theorem Mk:type_of% @not_true:=@not_true
theorem Ml:type_of% @List.map_map:=@List.map_map
theorem Mm:type_of% @List.take_append_drop:=@List.take_append_drop
theorem Mn:type_of% @List.take_succ_cons:=@List.take_succ_cons
theorem Mo:type_of% @List.filter_cons:=@List.filter_cons
theorem Mp:type_of% @List.mem_of_mem_take:=@List.mem_of_mem_take
theorem Mq:type_of% @Bool.not_false:=@Bool.not_false
theorem Mt:type_of% @List.getElem?_drop:=@List.getElem?_drop
theorem Mu:type_of% @Option.isSome_iff_exists:=@Option.isSome_iff_exists
theorem Mv:type_of% @Bool.eq_false_or_eq_true:=@Bool.eq_false_or_eq_true
theorem Mw:type_of% @Array.length_toList:=@Array.length_toList
theorem Mx:type_of% @List.getElem?_range:=@List.getElem?_range
theorem My:type_of% @Function.comp_def:=@Function.comp_def
theorem Mz:type_of% @Bool.or_false:=@Bool.or_false
theorem T0:type_of% @Nat.add_mul:=@Nat.add_mul
theorem T1:type_of% @or_false:=@or_false
theorem T2:type_of% @List.drop_eq_getElem_cons:=@List.drop_eq_getElem_cons
theorem T3:type_of% @ne_eq:=@ne_eq
theorem T4:type_of% @Int.natCast_zero:=@Int.natCast_zero
theorem T5:type_of% @List.map_congr_left:=@List.map_congr_left
theorem T6:type_of% @Nat.le_trans:=@Nat.le_trans
theorem T7:type_of% @List.getElem?_append_right:=@List.getElem?_append_right
theorem T8:type_of% @Nat.add_assoc:=@Nat.add_assoc
theorem T9:type_of% @List.isEmpty_nil:=@List.isEmpty_nil
theorem Ta:type_of% @List.flatten_append:=@List.flatten_append
theorem Tb:type_of% @List.eq_nil_of_length_eq_zero:=@List.eq_nil_of_length_eq_zero
theorem Tc:type_of% @List.take_append_of_le_length:=@List.take_append_of_le_length
theorem Td:type_of% @List.length_filter_le:=@List.length_filter_le
theorem Te:type_of% @List.set_set:=@List.set_set
theorem Tf:type_of% @beq_iff_eq:=@beq_iff_eq
theorem Tg:type_of% @List.map_set:=@List.map_set
theorem Th:type_of% @Array.getElem?_eq_getElem:=@Array.getElem?_eq_getElem
theorem Ti:type_of% @List.contains_iff_mem:=@List.contains_iff_mem
theorem Tj:type_of% @List.all_cons:=@List.all_cons
theorem Tk:type_of% @List.getElem?_set_ne:=@List.getElem?_set_ne
theorem Tl:type_of% @Int.le_refl:=@Int.le_refl
theorem Tm:type_of% @List.nodup_append:=@List.nodup_append
theorem Tn:type_of% @Array.toList_append:=@Array.toList_append
theorem To:type_of% @Bool.and_true:=@Bool.and_true
theorem Tp:type_of% @List.length_drop:=@List.length_drop
theorem Tq:type_of% @Array.toList_map:=@Array.toList_map
theorem Tr:type_of% @Option.getD_none:=@Option.getD_none
theorem Ts:type_of% @List.drop_zero:=@List.drop_zero
theorem Tt:type_of% @Option.map_none:=@Option.map_none
theorem Tu:type_of% @Nat.min_eq_left:=@Nat.min_eq_left
theorem Tv:type_of% @List.flatten_cons:=@List.flatten_cons
theorem Tw:type_of% @List.length_range:=@List.length_range
theorem Tx:type_of% @List.length_pos_iff:=@List.length_pos_iff
theorem Ty:type_of% @List.getD_cons_zero:=@List.getD_cons_zero
theorem Tz:type_of% @true_and:=@true_and
theorem V0:type_of% @Nat.add_sub_cancel:=@Nat.add_sub_cancel
theorem V1:type_of% @List.drop_eq_nil_of_le:=@List.drop_eq_nil_of_le
theorem V2:type_of% @List.filter_append:=@List.filter_append
theorem V4:type_of% @List.map_take:=@List.map_take
theorem V5:type_of% @Array.getElem?_toList:=@Array.getElem?_toList
theorem V6:type_of% @List.singleton_append:=@List.singleton_append
theorem V7:type_of% @List.getElem?_append:=@List.getElem?_append
theorem V8:type_of% @List.mapM_cons:=@List.mapM_cons
theorem V9:type_of% @List.nodup_nil:=@List.nodup_nil
theorem Va:type_of% @beq_self_eq_true:=@beq_self_eq_true
theorem Vb:type_of% @Array.getElem?_push:=@Array.getElem?_push
theorem Vc:type_of% @List.length_set:=@List.length_set
theorem Vd:type_of% @Bool.and_self:=@Bool.and_self
theorem Ve:type_of% @and_true:=@and_true
section
inductive D where
 | lit (v:Value)
 | sl (size:Nat) (rows:List (List D))
 | dp (row:List D) (off:Nat)
 | fn (f:Nat) (caps:List D)
 | mp (agg:Bool) (keys:List Value) (vals:List (List D))
 | ifc (t:Nat) (agg:Bool) (row:List D)
def dj (agg:Bool) (cs:List Value):Value:=if agg then .agg cs.toArray else cs.headD (.tuple #[])
instance:Inhabited D:=⟨.lit .nilFunc⟩
def plain:Value→Bool
 | .bool _ | .int _ _ | .string _ | .pointer none | .slice none 0 0 | .map none | .nilFunc | .nilIface=>true
 | _=>false
def iy (f:Nat) (cs:Array Value):Value:=if f < 2000000 then .func (.func f) #[] cs else .func (.func (f - 2000000)) cs #[]
mutual
def DR (w:World) (U:Nat→Prop):D→Value→Prop
 | .lit v,v'=>v'=v∧plain v=true
 | .sl size rows,v'=>∃ a cap,v'=.slice (some a) rows.length cap∧rows.length≤cap∧cap≤maxLen∧(0 < rows.length→∃ b o,a=⟨b,o,none⟩∧U b∧RR w U b o size rows)
 | .dp row off,v'=>∃ b o,v'=.pointer (some ⟨b,o+off,none⟩)∧U b∧CR w U b o row
 | .fn f caps,v'=>∃ cs,v'=iy f cs∧FR w U caps cs.toList
 | .mp agg keys vals,v'=>∃ r es clock,v'=.map (some r)∧U r∧w.heap[r]?=some (.map es clock)∧KR w U agg keys es.toList vals
 | .ifc t agg row,v'=>∃ cs,v'=.iface t (dj agg cs)∧(agg=false→cs.length=1)∧FR w U row cs
def CR (w:World) (U:Nat→Prop) (b:Nat):Nat→List D→Prop
 | _,[]=>True
 | o,x::xs=>(∃ u,w.cell? ⟨b,o,none⟩=some u∧DR w U x u)∧CR w U b (o+1) xs
def RR (w:World) (U:Nat→Prop) (b:Nat):Nat→Nat→List (List D)→Prop
 | _,_,[]=>True
 | o,size,r::rs=>r.length=size∧CR w U b o r∧RR w U b (o+size) size rs
def FR (w:World) (U:Nat→Prop):List D→List Value→Prop
 | [],vs=>vs=[]
 | x::xs,vs=>∃ v vs',vs=v::vs'∧DR w U x v∧FR w U xs vs'
def KR (w:World) (U:Nat→Prop) (agg:Bool) (keys:List Value) (es:List MapEntry):List (List D)→Prop
 | []=>keys=[]∧es=[]
 | r::rs=>∃ k ks e es' cs,keys=k::ks∧es=e::es'∧e.key=k∧plain k=true∧e.val=dj agg cs∧(agg=false→cs.length=1)∧FR w U r cs∧KR w U agg ks es' rs
end
mutual
theorem DR.mono {w w':World} {U U':Nat→Prop} (hb:∀ b,U b→w'.heap[b]?=w.heap[b]?) (hU:∀ b,U b→U' b):∀ (x:D) (v:Value),DR w U x v→DR w' U' x v
 | .lit v,v',h=>by simpa [DR] using h
 | .sl size rows,v',h=>by
  simp only [DR] at h ⊢
  obtain ⟨a,cap,h1,h2,h2',h3⟩:=h
  refine ⟨a,cap,h1,h2,h2',fun hn=>?_⟩
  obtain ⟨b,o,e,hu,hr⟩:=h3 hn
  exact ⟨b,o,e,hU b hu,RR.mono hb hU b (hb b hu) rows o size hr⟩
 | .dp row off,v',h=>by
  simp only [DR] at h ⊢
  obtain ⟨b,o,e,hu,hr⟩:=h
  exact ⟨b,o,e,hU b hu,CR.mono hb hU b (hb b hu) row o hr⟩
 | .fn f caps,v',h=>by
  simp only [DR] at h ⊢
  obtain ⟨cs,e,hr⟩:=h
  exact ⟨cs,e,FR.mono hb hU caps cs.toList hr⟩
 | .mp agg keys vals,v',h=>by
  simp only [DR] at h ⊢
  obtain ⟨r,es,clock,e,hu,hh,hk⟩:=h
  exact ⟨r,es,clock,e,hU r hu,(hb r hu).trans hh,KR.mono hb hU vals agg keys es.toList hk⟩
 | .ifc t agg row,v',h=>by
  simp only [DR] at h ⊢
  obtain ⟨cs,e,hl,hr⟩:=h
  exact ⟨cs,e,hl,FR.mono hb hU row cs hr⟩
theorem CR.mono {w w':World} {U U':Nat→Prop} (hb:∀ b,U b→w'.heap[b]?=w.heap[b]?) (hU:∀ b,U b→U' b) (b:Nat) (hu:w'.heap[b]?=w.heap[b]?):∀ (xs:List D) (o:Nat),CR w U b o xs→CR w' U' b o xs
 | [],o,h=>by simp [CR]
 | x::xs,o,h=>by
  simp only [CR] at h ⊢
  obtain ⟨⟨u,hc,hd⟩,hr⟩:=h
  exact ⟨⟨u,(World.cell?_of_block hu).trans hc,DR.mono hb hU x u hd⟩,CR.mono hb hU b hu xs (o+1) hr⟩
theorem RR.mono {w w':World} {U U':Nat→Prop} (hb:∀ b,U b→w'.heap[b]?=w.heap[b]?) (hU:∀ b,U b→U' b) (b:Nat) (hu:w'.heap[b]?=w.heap[b]?):∀ (rs:List (List D)) (o size:Nat),RR w U b o size rs→RR w' U' b o size rs
 | [],o,size,h=>by simp [RR]
 | r::rs,o,size,h=>by
  simp only [RR] at h ⊢
  exact ⟨h.1,CR.mono hb hU b hu r o h.2.1,RR.mono hb hU b hu rs (o+size) size h.2.2⟩
theorem FR.mono {w w':World} {U U':Nat→Prop} (hb:∀ b,U b→w'.heap[b]?=w.heap[b]?) (hU:∀ b,U b→U' b):∀ (xs:List D) (vs:List Value),FR w U xs vs→FR w' U' xs vs
 | [],vs,h=>by simpa [FR] using h
 | x::xs,vs,h=>by
  simp only [FR] at h ⊢
  obtain ⟨v,vs',e,h1,h2⟩:=h
  exact ⟨v,vs',e,DR.mono hb hU x v h1,FR.mono hb hU xs vs' h2⟩
theorem KR.mono {w w':World} {U U':Nat→Prop} (hb:∀ b,U b→w'.heap[b]?=w.heap[b]?) (hU:∀ b,U b→U' b):∀ (rs:List (List D)) (agg:Bool) (keys:List Value) (es:List MapEntry),KR w U agg keys es rs→KR w' U' agg keys es rs
 | [],agg,keys,es,h=>by simpa [KR] using h
 | r::rs,agg,keys,es,h=>by
  simp only [KR] at h ⊢
  obtain ⟨k,ks,e,es',cs,h1,h2,h3,h4,h5,h6,h7,h8⟩:=h
  exact ⟨k,ks,e,es',cs,h1,h2,h3,h4,h5,h6,FR.mono hb hU r cs h7,KR.mono hb hU rs agg ks es' h8⟩
end
theorem CR.at_ {w:World} {U:Nat→Prop} {b:Nat}:∀ {xs:List D} {o:Nat},CR w U b o xs→∀ {j:Nat} {x:D},xs[j]?=some x→∃ u,w.cell? ⟨b,o+j,none⟩=some u∧DR w U x u
 | [],_,_,j,x,hj=>by simp at hj
 | y::ys,o,h,0,x,hj=>by simp at hj;subst hj;simp only [CR] at h;simpa using h.1
 | y::ys,o,h,j+1,x,hj=>by
  simp only [CR] at h
  have:=CR.at_ h.2 (j:=j) (x:=x) (by simpa using hj)
  rw [show o+1+j=o+(j+1) by omega] at this
  exact this
theorem CR.mk {w:World} {U:Nat→Prop} {b:Nat}:∀ {xs:List D} {o:Nat},(∀ (j:Nat) (x:D),xs[j]?=some x→∃ u,w.cell? ⟨b,o+j,none⟩=some u∧DR w U x u)→CR w U b o xs
 | [],o,_=>by simp [CR]
 | y::ys,o,h=>by
  simp only [CR]
  refine ⟨by simpa using h 0 y rfl,CR.mk fun j x hj=>?_⟩
  have:=h (j+1) x (by simpa using hj)
  rwa [show o+(j+1)=o+1+j by omega] at this
theorem RR.at_ {w:World} {U:Nat→Prop} {b:Nat}:∀ {rs:List (List D)} {o size:Nat},RR w U b o size rs→∀ {i:Nat} {r:List D},rs[i]?=some r→r.length=size∧CR w U b (o+i*size) r
 | [],_,_,_,i,r,hi=>by simp at hi
 | y::ys,o,size,h,0,r,hi=>by simp at hi;subst hi;simp only [RR] at h;simpa using ⟨h.1,h.2.1⟩
 | y::ys,o,size,h,i+1,r,hi=>by
  simp only [RR] at h
  have:=RR.at_ h.2.2 (i:=i) (r:=r) (by simpa using hi)
  rw [show o+size+i*size=o+(i+1)*size by rw [T0];omega] at this
  exact this
theorem RR.mk {w:World} {U:Nat→Prop} {b:Nat}:∀ {rs:List (List D)} {o size:Nat},(∀ (i:Nat) (r:List D),rs[i]?=some r→r.length=size∧CR w U b (o+i*size) r)→RR w U b o size rs
 | [],o,size,_=>by simp [RR]
 | y::ys,o,size,h=>by
  simp only [RR]
  have h0:=h 0 y rfl
  refine ⟨h0.1,by simpa using h0.2,RR.mk fun i r hi=>?_⟩
  have:=h (i+1) r (by simpa using hi)
  rw [show o+(i+1)*size=o+size+i*size by rw [T0];omega] at this
  exact this
theorem RR.drop {w:World} {U:Nat→Prop} {b o size:Nat} {rs:List (List D)} (h:RR w U b o size rs) (k:Nat):RR w U b (o+k*size) size (rs.drop k) :=
 RR.mk fun i r hi=>by
  have:=h.at_ (i:=k+i) (r:=r) (by rwa [Mt] at hi)
  rw [show o+(k+i)*size=o+k*size+i*size by rw [T0];omega] at this
  exact this
theorem RR.take {w:World} {U:Nat→Prop} {b o size:Nat} {rs:List (List D)} (h:RR w U b o size rs) (k:Nat):RR w U b o size (rs.take k) :=
 RR.mk fun i r hi=>by
  rw [M9] at hi
  split at hi
  ·exact h.at_ hi
  ·cases hi
inductive L where
 | d (x:D)
 | slk (k off n c:Nat)
 | pa (k i off c:Nat)
 | ptr (k off:Nat)
 | fn (f:Nat) (caps:List L)
 | mk (k:Nat)
 | mq (k:Nat)
 | pb (k j off:Nat)
 | sln (k n:Nat)
 | undef
instance:Inhabited L:=⟨.undef⟩
inductive V where
 | one (x:L)
 | agg (xs:List L)
 | tup (xs:List V)
instance:Inhabited V:=⟨.one .undef⟩
inductive O where
 | box (cells:List L) (elem:Nat)
 | arr (rows:List (List D)) (size:Nat) (elem:Nat) (own:Bool)
 | mp (agg:Bool) (keys:List Value) (vals:List (List D)) (own:Bool)
 | ml (keys:List Value) (vals:List L)
 | am (keys:List Value) (rows:List (List D)) (size elem:Nat)
 | nul
structure Pt where
 b:Nat
 c:Nat
 m:List Nat
def Pt.foot (p:Pt):List Nat:=p.1::p.3
abbrev Pl:=Nat→Pt
abbrev Ob:=Nat→Option O
mutual
def LR (w:World) (U:Nat→Prop) (ι:Pl) (ob:Ob):L→Value→Prop
 | .d x,v=>DR w U x v
 | .slk k off n c,v=>∃ rows size elem own,ob k=some (.arr rows size elem own)∧c≤rows.length∧(c=rows.length→off+n≤c∧v=.slice (some ⟨(ι k).1,off*size,none⟩) n ((ι k).2 - off))∧∃ a c',v=.slice a n c'∧n≤c'∧c'≤maxLen
 | .pa k i off c,v=>∃ rows size elem own,ob k=some (.arr rows size elem own)∧c≤rows.length∧(c=rows.length→i < c∧v=.pointer (some ⟨(ι k).1,i*size+off,none⟩))∧∃ a,v=.pointer (some a)
 | .ptr k off,v=>∃ cells elem,ob k=some (.box cells elem)∧v=.pointer (some ⟨(ι k).1,off,none⟩)
 | .fn f caps,v=>∃ cs,v=iy f cs∧LF w U ι ob caps cs.toList
 | .mk k,v=>∃ agg keys vals own,ob k=some (.mp agg keys vals own)∧v=.map (some (ι k).1)
 | .mq k,v=>((∃ keys vals,ob k=some (.ml keys vals))∨∃ keys rows size elem,ob k=some (.am keys rows size elem))∧v=.map (some (ι k).1)
 | .pb k j off,v=>(∃ keys rows size elem,ob k=some (.am keys rows size elem))∧∃ b,(ι k).3[j]?=some b∧v=.pointer (some ⟨b,off,none⟩)
 | .sln k n,v=>(n=0∧v=.slice none 0 0)∨(0 < n∧∃ rows size elem own,ob k=some (.arr rows size elem own)∧n≤rows.length∧(n=rows.length→0+n≤n∧v=.slice (some ⟨(ι k).1,0*size,none⟩) n ((ι k).2 - 0))∧∃ a c',v=.slice a n c'∧n≤c'∧c'≤maxLen)
 | .undef,_=>True
def LF (w:World) (U:Nat→Prop) (ι:Pl) (ob:Ob):List L→List Value→Prop
 | [],vs=>vs=[]
 | x::xs,vs=>∃ v vs',vs=v::vs'∧LR w U ι ob x v∧LF w U ι ob xs vs'
end
mutual
def VR (w:World) (U:Nat→Prop) (ι:Pl) (ob:Ob):V→Value→Prop
 | .one x,v=>LR w U ι ob x v
 | .agg xs,v=>∃ cs,v=.agg cs∧LF w U ι ob xs cs.toList
 | .tup xs,v=>∃ vs,v=.tuple vs∧VF w U ι ob xs vs.toList
def VF (w:World) (U:Nat→Prop) (ι:Pl) (ob:Ob):List V→List Value→Prop
 | [],vs=>vs=[]
 | x::xs,vs=>∃ v vs',vs=v::vs'∧VR w U ι ob x v∧VF w U ι ob xs vs'
end
theorem LR.sln_slk {w:World} {U:Nat→Prop} {ι:Pl} {ob:Ob} {k n:Nat} {v:Value} (hn:0 < n):LR w U ι ob (.sln k n) v↔LR w U ι ob (.slk k 0 n n) v:=by
 simp only [LR]
 constructor
 ·rintro (⟨h,_⟩ | ⟨_,h⟩)
  ·omega
  ·exact h
 ·exact fun h=>.inr ⟨hn,h⟩
theorem LR.sln_nil {w:World} {U:Nat→Prop} {ι:Pl} {ob:Ob} {k:Nat} {v:Value}:LR w U ι ob (.sln k 0) v↔v=.slice none 0 0:=by
 simp [LR]
def ER (w:World) (U:Nat→Prop) (ι:Pl) (ob:Ob):List Value→List L→List MapEntry→Prop
 | [],[],[]=>True
 | k::ks,x::xs,e::es=>plain k=true∧e.key=k∧LR w U ι ob x e.val∧ER w U ι ob ks xs es
 | _,_,_=>False
def PR:List Value→List MapEntry→List Nat→Prop
 | [],[],_=>True
 | k::ks,e::es,b::bs=>plain k=true∧e.key=k∧e.val=.pointer (some ⟨b,0,none⟩)∧PR ks es bs
 | _,_,_=>False
def BR (w:World) (U:Nat→Prop) (size elem:Nat):List Nat→List (List D)→Prop
 | [],[]=>True
 | b::bs,r::rs=>(∃ cur,w.heap[b]?=some (.cells cur elem (0,0))∧FR w U r cur.toList)∧r.length=size∧¬ U b∧BR w U size elem bs rs
 | _,_=>False
def OR (w:World) (U:Nat→Prop) (ι:Pl) (ob:Ob) (k:Nat):O→Prop
 | .box cells elem=>∃ cur,w.heap[(ι k).1]?=some (.cells cur elem (0,0))∧LF w U ι ob cells cur.toList∧¬ U (ι k).1
 | .arr rows size elem own=>∃ cur,w.heap[(ι k).1]?=some (.cells cur elem (0,0))∧rows.length≤(ι k).2∧(ι k).2≤maxLen∧cur.size=(ι k).2*size∧RR w U (ι k).1 0 size rows∧(if own then ¬ U (ι k).1 else U (ι k).1)
 | .mp agg keys vals own=>∃ es clock,w.heap[(ι k).1]?=some (.map es clock)∧KR w U agg keys es.toList vals∧(if own then ¬ U (ι k).1 else U (ι k).1)
 | .ml keys vals=>∃ es clock,w.heap[(ι k).1]?=some (.map es clock)∧ER w U ι ob keys vals es.toList∧¬ U (ι k).1
 | .am keys rows size elem=>∃ es clock,w.heap[(ι k).1]?=some (.map es clock)∧PR keys es.toList (ι k).3∧BR w U size elem (ι k).3 rows∧¬ U (ι k).1∧(ι k).foot.Nodup
 | .nul=>False
def O.isAm:O→Bool
 | .am ..=>true
 | _=>false
def O.owned:O→Bool
 | .box ..=>true
 | .arr _ _ _ own=>own
 | .mp _ _ _ own=>own
 | .ml ..=>true
 | .am ..=>true
 | .nul=>false
structure Mem (w:World) (U:Nat→Prop) (ι:Pl) (ob:Ob):Prop where
 lt:∀ b,U b→b < w.heap.size
 obj:∀ k o,ob k=some o→OR w U ι ob k o
 inj:∀ k k' o o',ob k=some o→ob k'=some o'→o.owned=true→o'.owned=true→k≠k'→∀ b∈(ι k).foot,b∉(ι k').foot
 one:∀ k o,ob k=some o→o.isAm=false→(ι k).3=[]
structure Evo (w:World) (U:Nat→Prop) (ι:Pl) (ob:Ob) (w':World) (U':Nat→Prop) (ι':Pl) (ob':Ob):Prop where
 os:w'.os=w.os
 tape:w'.tape=w.tape
 output:w'.output=w.output
 size:w.heap.size≤w'.heap.size
 kept:∀ b,U b→w'.heap[b]?=w.heap[b]?
 sub:∀ b,U b→U' b
 box:∀ k cells elem,ob k=some (.box cells elem)→∃ cells',ob' k=some (.box cells' elem)∧(ι' k).1=(ι k).1
 arr:∀ k rows size elem own,ob k=some (.arr rows size elem own)→∃ rows' own',ob' k=some (.arr rows' size elem own')∧rows.length≤rows'.length∧(rows'.length=rows.length→ι' k=ι k)
 mp:∀ k agg keys vals own,ob k=some (.mp agg keys vals own)→∃ keys' vals' own',ob' k=some (.mp agg keys' vals' own')∧(ι' k).1=(ι k).1
 ml:∀ k keys vals,ob k=some (.ml keys vals)→∃ keys' vals',ob' k=some (.ml keys' vals')∧(ι' k).1=(ι k).1
 am:∀ k keys rows size elem,ob k=some (.am keys rows size elem)→∃ keys' rows',ob' k=some (.am keys' rows' size elem)∧(ι' k).1=(ι k).1∧(ι k).3 <+: (ι' k).3
 same:∀ b,b < w.heap.size→(∀ k o,ob k=some o→o.owned=true→b∉(ι k).foot)→w'.heap[b]?=w.heap[b]?
 ownd:∀ k o,ob' k=some o→o.owned=true→∀ b∈(ι' k).foot,w.heap.size≤b∨∃ k0 o0,ob k0=some o0∧o0.owned=true∧b∈(ι k0).foot
 orig:∀ b,U' b→U b∨w.heap.size≤b∨∃ k o,ob k=some o∧o.owned=true∧b∈(ι k).foot
theorem Evo.refl (w:World) (U:Nat→Prop) (ι:Pl) (ob:Ob):Evo w U ι ob w U ι ob :=
 ⟨rfl,rfl,rfl,Kg _,fun _ _=>rfl,fun _ h=>h,fun _ cells _ h=>⟨cells,h,rfl⟩,fun _ rows _ _ own h=>⟨rows,own,h,Kg _,fun _=>rfl⟩,fun _ _ keys vals own h=>⟨keys,vals,own,h,rfl⟩,fun _ keys vals h=>⟨keys,vals,h,rfl⟩,fun _ keys rows _ _ h=>⟨keys,rows,h,rfl,List.prefix_refl _⟩,fun _ _ _=>rfl,fun k o h ho _ hb=>.inr ⟨k,o,h,ho,hb⟩,fun _ h=>.inl h⟩
theorem Evo.trans {w w' w'':World} {U U' U'':Nat→Prop} {ι ι' ι'':Pl} {ob ob' ob'':Ob} (h:Evo w U ι ob w' U' ι' ob') (k:Evo w' U' ι' ob' w'' U'' ι'' ob''):Evo w U ι ob w'' U'' ι'' ob'':=by
 refine ⟨k.os.trans h.os,k.tape.trans h.tape,k.output.trans h.output,T6 h.size k.size,fun b hb=>(k.kept b (h.sub b hb)).trans (h.kept b hb),fun b hb=>k.sub b (h.sub b hb),?_,?_,?_,?_,?_,?_,?_,?_⟩
 ·intro q cells elem hq
  obtain ⟨c',h1,h2⟩:=h.box q cells elem hq
  obtain ⟨c'',h3,h4⟩:=k.box q c' elem h1
  exact ⟨c'',h3,h4.trans h2⟩
 ·intro q rows size elem own hq
  obtain ⟨r',o',h1,h2,h3⟩:=h.arr q rows size elem own hq
  obtain ⟨r'',o'',h4,h5,h6⟩:=k.arr q r' size elem o' h1
  exact ⟨r'',o'',h4,T6 h2 h5,fun e=>(h6 (by omega)).trans (h3 (by omega))⟩
 ·intro q agg keys vals own hq
  obtain ⟨k1,v1,o1,h1,h2⟩:=h.mp q agg keys vals own hq
  obtain ⟨k2,v2,o2,h3,h4⟩:=k.mp q agg k1 v1 o1 h1
  exact ⟨k2,v2,o2,h3,h4.trans h2⟩
 ·intro q keys vals hq
  obtain ⟨k1,v1,h1,h2⟩:=h.ml q keys vals hq
  obtain ⟨k2,v2,h3,h4⟩:=k.ml q k1 v1 h1
  exact ⟨k2,v2,h3,h4.trans h2⟩
 ·intro q keys rows size elem hq
  obtain ⟨k1,v1,h1,h2,h2'⟩:=h.am q keys rows size elem hq
  obtain ⟨k2,v2,h3,h4,h4'⟩:=k.am q k1 v1 size elem h1
  exact ⟨k2,v2,h3,h4.trans h2,h2'.trans h4'⟩
 ·intro b hb hno
  refine (k.same b (Mi hb h.size) fun q o hq ho hmem=>?_).trans (h.same b hb hno)
  rcases h.ownd q o hq ho b hmem with h1 | ⟨k0,o0,h1,h2,h3⟩
  ·omega
  ·exact hno k0 o0 h1 h2 h3
 ·intro q o hq ho b hb
  rcases k.ownd q o hq ho b hb with h1 | ⟨k0,o0,h1,h2,h3⟩
  ·exact .inl (T6 h.size h1)
  ·rcases h.ownd k0 o0 h1 h2 b h3 with h4 | ⟨k1,o1,h4,h5,h6⟩
   ·exact .inl h4
   ·exact .inr ⟨k1,o1,h4,h5,h6⟩
 ·intro b hb
  rcases k.orig b hb with h1 | h1 | ⟨q,o,h1,h2,h3⟩
  ·exact h.orig b h1
  ·exact .inr (.inl (T6 h.size h1))
  ·rcases h.ownd q o h1 h2 b h3 with h4 | ⟨k1,o1,h4,h5,h6⟩
   ·exact .inr (.inl h4)
   ·exact .inr (.inr ⟨k1,o1,h4,h5,h6⟩)
mutual
theorem LR.evo {w w':World} {U U':Nat→Prop} {ι ι':Pl} {ob ob':Ob} (e:Evo w U ι ob w' U' ι' ob'):∀ (x:L) (v:Value),LR w U ι ob x v→LR w' U' ι' ob' x v
 | .d x,v,h=>by simp only [LR] at h ⊢;exact DR.mono e.kept e.sub x v h
 | .slk k off n c,v,h=>by
  simp only [LR] at h ⊢
  obtain ⟨rows,size,elem,own,h1,h2,h3,h4⟩:=h
  obtain ⟨r',o',h5,h6,h7⟩:=e.arr k rows size elem own h1
  exact ⟨r',size,elem,o',h5,by omega,fun hc=>by rw [h7 (by omega)];exact h3 (by omega),h4⟩
 | .pa k i off c,v,h=>by
  simp only [LR] at h ⊢
  obtain ⟨rows,size,elem,own,h1,h2,h3,h4⟩:=h
  obtain ⟨r',o',h5,h6,h7⟩:=e.arr k rows size elem own h1
  exact ⟨r',size,elem,o',h5,by omega,fun hc=>by rw [h7 (by omega)];exact h3 (by omega),h4⟩
 | .ptr k off,v,h=>by
  simp only [LR] at h ⊢
  obtain ⟨cells,elem,h1,h2⟩:=h
  obtain ⟨c',h3,h4⟩:=e.box k cells elem h1
  exact ⟨c',elem,h3,by rw [h4];exact h2⟩
 | .fn f caps,v,h=>by
  simp only [LR] at h ⊢
  obtain ⟨cs,e1,hr⟩:=h
  exact ⟨cs,e1,LF.evo e caps cs.toList hr⟩
 | .mk k,v,h=>by
  simp only [LR] at h ⊢
  obtain ⟨agg,keys,vals,own,h1,h2⟩:=h
  obtain ⟨k1,v1,o1,h3,h4⟩:=e.mp k agg keys vals own h1
  exact ⟨agg,k1,v1,o1,h3,by rw [h4];exact h2⟩
 | .mq k,v,h=>by
  simp only [LR] at h ⊢
  obtain ⟨h1 | ⟨keys,rows,size,elem,h1⟩,h2⟩:=h
  ·obtain ⟨keys,vals,h1⟩:=h1
   obtain ⟨k1,v1,h3,h4⟩:=e.ml k keys vals h1
   exact ⟨.inl ⟨k1,v1,h3⟩,by rw [h4];exact h2⟩
  ·obtain ⟨k1,v1,h3,h4,_⟩:=e.am k keys rows size elem h1
   exact ⟨.inr ⟨k1,v1,_,_,h3⟩,by rw [h4];exact h2⟩
 | .pb k j off,v,h=>by
  simp only [LR] at h ⊢
  obtain ⟨⟨keys,rows,size,elem,h1⟩,b,h2,h3⟩:=h
  obtain ⟨k1,v1,h4,_,h5⟩:=e.am k keys rows size elem h1
  obtain ⟨t,ht⟩:=h5
  exact ⟨⟨k1,v1,_,_,h4⟩,b,by rw [←ht,Ma (K5.1 h2).1];exact h2,h3⟩
 | .sln k n,v,h=>by
  simp only [LR] at h ⊢
  refine h.imp id ?_
  rintro ⟨h0,rows,size,elem,own,h1,h2,h3,h4⟩
  obtain ⟨r',o',h5,h6,h7⟩:=e.arr k rows size elem own h1
  exact ⟨h0,r',size,elem,o',h5,by omega,fun hc=>by rw [h7 (by omega)];exact h3 (by omega),h4⟩
 | .undef,v,h=>by simp [LR]
theorem LF.evo {w w':World} {U U':Nat→Prop} {ι ι':Pl} {ob ob':Ob} (e:Evo w U ι ob w' U' ι' ob'):∀ (xs:List L) (vs:List Value),LF w U ι ob xs vs→LF w' U' ι' ob' xs vs
 | [],vs,h=>by simpa [LF] using h
 | x::xs,vs,h=>by
  simp only [LF] at h ⊢
  obtain ⟨v,vs',e1,h1,h2⟩:=h
  exact ⟨v,vs',e1,LR.evo e x v h1,LF.evo e xs vs' h2⟩
end
mutual
theorem VR.evo {w w':World} {U U':Nat→Prop} {ι ι':Pl} {ob ob':Ob} (e:Evo w U ι ob w' U' ι' ob'):∀ (x:V) (v:Value),VR w U ι ob x v→VR w' U' ι' ob' x v
 | .one x,v,h=>by simp only [VR] at h ⊢;exact LR.evo e x v h
 | .agg xs,v,h=>by
  simp only [VR] at h ⊢
  obtain ⟨cs,e1,hr⟩:=h
  exact ⟨cs,e1,LF.evo e xs cs.toList hr⟩
 | .tup xs,v,h=>by
  simp only [VR] at h ⊢
  obtain ⟨cs,e1,hr⟩:=h
  exact ⟨cs,e1,VF.evo e xs cs.toList hr⟩
theorem VF.evo {w w':World} {U U':Nat→Prop} {ι ι':Pl} {ob ob':Ob} (e:Evo w U ι ob w' U' ι' ob'):∀ (xs:List V) (vs:List Value),VF w U ι ob xs vs→VF w' U' ι' ob' xs vs
 | [],vs,h=>by simpa [VF] using h
 | x::xs,vs,h=>by
  simp only [VF] at h ⊢
  obtain ⟨v,vs',e1,h1,h2⟩:=h
  exact ⟨v,vs',e1,VR.evo e x v h1,VF.evo e xs vs' h2⟩
end
theorem ER.evo {w w':World} {U U':Nat→Prop} {ι ι':Pl} {ob ob':Ob} (e:Evo w U ι ob w' U' ι' ob'):∀ (ks:List Value) (xs:List L) (es:List MapEntry),ER w U ι ob ks xs es→ER w' U' ι' ob' ks xs es
 | [],[],[],_=>trivial
 | k::ks,x::xs,m::es,h=>by
  simp only [ER] at h ⊢
  exact ⟨h.1,h.2.1,LR.evo e x _ h.2.2.1,ER.evo e ks xs es h.2.2.2⟩
 | [],[],_::_,h=>by simp [ER] at h
 | [],_::_,_,h=>by simp [ER] at h
 | _::_,[],_,h=>by simp [ER] at h
 | _::_,_::_,[],h=>by simp [ER] at h
theorem BR.evo {w w':World} {U U':Nat→Prop} {size elem:Nat} (hk:∀ b,U b→w'.heap[b]?=w.heap[b]?) (hs:∀ b,U b→U' b):∀ (bs:List Nat) (rs:List (List D)),(∀ b∈bs,w'.heap[b]?=w.heap[b]?∧¬ U' b)→BR w U size elem bs rs→BR w' U' size elem bs rs
 | [],[],_,_=>trivial
 | b::bs,r::rs,hb,h=>by
  simp only [BR] at h ⊢
  obtain ⟨⟨cur,h1,h2⟩,h3,_,h4⟩:=h
  obtain ⟨h5,h6⟩:=hb b (by simp)
  exact ⟨⟨cur,h5.trans h1,FR.mono hk hs _ _ h2⟩,h3,h6,BR.evo hk hs bs rs (fun c hc=>hb c (by simp [hc])) h4⟩
 | [],_::_,_,h=>by simp [BR] at h
 | _::_,[],_,h=>by simp [BR] at h
theorem BR.at_ {w:World} {U:Nat→Prop} {size elem:Nat}:∀ {bs:List Nat} {rs:List (List D)},BR w U size elem bs rs→∀ {j b:Nat},bs[j]?=some b→∃ r cur,rs[j]?=some r∧w.heap[b]?=some (.cells cur elem (0,0))∧FR w U r cur.toList∧r.length=size∧¬ U b
 | [],[],_,j,b,hj=>by simp at hj
 | b'::bs,r::rs,h,0,b,hj=>by
  simp only [BR] at h
  obtain ⟨⟨cur,h1,h2⟩,h3,h4,_⟩:=h
  simp at hj;subst hj
  exact ⟨r,cur,rfl,h1,h2,h3,h4⟩
 | b'::bs,r::rs,h,j+1,b,hj=>by
  simp only [BR] at h
  simpa using h.2.2.2.at_ (by simpa using hj)
 | [],_::_,h,_,_,_=>by simp [BR] at h
 | _::_,[],h,_,_,_=>by simp [BR] at h
theorem BR.len {w:World} {U:Nat→Prop} {size elem:Nat}:∀ {bs:List Nat} {rs:List (List D)},BR w U size elem bs rs→bs.length=rs.length
 | [],[],_=>rfl
 | b'::bs,r::rs,h=>by simp only [BR] at h;simp [h.2.2.2.len]
 | [],_::_,h=>by simp [BR] at h
 | _::_,[],h=>by simp [BR] at h
theorem BR.lt {w:World} {U:Nat→Prop} {size elem:Nat} {bs:List Nat} {rs:List (List D)} (h:BR w U size elem bs rs) {b:Nat} (hb:b∈bs):b < w.heap.size∧¬ U b:=by
 obtain ⟨j,hj⟩:=List.mem_iff_getElem?.1 hb
 obtain ⟨_,cur,_,h1,_,_,h2⟩:=h.at_ hj
 exact ⟨(Me.1 h1).1,h2⟩
end
section
inductive Q (α:Type) where
 | ret (a:α)
 | get (k:Nat) (f:Option O→Q α)
 | fail
def Q.bind {α β:Type}:Q α→(α→Q β)→Q β
 | .ret a,f=>f a
 | .get k g,f=>.get k fun o=>(g o).bind f
 | .fail,_=>.fail
def Q.run {α:Type} (ob:Ob):Q α→Option α
 | .ret a=>some a
 | .get k f=>(f (ob k)).run ob
 | .fail=>none
def Q.reads {α:Type} (ob:Ob):Q α→List Nat
 | .ret _=>[]
 | .get k f=>k::(f (ob k)).reads ob
 | .fail=>[]
def Q.mapM {α β:Type} (f:α→Q β):List α→Q (List β)
 | []=>.ret []
 | x::xs=>(f x).bind fun y=>(Q.mapM f xs).bind fun ys=>.ret (y::ys)
def Q.opt {α:Type}:Option α→Q α
 | some a=>.ret a
 | none=>.fail
def Q.guard {α:Type} (b:Bool) (q:Q α):Q α:=match b with | true=>q | false=>.fail
theorem Q.run_bind {α β:Type} (ob:Ob) (q:Q α) (f:α→Q β):(q.bind f).run ob=(q.run ob).bind fun a=>(f a).run ob:=by
 induction q with
 | ret a=>rfl
 | get k g ih=>simp only [Q.bind,Q.run];exact ih _
 | fail=>rfl
theorem Q.run_guard {α:Type} (ob:Ob) (b:Bool) (q:Q α):(Q.guard b q).run ob=if b=true then q.run ob else none:=by cases b<;>simp [Q.guard,Q.run]
theorem Q.run_opt {α:Type} (ob:Ob) (o:Option α):(Q.opt o).run ob=o:=by cases o<;>rfl
theorem Q.run_agree {α:Type} {ob ob':Ob}:∀ (q:Q α),(∀ k∈q.reads ob,ob' k=ob k)→q.run ob'=q.run ob∧q.reads ob'=q.reads ob
 | .ret a,_=>⟨rfl,rfl⟩
 | .get k f,h=>by
  have hk:ob' k=ob k:=h k (by simp [Q.reads])
  have:=Q.run_agree (f (ob k)) (fun j hj=>h j (by simp [Q.reads,hj]))
  simp only [Q.run,Q.reads,hk]
  exact ⟨this.1,by rw [this.2]⟩
 | .fail,_=>⟨rfl,rfl⟩
def bj (P:Program) (t:Nat):Option Nat:=(P.info? t).map (·.size)
def gq (P:Program) (t:Nat):Option Nat:=(P.info? t).map (·.bytes)
def co (P:Program) (t:Nat):Option (List Value):=(P.info? t).bind fun i=>i.zero.bind fun z=>if z.cells.toList.all plain then some z.cells.toList else none
def iF:TypeDesc→Bool | .struct _ | .array _ _=>true | _=>false
def dc (P:Program) (t:Nat):Option Bool:=(P.underlying t).map iF
def bY (P:Program) (t:Nat):Option Nat:=match P.underlying t with | some (.slice e)=>some e | _=>none
def ug (P:Program) (t:Nat):Option (Nat×Nat):=match P.underlying t with | some (.array n e)=>some (n,e) | _=>none
def jo (P:Program) (t f:Nat):Option (Nat×Nat×Bool):=match P.underlying t with
 | some (.struct fs)=>match fs[f]? with
  | some fd=>match bj P fd.type,dc P fd.type with
   | some s,some g=>if s=0 then none else some (fd.offset,s,g)
   | _,_=>none
  | none=>none
 | _=>none
def re (P:Program) (t:Nat):Option IntKind:=match P.underlying t with | some (.int k)=>some k | _=>none
def L.isDef:L→Bool | .undef=>false | _=>true
def V.cells:V→Option (List L)
 | .one x=>if x.isDef then some [x] else none
 | .agg xs=>if xs.all L.isDef then some xs else none
 | .tup _=>none
def gu (vs:List Value):List L:=vs.map fun v=>.d (.lit v)
def Bc (agg:Bool) (xs:List L):Option V:=match agg,xs with
 | true,xs=>some (.agg xs)
 | false,[x]=>some (.one x)
 | false,_=>none
def bZ:Nat→L→Q D
 | _,.d x=>.ret x
 | _,.slk k off n c=>.get k fun
  | some (.arr rows size _ _)=>Q.guard (decide (c=rows.length)) (.ret (.sl size ((rows.drop off).take n)))
  | _=>.fail
 | _,.pa k i off c=>.get k fun
  | some (.arr rows _ _ _)=>Q.guard (decide (c=rows.length)) ((Q.opt rows[i]?).bind fun r=>.ret (.dp r off))
  | _=>.fail
 | n+1,.ptr k off=>.get k fun
  | some (.box cells _)=>(Q.mapM (bZ n) cells).bind fun ds=>.ret (.dp ds off)
  | _=>.fail
 | n+1,.fn f caps=>(Q.mapM (bZ n) caps).bind fun ds=>.ret (.fn f ds)
 | _,.mk k=>.get k fun
  | some (.mp agg keys vals _)=>.ret (.mp agg keys vals)
  | _=>.fail
 | _,.sln k n=>if n=0 then .ret (.lit (.slice none 0 0)) else .get k fun
  | some (.arr rows size _ _)=>Q.guard (decide (n=rows.length)) (.ret (.sl size rows))
  | _=>.fail
 | _,_=>.fail
def jA:L→Q (D×List (Nat×O))
 | .d x=>.ret (x,[])
 | .slk k off n c=>.get k fun
  | some (.arr rows size elem _)=>Q.guard (decide (c=rows.length)) (.ret (.sl size ((rows.drop off).take n),[(k,.arr rows size elem false)]))
  | _=>.fail
 | .mk k=>.get k fun
  | some (.mp agg keys vals _)=>.ret (.mp agg keys vals,[(k,.mp agg keys vals false)])
  | _=>.fail
 | .sln k n=>.get k fun
  | none=>Q.guard (decide (n=0)) (.ret (.lit (.slice none 0 0),[(k,.nul)]))
  | some (.arr rows size elem _)=>Q.guard (decide (n=rows.length∧0 < n)) (.ret (.sl size rows,[(k,.arr rows size elem false)]))
  | _=>.fail
 | _=>.fail
abbrev cn:=V×List (Nat×O)
def fresh (dst:Option Nat) (o:O) (v:Nat→V):Q cn:=match dst with
 | some k=>.get k fun
  | none=>.ret (v k,[(k,o)])
  | some _=>.fail
 | none=>.fail
def aP (o:Option V):Q cn:=(Q.opt o).bind fun v=>.ret (v,[])
def E6 (op:BinOp) (k:IntKind) (a:Int) (k':IntKind) (b:Int):Option Value:=match op with
 | .shl=>if b < 0 then none else some (.int k (k.wrap (a*2 ^ (min b.toNat k.bits))))
 | .shr=>if b < 0 then none else some (.int k (a.fdiv (2 ^ (min b.toNat k.bits))))
 | _=>if k=k' then match op with
   | .add=>some (.int k (k.wrap (a+b)))
   | .sub=>some (.int k (k.wrap (a - b)))
   | .mul=>some (.int k (k.wrap (a*b)))
   | .quo=>if b=0 then none else some (.int k (k.wrap (a.tdiv b)))
   | .rem=>if b=0 then none else some (.int k (a.tmod b))
   | .eql=>some (.bool (a==b))
   | .neq=>some (.bool (a != b))
   | .lss=>some (.bool (a < b))
   | .leq=>some (.bool (a≤b))
   | .gtr=>some (.bool (a > b))
   | .geq=>some (.bool (a≥b))
   | .and=>some (.int k (k.wrap (BitVec.ofInt k.bits a &&& BitVec.ofInt k.bits b).toNat))
   | .or=>some (.int k (k.wrap (BitVec.ofInt k.bits a ||| BitVec.ofInt k.bits b).toNat))
   | .xor=>some (.int k (k.wrap (BitVec.ofInt k.bits a ^^^ BitVec.ofInt k.bits b).toNat))
   | .andNot=>some (.int k (k.wrap (BitVec.ofInt k.bits a &&& ~~~(BitVec.ofInt k.bits b)).toNat))
   | _=>none
  else none
def G7 (op:BinOp) (a b:ByteArray):Option Value:=match op with
 | .add=>if ((a.size+b.size:Nat):Int) > IntKind.i64.max then none else some (.string (a++b))
 | .eql=>some (.bool (a.toList==b.toList))
 | .neq=>some (.bool !(a.toList==b.toList))
 | .lss=>some (.bool (Op.bytesLess a.toList b.toList))
 | .leq=>some (.bool (Op.bytesLess a.toList b.toList||a.toList==b.toList))
 | .gtr=>some (.bool !(Op.bytesLess a.toList b.toList||a.toList==b.toList))
 | .geq=>some (.bool !(Op.bytesLess a.toList b.toList))
 | _=>none
def V.lit?:V→Option Value
 | .one (.d (.lit v))=>some v
 | _=>none
def bR (v:Value):V:=.one (.d (.lit v))
def vInt?:V→Option (IntKind×Int)
 | .one (.d (.lit (.int k n)))=>some (k,n)
 | _=>none
def vBool?:V→Option Bool
 | .one (.d (.lit (.bool b)))=>some b
 | _=>none
end
section
def nM:Value→V
 | .agg cs=>if cs.toList.all plain then .agg (gu cs.toList) else .one .undef
 | v=>if plain v then .one (.d (.lit v)) else .one .undef
def ev (env:Nat→V):Operand→V
 | .tmp t=>env t
 | .const v=>nM v
 | .global _=>.one .undef
 | .func f=>if f < 2000000 then .one (.fn f []) else .one .undef
def bN (ob:Ob) (k:Nat) (o:O):Ob:=fun j=>if j=k then some o else ob j
def FP (ob:Ob) (k:Nat):Ob:=fun j=>if j=k then none else ob j
def b5 (ob:Ob):List (Nat×O)→Ob
 | []=>ob
 | (k,.nul)::r=>b5 (FP ob k) r
 | (k,.box a b)::r=>b5 (bN ob k (.box a b)) r
 | (k,.arr a b c d)::r=>b5 (bN ob k (.arr a b c d)) r
 | (k,.mp a b c d)::r=>b5 (bN ob k (.mp a b c d)) r
 | (k,.ml a b)::r=>b5 (bN ob k (.ml a b)) r
 | (k,.am a b c d)::r=>b5 (bN ob k (.am a b c d)) r
def O.isNul:O→Bool
 | .nul=>true
 | _=>false
theorem AZ (ob:Ob) (k:Nat) (o:O) (r:List (Nat×O)) (h:o.isNul=false):b5 ob ((k,o)::r)=b5 (bN ob k o) r:=by
 cases o<;>first | rfl | cases h
def O.val:O→Option O
 | .nul=>none
 | o=>some o
@[simp] theorem oW (a:List L) (b:Nat):(O.box a b).val=some (.box a b):=rfl
@[simp] theorem fj (a:List (List D)) (b c:Nat) (d:Bool):(O.arr a b c d).val=some (.arr a b c d):=rfl
@[simp] theorem sY (a:Bool) (b:List Value) (c:List (List D)) (d:Bool):(O.mp a b c d).val=some (.mp a b c d):=rfl
@[simp] theorem val_ml (a:List Value) (b:List L):(O.ml a b).val=some (.ml a b):=rfl
@[simp] theorem He (a:List Value) (b:List (List D)) (c d:Nat):(O.am a b c d).val=some (.am a b c d):=rfl
@[simp] theorem val_nul:O.nul.val=none:=rfl
theorem O.val_some {a b:O} (h:a.val=some b):a=b:=by
 cases a<;>simp only [O.val] at h<;>first | (cases h;rfl) | cases h
theorem fE (ob:Ob) (k:Nat) (o:O) (r:List (Nat×O)):b5 ob ((k,o)::r)=b5 (fun j=>if j=k then o.val else ob j) r:=by
 cases o<;>rfl
theorem uW (ob:Ob) {k j:Nat} (o:O) (h:j≠k):b5 ob [(k,o)] j=ob j:=by
 cases o<;>simp [b5,bN,FP,h]
theorem sC {ob:Ob} {k:Nat} (h:ob k=none):FP ob k=ob:=by
 funext j
 unfold FP
 split
 ·rename_i e;rw [e,h]
 ·rfl
def j5 (place:Nat→Option (Nat×Nat)) (cells:List L):List (Nat×V)→Option (List L)
 | []=>some cells
 | (i,v)::rest=>match place i,v.cells with
  | some (off,size),some cs=>if cs.length=size∧off+size≤cells.length then j5 place (cells.take off++cs++cells.drop (off+size)) rest else none
  | _,_=>none
def jT (P:Program) (t:Nat) (i:Nat):Option (Nat×Nat):=match ug P t with
 | some (_,e)=>(bj P e).map fun s=>(i*s,s)
 | none=>(jo P t i).map fun (o,s,_)=>(o,s)
def bx (agg:Bool) (s off:Nat) (cells:List L):Option V :=
 if agg then (if off+s≤cells.length then some (.agg ((cells.drop off).take s)) else none)
 else cells[off]?.map .one
def Dc (P:Program) (t:Nat):Bool:=match P.underlying t with
 | some (.struct fs)=>fs.toList.all fun f=>(bj P f.type).isSome
 | some (.array _ e)=>(bj P e).isSome
 | _=>false
def fm (agg:Bool) (s:Nat):V→Q cn
 | .one (.ptr k off)=>.get k fun
  | some (.box cells _)=>aP (bx agg s off cells)
  | _=>.fail
 | .one (.pa k i off c)=>.get k fun
  | some (.arr rows _ _ _)=>Q.guard (decide (c=rows.length)) ((Q.opt rows[i]?).bind fun r=>aP (bx agg s off (r.map .d)))
  | _=>.fail
 | .one (.d (.dp r off))=>aP (bx agg s off (r.map .d))
 | .one (.pb k j off)=>.get k fun
  | some (.am _ rows _ _)=>(Q.opt rows[j]?).bind fun r=>aP (bx agg s off (r.map .d))
  | _=>.fail
 | _=>.fail
def dJ:List L→Q (List D×List (Nat×O))
 | []=>.ret ([],[])
 | x::xs=>(jA x).bind fun (d,u)=>(dJ xs).bind fun (ds,us)=>.ret (d::ds,u++us)
def gh:V→List L→Q cn
 | .one (.ptr k off),cs=>.get k fun
  | some (.box cells elem)=>Q.guard (decide (off+cs.length≤cells.length)) (.ret (.one .undef,[(k,.box (cells.take off++cs++cells.drop (off+cs.length)) elem)]))
  | _=>.fail
 | .one (.pa k i off c),cs=>.get k fun
  | some (.arr rows size elem own)=>Q.guard (own&&decide (c=rows.length)) ((Q.opt rows[i]?).bind fun r =>
    (dJ cs).bind fun (ds,us)=>Q.guard (decide (off+ds.length≤r.length)&&us.isEmpty) (.ret (.one .undef,[(k,.arr (rows.set i (r.take off++ds++r.drop (off+ds.length))) size elem own)])))
  | _=>.fail
 | .one (.pb k j off),cs=>.get k fun
  | some (.am keys rows size elem)=>(Q.opt rows[j]?).bind fun r =>
    (dJ cs).bind fun (ds,us)=>Q.guard (decide (off+ds.length≤r.length)&&us.isEmpty) (.ret (.one .undef,[(k,.am keys (rows.set j (r.take off++ds++r.drop (off+ds.length))) size elem)]))
  | _=>.fail
 | _,_=>.fail
def dG (n:Nat):V→Option V
 | .one (.ptr k off)=>some (.one (.ptr k (off+n)))
 | .one (.pa k i off c)=>some (.one (.pa k i (off+n) c))
 | .one (.d (.dp r off))=>some (.one (.d (.dp r (off+n))))
 | .one (.pb k j off)=>some (.one (.pb k j (off+n)))
 | _=>none
def cJ (arr:Option (Nat×Nat)) (es:Nat) (x:V) (i:Int):Q cn:=match arr with
 | some (n,_)=>aP (if 0≤i∧i < n then dG (i.toNat*es) x else none)
 | none=>match x with
  | .one (.slk k off n c)=>.get k fun
   | some (.arr rows size _ _)=>Q.guard (decide (c=rows.length∧size=es)) (aP (if 0≤i∧i < n then some (.one (.pa k (off+i.toNat) 0 c)) else none))
   | _=>.fail
  | .one (.sln k n)=>.get k fun
   | some (.arr rows size _ _)=>Q.guard (decide (n=rows.length∧size=es)) (aP (if 0≤i∧i < n then some (.one (.pa k (0+i.toNat) 0 n)) else none))
   | _=>.fail
  | .one (.d (.sl size rows))=>Q.guard (decide (size=es)) (aP (if 0≤i then rows[i.toNat]?.map fun r=>.one (.d (.dp r 0)) else none))
  | _=>.fail
def kf (es:Nat) (x:V) (l h:Option Int):Q cn:=match x with
 | .one (.slk k off n c)=>.get k fun
  | some (.arr rows size _ _)=>Q.guard (decide (c=rows.length∧size=es)) (aP (
    if 0≤l.getD 0∧l.getD 0≤h.getD n∧h.getD n≤n then
     (if l.getD 0=0∨l.getD 0 < h.getD n then some (.one (.slk k (off+(l.getD 0).toNat) (h.getD n - l.getD 0).toNat c)) else some (.one (.d (.sl es []))))
    else none))
  | _=>.fail
 | .one (.d (.sl size rows))=>Q.guard (decide (size=es)) (aP (
   if 0≤l.getD 0∧l.getD 0≤h.getD rows.length∧h.getD rows.length≤rows.length then some (.one (.d (.sl size ((rows.drop (l.getD 0).toNat).take (h.getD rows.length - l.getD 0).toNat)))) else none))
 | .one (.d (.lit (.slice none 0 0)))=>aP (if l.getD 0=0∧h.getD 0=0 then some x else none)
 | _=>.fail
def xM:V→Option Nat
 | .one (.slk _ _ n _)=>some n
 | .one (.sln _ n)=>some n
 | .one (.d (.sl _ rows))=>some rows.length
 | .one (.d (.lit (.slice none 0 0)))=>some 0
 | _=>none
def eM:V→Bool | .agg _=>true | _=>false
def Hg (P:Program) (t:Nat):Bool:=match P.underlying t with | some .string=>true | _=>false
def xe:V→Option Nat
 | .one (.d (.lit (.string s)))=>some s.size
 | _=>none
def oN (ρ:Operand→V):Option Operand→Option (Option Int)
 | none=>some none
 | some x=>(vInt? (ρ x)).map fun p=>some p.2
def mm2 (mx:Bool) (a b:V):Option V:=match vInt? a,vInt? b with
 | some p,some q=>if p.1=q.1 then some (bR (.int p.1 (if mx then max p.2 q.2 else min p.2 q.2))) else none
 | _,_=>none
def HO (mx:Bool):V→List V→Option V
 | a,[]=>some a
 | a,y::r=>(mm2 mx a y).bind fun z=>HO mx z r
def lC (mx:Bool):List V→Option V
 | []=>none
 | x::r=>HO mx x r
def cV:List V→Option (List L)
 | []=>some []
 | .one x::r=>if x.isDef then (cV r).map (x::·) else none
 | _::_=>none
def dx (ρ:Operand→V) (size:Nat) (rows:List (List D)):List (Nat×Operand)→Q (List (List D)×List (Nat×O))
 | []=>.ret (rows,[])
 | (i,x)::rest=>(Q.opt (ρ x).cells).bind fun cs=>Q.guard (decide (cs.length=size∧i < rows.length)) ((dJ cs).bind fun (ds,us) =>
   (dx ρ size (rows.set i ds) rest).bind fun (rows',us')=>.ret (rows',us++us'))
def cR (es:Nat):V→Q (List (List D))
 | .one (.d (.lit (.slice none 0 0)))=>.ret []
 | .one (.d (.sl size rows))=>Q.guard (decide (size=es)) (.ret rows)
 | .one (.slk k off n c)=>.get k fun
  | some (.arr rows size _ _)=>Q.guard (decide (c=rows.length∧size=es)) (.ret ((rows.drop off).take n))
  | _=>.fail
 | _=>.fail
def cl (es:Nat):V→Q (List (List D))
 | .one (.sln k n)=>if n=0 then .ret [] else cR es (.one (.slk k 0 n n))
 | x=>cR es x
def eb (dst:Option Nat) (elem size bytes:Nat) (s:V) (new:List (List D)):Q cn:=match s with
 | .one (.d (.lit (.slice none 0 0))) =>
  if new=[] then .ret (s,[]) else Q.guard (decide (new.length*bytes≤140737488355328∧new.length≤maxLen)) (fresh dst (.arr new size elem true) fun k=>.one (.slk k 0 new.length new.length))
 | .one (.slk k 0 n c)=>.get k fun
  | some (.arr rows size' elem' own)=>Q.guard (own&&decide (c=rows.length∧n=rows.length∧size'=size∧elem'=elem∧(n+new.length)*bytes≤140737488355328∧n+new.length≤maxLen))
    (.ret (.one (.slk k 0 (n+new.length) (n+new.length)),[(k,.arr (rows++new) size elem true)]))
  | _=>.fail
 | _=>.fail
def cL (dst:Option Nat) (elem size bytes:Nat) (s:V) (new:List (List D)):Q cn:=match s with
 | .one (.sln k n)=>.get k fun
  | none=>Q.guard (decide (n=0∧new.length*bytes≤140737488355328∧new.length≤maxLen)) (.ret (.one (.sln k new.length),[(k,if new=[] then .nul else .arr new size elem true)]))
  | some (.arr rows size' elem' own)=>Q.guard (own&&decide (0 < n∧n=rows.length∧size'=size∧elem'=elem∧(n+new.length)*bytes≤140737488355328∧n+new.length≤maxLen))
    (.ret (.one (.sln k (n+new.length)),[(k,.arr (rows++new) size elem true)]))
  | _=>.fail
 | s=>eb dst elem size bytes s new
def nc (P:Program) (t:Nat) (g:Bool):Bool:=match (P.info? t).bind (·.zero) with
 | some (.agg _)=>g
 | some _=>!g
 | none=>false
def vm:TypeDesc→Option Nat
 | .int _=>some 0
 | .string=>some 1
 | .bool=>some 2
 | _=>none
def xH (P:Program) (e:Nat) (g:Bool):Option O:=match P.underlying e with
 | some (.pointer t)=>(bj P t).map fun s=>.am [] [] s t
 | some (.func ..)=>some (.ml [] [])
 | _=>some (.mp g [] [] true)
def vi (o:O) (k:Nat):V:=match o with
 | .mp ..=>.one (.mk k)
 | _=>.one (.mq k)
def mE (P:Program) (t:Nat):Option Nat:=match P.underlying t with
 | some (.map k _)=>(P.underlying k).bind vm
 | _=>none
def et (P:Program) (t:Nat):Option Nat:=match P.underlying t with
 | some (.map _ e)=>some e
 | _=>none
def BU:Nat→Value→Value→Option Bool
 | 0,.int k a,.int k' b=>if k=k' then some (a==b) else none
 | 1,.string a,.string b=>some (a==b)
 | 2,.bool a,.bool b=>some (a==b)
 | _,_,_=>none
def cW (kd:Nat) (k:Value):List Value→Nat→Option (Option Nat)
 | [],_=>some none
 | x::xs,i=>match BU kd k x with
  | some true=>some (some i)
  | some false=>cW kd k xs (i+1)
  | none=>none
def nC (agg:Bool) (zs:List Value) (vals:List (List D)):Option Nat→Option (V×Bool)
 | some j=>vals[j]?.bind fun r=>(Bc agg (r.map .d)).map fun v=>(v,true)
 | none=>(Bc agg (gu zs)).map fun v=>(v,false)
def jY (kd:Nat) (key:Nat) (k:Value) (zs:List Value):Q cn:=.get key fun
 | some (.ml keys vals)=>(Q.opt ((cW kd k keys 0).bind fun q=>q.bind fun j=>vals[j]?)).bind fun x=>.ret (.one x,[])
 | some (.am keys _ _ _)=>(Q.opt (cW kd k keys 0)).bind fun
  | some j=>.ret (.one (.pb key j 0),[])
  | none=>match zs with
   | [z]=>.ret (bR z,[])
   | _=>.fail
 | _=>.fail
def jy (kd:Nat) (agg ok:Bool) (zs:List Value) (x:V) (k:Value):Q cn :=
 (match x with
  | .one (.d (.mp agg' keys vals))=>Q.guard (agg==agg') (Q.opt ((cW kd k keys 0).bind (nC agg zs vals)))
  | .one (.mk key)=>Q.get key fun
   | some (.mp agg' keys vals _)=>Q.guard (agg==agg') (Q.opt ((cW kd k keys 0).bind (nC agg zs vals)))
   | _=>.fail
  | .one (.d (.lit (.map none)))=>Q.opt (nC agg zs [] none)
  | _=>.fail).bind fun p=>.ret (if ok then .tup [p.1,bR (.bool p.2)] else p.1,[])
def fu:Nat→Value→Bool
 | 0,.int _ _=>true
 | 1,.string _=>true
 | 2,.bool _=>true
 | _,_=>false
def l3 (kd:Nat) (agg:Bool) (x:V) (k:Value) (v:V):Q cn:=match x with
 | .one (.mq key)=>.get key fun
  | some (.ml keys vals)=>Q.guard (fu kd k) (match v with
   | .one x=>Q.guard x.isDef ((Q.opt (cW kd k keys 0)).bind fun
    | some _=>.fail
    | none=>.ret (.one .undef,[(key,.ml (keys++[k]) (vals++[x]))]))
   | _=>.fail)
  | some (.am keys rows size elem)=>Q.guard (fu kd k) (match v with
   | .one (.pb key' j 0)=>Q.guard (decide (key'=key∧j=keys.length∧j < rows.length)) ((Q.opt (cW kd k keys 0)).bind fun
    | some _=>.fail
    | none=>.ret (.one .undef,[(key,.am (keys++[k]) rows size elem)]))
   | _=>.fail)
  | _=>.fail
 | .one (.mk key)=>.get key fun
  | some (.mp agg' keys vals own)=>Q.guard (own&&agg==agg'&&eM v==agg&&fu kd k) ((Q.opt v.cells).bind fun cs=>(dJ cs).bind fun (ds,us)=>Q.guard us.isEmpty ((Q.opt (cW kd k keys 0)).bind fun
    | some j=>.ret (.one .undef,[(key,.mp agg keys (vals.set j ds) true)])
    | none=>.ret (.one .undef,[(key,.mp agg (keys++[k]) (vals++[ds]) true)])))
  | _=>.fail
 | _=>.fail
def FT (P:Program) (t:Nat):Bool:=match P.underlying t with | some (.interface _)=>false | some _=>true | none=>false
def Be (P:Program) (t:Nat) (name:String):Option Nat:=match P.info? t with
 | some i=>match i.methods.find? (fun m=>m.name==name) with
  | some m=>match m.path.toList,m.func,P.underlying t with
   | [],some (_,false),some (.pointer _)=>none
   | [],some (f,false),some _=>some f
   | _,_,_=>none
  | none=>none
 | none=>none
def qq (P:Program) (name:String):V→Option (Nat×V)
 | .one (.d (.ifc t true row))=>(Be P t name).map fun f=>(f,.agg (row.map .d))
 | .one (.d (.ifc t false [x]))=>(Be P t name).map fun f=>(f,.one (.d x))
 | _=>none
def Al (P:Program) (t:Nat):Bool:=match P.underlying t with | some .bool=>true | _=>false
def vB (rec:Nat→Option (List Bool)) (P:Program):Nat→List Field→Option (List Bool)
 | _,[]=>some []
 | off,f::fs=>match rec f.type with
  | some ks=>if f.offset=off∧f.name ≠ "_" ∧ bj P f.type=some ks.length∧0 < ks.length then (vB rec P (off+ks.length) fs).map (ks++·) else none
  | none=>none
def kc (P:Program):Nat→Nat→Option (List Bool)
 | 0,_=>none
 | d+1,t=>match P.underlying t with
  | some (.int _)=>some [true]
  | some .bool=>some [false]
  | some (.struct fs)=>if P.stoodInHeld t=true∨P.eqGuardType P.depth t=true then none else vB (kc P d) P 0 fs.toList
  | _=>none
def li:Bool→Value→Value→Option Bool
 | true,.int k a,.int k' b=>if k=k' then some (a==b) else none
 | false,.bool a,.bool b=>some (a==b)
 | _,_,_=>none
def ct:List Bool→List L→List L→Option Bool
 | [],[],[]=>some true
 | k::ks,.d (.lit u)::xs,.d (.lit v)::ys=>match li k u v,ct ks xs ys with
  | some b,some c=>some (b&&c)
  | _,_=>none
 | _,_,_=>none
def Ba (op:BinOp):V→V→Option V
 | .one (.d (.sl _ _)),.one (.d (.lit (.slice none 0 0)))=>match op with
  | .eql=>some (bR (.bool false))
  | .neq=>some (bR (.bool true))
  | _=>none
 | .one (.d (.lit (.slice none 0 0))),.one (.d (.lit (.slice none 0 0)))=>match op with
  | .eql=>some (bR (.bool true))
  | .neq=>some (bR (.bool false))
  | _=>none
 | _,_=>none
def HD (P:Program) (t:Nat):Bool:=match P.underlying t with | some (.pointer _)=>true | _=>false
def Bb (op:BinOp):V→V→Option V
 | .one (.pb _ _ _),.one (.d (.lit (.pointer none)))=>match op with
  | .eql=>some (bR (.bool false))
  | .neq=>some (bR (.bool true))
  | _=>none
 | .one (.d (.lit (.pointer none))),.one (.d (.lit (.pointer none)))=>match op with
  | .eql=>some (bR (.bool true))
  | .neq=>some (bR (.bool false))
  | _=>none
 | _,_=>none
def iH (P:Program) (op:BinOp) (t:Nat) (x y:V):Option V:=match x,y with
 | .one (.d (.lit (.int k a))),.one (.d (.lit (.int k' b)))=>(E6 op k a k' b).map bR
 | .one (.d (.lit (.bool a))),.one (.d (.lit (.bool b)))=>if Al P t=true then (match op with
   | .eql=>some (bR (.bool (a==b)))
   | .neq=>some (bR (.bool (a != b)))
   | _=>none) else none
 | .one (.d (.lit (.string a))),.one (.d (.lit (.string b)))=>(G7 op a b).map bR
 | .agg xs,.agg ys=>match kc P 8 t with
  | some ks=>if dc P t=some true then (match op,ct ks xs ys with
   | .eql,some b=>some (bR (.bool b))
   | .neq,some b=>some (bR (.bool !b))
   | _,_=>none) else none
  | none=>none
 | x,y=>if (bY P t).isSome=true then Ba op x y else if HD P t=true then Bb op x y else none
def dE (zs:List Value):V→Q cn
 | .one (.d (.lit (.slice none 0 0)))=>.ret (.tup [],[])
 | .one (.slk key off n c)=>.get key fun
  | some (.arr rows size elem own)=>Q.guard (own&&decide (c=rows.length∧size=zs.length∧off+n=rows.length)) (.ret (.tup [],[(key,.arr (rows.take off++List.replicate n (zs.map .lit)) size elem true)]))
  | _=>.fail
 | _=>.fail
def yw (dst:Option Nat) (cs:List L) (elem:Nat):Q cn:=match dst with
 | some k=>.get k fun
  | none=>.ret (.one (.ptr k 0),[(k,.box cs elem)])
  | some (.am keys rows size elem')=>Q.guard (decide (elem'=elem∧cs.length=size)) ((dJ cs).bind fun (ds,us)=>Q.guard us.isEmpty (.ret (.one (.pb k rows.length 0),[(k,.am keys (rows++[ds]) size elem)])))
  | some _=>.fail
 | none=>.fail
def vJ (es:Nat) (x:V) (src:List (List D)):Q cn:=match x with
 | .one (.slk k 0 n c)=>.get k fun
  | some (.arr rows size elem own)=>Q.guard (own&&decide (c=rows.length∧n=rows.length∧size=es)) (.ret (bR (.int .i64 ((min n src.length:Nat):Int)),[(k,.arr (src.take n++rows.drop src.length) size elem true)]))
  | _=>.fail
 | _=>.fail
def lF (dst:Option Nat) (rows:List (List D)) (s e len:Nat):Q cn:=match dst with
 | some _=>fresh dst (.arr rows s e true) fun k=>.one (.slk k 0 len len)
 | none=>.ret (.one (.d (.sl s rows)),[])
def eP (P:Program) (dst:Option Nat) (ρ:Operand→V):Op→Q cn
 | .move x | .assign x=>.ret (ρ x,[])
 | .pick c a b=>aP ((vBool? (ρ c)).map fun t=>if t=true then ρ a else ρ b)
 | .box elem x=>(Q.opt (ρ x).cells).bind fun cs=>match dst with
  | some _=>yw dst cs elem
  | none=>(dJ cs).bind fun (ds,us)=>.ret (.one (.d (.dp ds 0)),us)
 | .alloc elem=>(Q.opt (co P elem)).bind fun zs=>fresh dst (.box (gu zs) elem) fun k=>.one (.ptr k 0)
 | .build t parts=>(Q.opt (co P t)).bind fun zs=>Q.guard (dc P t==some true&&Dc P t) (aP ((j5 (jT P t) (gu zs) (parts.toList.map fun p=>(p.1,ρ p.2))).map .agg))
 | .buildSlice t len parts=>(Q.opt (bY P t)).bind fun e=>(Q.opt (bj P e)).bind fun s=>(Q.opt (co P e)).bind fun zs =>
   Q.guard (decide (0 < s∧zs.length=s∧len*s≤16777216)) ((dx ρ s (List.replicate len (zs.map .lit)) parts.toList).bind fun (rows,us) =>
    (lF dst rows s e len).bind fun (v,u)=>.ret (v,us++u))
 | .load t a=>(Q.opt (dc P t)).bind fun g=>(Q.opt (bj P t)).bind fun s=>fm g s (ρ a)
 | .store t a x=>(Q.opt (ρ x).cells).bind fun cs=>Q.guard (bj P t==some cs.length) (gh (ρ a) cs)
 | .nilCheck x=>match ρ x with
  | .one (.ptr ..) | .one (.pa ..) | .one (.pb ..) | .one (.d (.dp ..))=>.ret (ρ x,[])
  | _=>.fail
 | .binOp op t x y _=>aP (iH P op t (ρ x) (ρ y))
 | .unOp op _ x=>aP (match op,(ρ x).lit? with
  | .not,some (.bool b)=>some (bR (.bool !b))
  | .neg,some (.int k n)=>some (bR (.int k (k.wrap (0 - n))))
  | _,_=>none)
 | .makeFunc fn first captured=>match fn,cV (first.toList.map ρ),cV (captured.toList.map ρ) with
  | .func f,some [],some caps=>if f < 2000000 then .ret (.one (.fn f caps),[]) else .fail
  | .func f,some (c::cs),some []=>.ret (.one (.fn (f+2000000) (c::cs)),[])
  | _,_,_=>.fail
 | .makeInterface t x=>Q.guard (FT P t&&dc P t==some (eM (ρ x))) ((Q.opt (ρ x).cells).bind fun cs=>(dJ cs).bind fun (ds,us)=>match us with
   | []=>.ret (.one (.d (.ifc t (eM (ρ x)) ds)),[])
   | _=>.fail)
 | .makeSlice t l c=>(Q.opt (bY P t)).bind fun e=>(Q.opt (bj P e)).bind fun s=>(Q.opt (co P e)).bind fun zs=>(Q.opt (gq P e)).bind fun bs =>
   (Q.opt (vInt? (ρ l))).bind fun n=>(Q.opt (vInt? (ρ c))).bind fun m=>Q.guard (decide (0 < s∧zs.length=s∧n=m∧0≤n.2∧bs*n.2≤140737488355328∧n.2≤9223372036854775807))
    (fresh dst (.arr (List.replicate n.2.toNat (zs.map .lit)) s e true) fun k=>.one (.slk k 0 n.2.toNat n.2.toNat))
 | .slice t x lo hi mx=>Q.guard ((bY P t).isSome&&mx.isNone) ((Q.opt (oN ρ lo)).bind fun l=>(Q.opt (oN ρ hi)).bind fun h=>(Q.opt (bY P t)).bind fun e=>(Q.opt (bj P e)).bind fun s=>kf s (ρ x) l h)
 | .fieldAddr s x f=>(Q.opt (jo P s f)).bind fun p=>aP (dG p.1 (ρ x))
 | .field s x f=>(Q.opt (jo P s f)).bind fun p=>match ρ x with
  | .agg cs=>aP (bx p.2.2 p.2.1 p.1 cs)
  | _=>.fail
 | .indexAddr t x ix=>(Q.opt (vInt? (ρ ix))).bind fun i=>match ug P t,bY P t with
  | some (n,e),_=>(Q.opt (bj P e)).bind fun s=>cJ (some (n,e)) s (ρ x) i.2
  | none,some e=>(Q.opt (bj P e)).bind fun s=>cJ none s (ρ x) i.2
  | none,none=>.fail
 | .index t x ix=>(Q.opt (vInt? (ρ ix))).bind fun i=>(Q.opt (ug P t)).bind fun p=>(Q.opt (bj P p.2)).bind fun s=>(Q.opt (dc P p.2)).bind fun g=>match ρ x with
  | .agg cs=>Q.guard (decide (0≤i.2∧i.2 < p.1)) (aP (bx g s (i.2.toNat*s) cs))
  | _=>.fail
 | .convert src dst x=>(Q.opt (re P src)).bind fun _=>(Q.opt (re P dst)).bind fun k=>(Q.opt (vInt? (ρ x))).bind fun n=>.ret (bR (.int k (k.wrap n.2)),[])
 | .makeMap t none=>Q.guard ((mE P t).isSome) ((Q.opt ((et P t).bind (dc P))).bind fun g=>(Q.opt ((et P t).bind fun e=>xH P e g)).bind fun o=>fresh dst o (vi o))
 | .lookup t x ix ok=>(Q.opt (mE P t)).bind fun kd=>(Q.opt (et P t)).bind fun e=>(Q.opt (dc P e)).bind fun g=>(Q.opt (co P e)).bind fun zs=>(Q.opt (ρ ix).lit?).bind fun k=>(match ρ x with
   | .one (.mq key)=>Q.guard (fu kd k&&!ok&&!g&&nc P e g) (jY kd key k zs)
   | _=>Q.guard (fu kd k&&nc P e g) (jy kd g ok zs (ρ x) k))
 | .mapUpdate t m k v=>(Q.opt (mE P t)).bind fun kd=>(Q.opt (et P t)).bind fun e=>(Q.opt (dc P e)).bind fun g=>(Q.opt (ρ k).lit?).bind fun kv=>l3 kd g (ρ m) kv (ρ v)
 | .insert t m k v=>(Q.opt (mE P t)).bind fun kd=>(Q.opt (et P t)).bind fun e=>(Q.opt (dc P e)).bind fun g=>(Q.opt (ρ k).lit?).bind fun kv=>l3 kd g (ρ m) kv (ρ v)
 | .extract t i=>match ρ t with
  | .tup vs=>aP vs[i]?
  | _=>.fail
 | .call c=>match c.callee with
  | .builtin .len=>match c.args.toList with
   | [x]=>match c.argTypes.toList with
    | [t]=>match bY P t with
     | some _=>aP ((xM (ρ x)).map fun (n:Nat)=>bR (.int .i64 (n:Int)))
     | none=>Q.guard (Hg P t) (aP ((xe (ρ x)).map fun (n:Nat)=>bR (.int .i64 (n:Int))))
    | _=>.fail
   | _=>.fail
  | .builtin .cap=>match c.args.toList,c.argTypes.toList with
   | [x],[t]=>match ρ x with
    | .one (.d (.lit (.slice none 0 0)))=>Q.guard (bY P t).isSome (.ret (bR (.int .i64 0),[]))
    | _=>.fail
   | _,_=>.fail
  | .builtin .clear=>match c.args.toList,c.argTypes.toList with
   | [x],[t]=>(Q.opt (bY P t)).bind fun e=>(Q.opt (co P e)).bind fun zs=>Q.guard (decide (0 < zs.length)) (dE zs (ρ x))
   | _,_=>.fail
  | .builtin .copy=>match c.args.toList,c.argTypes.toList with
   | [x,y],[t,t']=>(Q.opt (bY P t)).bind fun e=>(Q.opt (bj P e)).bind fun sz=>Q.guard (decide (t=t'∧0 < sz)) ((cl sz (ρ y)).bind fun new=>vJ sz (ρ x) new)
   | _,_=>.fail
  | .builtin .min=>aP (lC false (c.args.toList.map ρ))
  | .builtin .max=>aP (lC true (c.args.toList.map ρ))
  | .builtin .append=>match c.args.toList,c.argTypes.toList with
   | [s,x],[t,t']=>match re P t' with
    | some _=>match ρ s with
     | .one (.d (.lit (.slice none 0 0)))=>(Q.opt (bY P t)).bind fun e=>(Q.opt (bj P e)).bind fun sz=>(Q.opt (gq P e)).bind fun bs=>(Q.opt (co P e)).bind fun zs=>(Q.opt (vInt? (ρ x))).bind fun n =>
      Q.guard (decide (0 < sz∧zs.length=sz∧0 < n.2∧bs*n.2≤140737488355328∧n.2≤9223372036854775807)) (fresh dst (.arr (List.replicate n.2.toNat (zs.map .lit)) sz e true) fun k=>.one (.slk k 0 n.2.toNat n.2.toNat))
     | _=>.fail
    | none=>(Q.opt (bY P t)).bind fun e=>(Q.opt (bj P e)).bind fun sz=>(Q.opt (gq P e)).bind fun bs=>(Q.opt (co P e)).bind fun zs=>Q.guard (decide (t=t'∧0 < sz∧0 < bs∧zs.length=sz)) ((cl sz (ρ x)).bind fun new=>cL dst e sz bs (ρ s) new)
   | _,_=>.fail
  | _=>.fail
 | _=>.fail
end
section
variable {P:Program} {w:World} {U:Nat→Prop} {ι:Pl} {ob:Ob}
def eJ (ι:Pl) (k:Nat) (p:Pt):Pl:=fun j=>if j=k then p else ι j
theorem b8 (ob:Ob) (k:Nat) (o:O):bN ob k o k=some o:=by simp [bN]
theorem ap (ob:Ob) {k j:Nat} (o:O) (h:j≠k):bN ob k o j=ob j:=by simp [bN,h]
theorem ai (ι:Pl) (k:Nat) (p:Pt):eJ ι k p k=p:=by simp [eJ]
theorem aB (ι:Pl) {k j:Nat} (p:Pt) (h:j≠k):eJ ι k p j=ι j:=by simp [eJ,h]
theorem Mem.foot {k:Nat} {o:O} (hm:Mem w U ι ob) (h:ob k=some o) {b:Nat} (hb:b∈(ι k).foot):b < w.heap.size:=by
 have:=hm.obj k o h
 cases o with
 | box cells elem=>obtain ⟨cur,h1,_⟩:=this;simp [Pt.foot,hm.one _ _ h rfl] at hb;subst hb;exact (Me.1 h1).1
 | arr rows size elem own=>obtain ⟨cur,h1,_⟩:=this;simp [Pt.foot,hm.one _ _ h rfl] at hb;subst hb;exact (Me.1 h1).1
 | mp agg keys vals own=>obtain ⟨es,clock,h1,_⟩:=this;simp [Pt.foot,hm.one _ _ h rfl] at hb;subst hb;exact (Me.1 h1).1
 | ml keys vals=>obtain ⟨es,clock,h1,_⟩:=this;simp [Pt.foot,hm.one _ _ h rfl] at hb;subst hb;exact (Me.1 h1).1
 | am keys rows size elem =>
  obtain ⟨es,clock,h1,_,h2,_⟩:=this
  rcases Ka.1 hb with rfl | hb
  ·exact (Me.1 h1).1
  ·exact (h2.lt hb).1
 | nul=>exact this.elim
theorem Mem.block {k:Nat} {o:O} (hm:Mem w U ι ob) (h:ob k=some o):(ι k).1 < w.heap.size:=hm.foot h (by simp [Pt.foot])
theorem Mem.footU {k:Nat} {o:O} (hm:Mem w U ι ob) (h:ob k=some o) (ho:o.owned=true) {b:Nat} (hb:b∈(ι k).foot):¬ U b:=by
 have:=hm.obj k o h
 cases o with
 | box cells elem=>obtain ⟨cur,_,_,h1⟩:=this;simp [Pt.foot,hm.one _ _ h rfl] at hb;subst hb;exact h1
 | arr rows size elem own =>
  obtain ⟨cur,_,_,_,_,_,h1⟩:=this
  simp [Pt.foot,hm.one _ _ h rfl] at hb;subst hb
  simp [O.owned] at ho
  simpa [ho] using h1
 | mp agg keys vals own =>
  obtain ⟨es,clock,_,_,h1⟩:=this
  simp [Pt.foot,hm.one _ _ h rfl] at hb;subst hb
  simp [O.owned] at ho
  simpa [ho] using h1
 | ml keys vals=>obtain ⟨es,clock,_,_,h1⟩:=this;simp [Pt.foot,hm.one _ _ h rfl] at hb;subst hb;exact h1
 | am keys rows size elem =>
  obtain ⟨es,clock,_,_,h2,h1,_⟩:=this
  rcases Ka.1 hb with rfl | hb
  ·exact h1
  ·exact (h2.lt hb).2
 | nul=>exact this.elim
theorem Mem.notU {k:Nat} {o:O} (hm:Mem w U ι ob) (h:ob k=some o) (ho:o.owned=true):¬ U (ι k).1:=hm.footU h ho (by simp [Pt.foot])
theorem OR.blk {k:Nat} {o:O} (h:OR w U ι ob k o) (ho:o.owned=false):U (ι k).1:=by
 cases o with
 | box=>simp [O.owned] at ho
 | arr rows size elem own=>simp only [O.owned] at ho;subst ho;obtain ⟨_,_,_,_,_,_,h6⟩:=h;simpa using h6
 | mp agg keys vals own=>simp only [O.owned] at ho;subst ho;obtain ⟨_,_,_,_,h6⟩:=h;simpa using h6
 | ml=>simp [O.owned] at ho
 | am=>simp [O.owned] at ho
 | nul=>exact h.elim
theorem O.owned_nul {o:O} (h:o.owned=true):o.isNul=false:=by cases o<;>simp_all [O.owned,O.isNul]
theorem O.isAm_owned {o:O} (h:o.owned=false):o.isAm=false:=by cases o<;>simp_all [O.owned,O.isAm]
theorem Mem.footU' {k:Nat} {o:O} (hm:Mem w U ι ob) (h:ob k=some o) (ho:o.owned=false) {b:Nat} (hb:b∈(ι k).foot):U b:=by
 simp [Pt.foot,hm.one _ _ h (O.isAm_owned ho)] at hb
 subst hb
 exact (hm.obj k o h).blk ho
theorem Mem.apart {k k':Nat} {o o':O} (hm:Mem w U ι ob) (h:ob k=some o) (h':ob k'=some o') (ho':o'.owned=true) (hne:k≠k') {b:Nat} (hb:b∈(ι k).foot):b∉(ι k').foot:=by
 intro hb'
 cases ho:o.owned with
 | true=>exact hm.inj k k' o o' h h' ho ho' hne b hb hb'
 | false=>exact hm.footU h' ho' hb' (hm.footU' h ho hb)
theorem Mem.inj1 (hm:Mem w U ι ob) (k k':Nat) (o o':O) (h:ob k=some o) (h':ob k'=some o') (ho:o.owned=true) (ho':o'.owned=true) (hne:k≠k'):(ι k).1≠(ι k').1 :=
 fun e=>hm.inj k k' o o' h h' ho ho' hne (ι k).1 (by simp [Pt.foot]) (by simp [Pt.foot,e])
theorem Mem.foot1 (hm:Mem w U ι ob) {k:Nat} {o:O} (h:ob k=some o) (ha:o.isAm=false) {b:Nat}:b∈(ι k).foot↔b=(ι k).1:=by simp [Pt.foot,hm.one _ _ h ha]
theorem OR.evo {w':World} {U':Nat→Prop} {ι':Pl} {ob':Ob} {k:Nat} {o:O} (e:Evo w U ι ob w' U' ι' ob') (hι:ι' k=ι k) (hb:∀ b∈(ι k).foot,w'.heap[b]?=w.heap[b]?) (hU:∀ b∈(ι k).foot,(U' b↔U b))
  (h:OR w U ι ob k o):OR w' U' ι' ob' k o:=by
 have hb1:=hb (ι k).1 (by simp [Pt.foot])
 have hU1:=hU (ι k).1 (by simp [Pt.foot])
 cases o with
 | box cells elem =>
  obtain ⟨cur,h1,h2,h3⟩:=h
  exact ⟨cur,by rw [hι,hb1];exact h1,LF.evo e _ _ h2,by rw [hι,hU1];exact h3⟩
 | arr rows size elem own =>
  obtain ⟨cur,h1,h2,h3,h4,h5,h6⟩:=h
  refine ⟨cur,by rw [hι,hb1];exact h1,by rw [hι];exact h2,by rw [hι];exact h3,by rw [hι];exact h4,by rw [hι];exact RR.mono e.kept e.sub _ hb1 rows 0 size h5,?_⟩
  rw [hι]
  cases own
  ·simpa [hU1] using h6
  ·simpa [hU1] using h6
 | mp agg keys vals own =>
  obtain ⟨es,clock,h1,h2,h3⟩:=h
  refine ⟨es,clock,by rw [hι,hb1];exact h1,KR.mono e.kept e.sub vals agg keys es.toList h2,?_⟩
  rw [hι]
  cases own
  ·simpa [hU1] using h3
  ·simpa [hU1] using h3
 | ml keys vals =>
  obtain ⟨es,clock,h1,h2,h3⟩:=h
  exact ⟨es,clock,by rw [hι,hb1];exact h1,ER.evo e _ _ _ h2,by rw [hι,hU1];exact h3⟩
 | am keys rows size elem =>
  obtain ⟨es,clock,h1,h2,h3,h4,h5⟩:=h
  refine ⟨es,clock,by rw [hι,hb1];exact h1,by rw [hι];exact h2,?_,by rw [hι,hU1];exact h4,by rw [hι];exact h5⟩
  rw [hι]
  exact BR.evo e.kept e.sub _ _ (fun b hb'=>⟨hb b (by simp [Pt.foot,hb']),by rw [hU b (by simp [Pt.foot,hb'])];exact (h3.lt hb').2⟩) h3
 | nul=>exact h.elim
def qW (o new:O) (p q:Pt):Prop:=match o,new with
 | .box _ elem,.box _ elem'=>elem'=elem∧q.1=p.1
 | .arr rows size elem _,.arr rows' size' elem' _=>size'=size∧elem'=elem∧rows.length≤rows'.length∧(rows'.length=rows.length→q=p)
 | .mp agg _ _ _,.mp agg' _ _ _=>agg'=agg∧q.1=p.1
 | .ml _ _,.ml _ _=>q.1=p.1
 | .am _ _ size elem,.am _ _ size' elem'=>size'=size∧elem'=elem∧q.1=p.1∧p.3 <+: q.3
 | _,_=>False
theorem kL {w':World} (hm:Mem w U ι ob) (k:Nat) (new:O) (p:Pt)
  (os:w'.os=w.os) (tape:w'.tape=w.tape) (output:w'.output=w.output) (size:w.heap.size≤w'.heap.size)
  (hold:∀ b,b < w.heap.size→(ob k=none∨b∉(ι k).foot)→w'.heap[b]?=w.heap[b]?)
  (hown:∀ o,ob k=some o→o.owned=true∧qW o new (ι k) p)
  (hp:∀ b∈p.foot,w.heap.size≤b∨(ob k≠none∧b∈(ι k).foot)) (hone:new.isAm=false→p.3=[]) (hnew:new.owned=true)
  (hor:Evo w U ι ob w' U (eJ ι k p) (bN ob k new)→OR w' U (eJ ι k p) (bN ob k new) k new) :
  Mem w' U (eJ ι k p) (bN ob k new)∧Evo w U ι ob w' U (eJ ι k p) (bN ob k new):=by
 have keptU:∀ b,U b→w'.heap[b]?=w.heap[b]?:=fun b hb=>hold b (hm.lt b hb) (by
  cases hk:ob k with
  | none=>exact .inl rfl
  | some o=>exact .inr fun e=>hm.footU hk (hown o hk).1 e hb)
 have e:Evo w U ι ob w' U (eJ ι k p) (bN ob k new):=by
  refine ⟨os,tape,output,size,keptU,fun _ h=>h,?_,?_,?_,?_,?_,?_,?_,fun _ h=>.inl h⟩
  ·intro j cells elem hj
   by_cases hjk:j=k
   ·subst hjk
    have:=(hown _ hj).2
    cases new<;>simp [qW] at this
    rename_i c' e'
    exact ⟨c',by rw [b8,this.1],by rw [ai];exact this.2⟩
   ·exact ⟨cells,by rw [ap _ _ hjk];exact hj,by rw [aB _ _ hjk]⟩
  ·intro j rows sz elem own hj
   by_cases hjk:j=k
   ·subst hjk
    have:=(hown _ hj).2
    cases new<;>simp [qW] at this
    rename_i r' s' e' o'
    obtain ⟨h1,h2,h3,h4⟩:=this
    exact ⟨r',o',by rw [b8,h1,h2],h3,by rw [ai];exact h4⟩
   ·exact ⟨rows,own,by rw [ap _ _ hjk];exact hj,Kg _,fun _=>by rw [aB _ _ hjk]⟩
  ·intro j agg keys vals own hj
   by_cases hjk:j=k
   ·subst hjk
    have:=(hown _ hj).2
    cases new<;>simp [qW] at this
    rename_i a' k' v' o'
    obtain ⟨rfl,h2⟩:=this
    exact ⟨k',v',o',b8 _ _ _,by rw [ai];exact h2⟩
   ·exact ⟨keys,vals,own,by rw [ap _ _ hjk];exact hj,by rw [aB _ _ hjk]⟩
  ·intro j keys vals hj
   by_cases hjk:j=k
   ·subst hjk
    have:=(hown _ hj).2
    cases new<;>simp [qW] at this
    rename_i k' v'
    exact ⟨k',v',b8 _ _ _,by rw [ai];exact this⟩
   ·exact ⟨keys,vals,by rw [ap _ _ hjk];exact hj,by rw [aB _ _ hjk]⟩
  ·intro j keys rows sz elem hj
   by_cases hjk:j=k
   ·subst hjk
    have:=(hown _ hj).2
    cases new<;>simp [qW] at this
    rename_i k' r' s' e'
    obtain ⟨rfl,rfl,h2,h3⟩:=this
    exact ⟨k',r',b8 _ _ _,by rw [ai];exact h2,by rw [ai];exact h3⟩
   ·exact ⟨keys,rows,by rw [ap _ _ hjk];exact hj,by rw [aB _ _ hjk],by rw [aB _ _ hjk];exact List.prefix_refl _⟩
  ·intro b hb hno
   refine hold b hb ?_
   cases hk:ob k with
   | none=>exact .inl rfl
   | some o=>exact .inr fun e=>hno k o hk (hown o hk).1 e
  ·intro j o hj ho b hb
   by_cases hjk:j=k
   ·subst hjk
    rw [ai] at hb
    rcases hp b hb with h | ⟨h,h'⟩
    ·exact .inl h
    ·cases hk:ob j with
     | none=>exact absurd hk h
     | some o0=>exact .inr ⟨j,o0,hk,(hown _ hk).1,h'⟩
   ·rw [ap _ _ hjk] at hj
    rw [aB _ _ hjk] at hb
    exact .inr ⟨j,o,hj,ho,hb⟩
 refine ⟨⟨fun b hb=>Mi (hm.lt b hb) size,?_,?_,?_⟩,e⟩
 ·intro j o hj
  by_cases hjk:j=k
  ·subst hjk
   rw [b8] at hj
   cases hj
   exact hor e
  ·rw [ap _ _ hjk] at hj
   refine OR.evo e (aB _ _ hjk) (fun b hb=>hold _ (hm.foot hj hb) ?_) (fun _ _=>Iff.rfl) (hm.obj j o hj)
   cases hk:ob k with
   | none=>exact .inl rfl
   | some ok=>exact .inr (hm.apart hj hk (hown _ hk).1 hjk hb)
 ·intro j j' o o' hj hj' ho ho' hne b hb hb'
  have far:∀ i oi,ob i=some oi→i≠k→b∈(ι i).foot→b∈p.foot→False:=by
   intro i oi hi hik hbi hbp
   rcases hp b hbp with hp | ⟨hk,hp⟩
   ·have:=hm.foot hi hbi;omega
   ·cases hk':ob k with
    | none=>exact hk hk'
    | some ok=>exact hm.apart hi hk' (hown _ hk').1 hik hbi hp
  by_cases hjk:j=k
  ·subst hjk
   have hj'k:j'≠j:=fun e=>hne e.symm
   rw [ap _ _ hj'k] at hj'
   rw [ai] at hb
   rw [aB _ _ hj'k] at hb'
   exact far j' o' hj' hj'k hb' hb
  ·rw [ap _ _ hjk] at hj
   rw [aB _ _ hjk] at hb
   by_cases hj'k:j'=k
   ·subst hj'k
    rw [ai] at hb'
    exact far j o hj hjk hb hb'
   ·rw [ap _ _ hj'k] at hj'
    rw [aB _ _ hj'k] at hb'
    exact hm.inj j j' o o' hj hj' ho ho' hne b hb hb'
 ·intro j o hj ha
  by_cases hjk:j=k
  ·subst hjk
   rw [b8] at hj
   cases hj
   rw [ai]
   exact hone ha
  ·rw [ap _ _ hjk] at hj
   rw [aB _ _ hjk]
   exact hm.one j o hj ha
def Jh (o new:O) (p q:Nat×Nat):Prop:=match o,new with
 | .box _ elem,.box _ elem'=>elem'=elem∧q.1=p.1
 | .arr rows size elem _,.arr rows' size' elem' _=>size'=size∧elem'=elem∧rows.length≤rows'.length∧(rows'.length=rows.length→q=p)
 | .mp agg _ _ _,.mp agg' _ _ _=>agg'=agg∧q.1=p.1
 | .ml _ _,.ml _ _=>q.1=p.1
 | _,_=>False
theorem eC {w':World} (hm:Mem w U ι ob) (k:Nat) (new:O) (p:Nat×Nat)
  (os:w'.os=w.os) (tape:w'.tape=w.tape) (output:w'.output=w.output) (size:w.heap.size≤w'.heap.size)
  (hold:∀ b,b < w.heap.size→(ob k=none∨b≠(ι k).1)→w'.heap[b]?=w.heap[b]?)
  (hown:∀ o,ob k=some o→o.owned=true∧Jh o new ((ι k).1,(ι k).2) p)
  (hp:w.heap.size≤p.1∨(ob k≠none∧p.1=(ι k).1)) (hnew:new.owned=true)
  (hor:Evo w U ι ob w' U (eJ ι k ⟨p.1,p.2,[]⟩) (bN ob k new)→OR w' U (eJ ι k ⟨p.1,p.2,[]⟩) (bN ob k new) k new) :
  Mem w' U (eJ ι k ⟨p.1,p.2,[]⟩) (bN ob k new)∧Evo w U ι ob w' U (eJ ι k ⟨p.1,p.2,[]⟩) (bN ob k new):=by
 have noam:∀ o,ob k=some o→o.isAm=false:=fun o h=>by
  have:=(hown o h).2
  cases o<;>cases new<;>simp_all [Jh,O.isAm]
 refine kL hm k new ⟨p.1,p.2,[]⟩ os tape output size (fun b hb h=>hold b hb (h.imp_right fun h' e=>h' (by simp [Pt.foot,e]))) (fun o h=>⟨(hown o h).1,?_⟩) (fun b hb=>?_) (fun _=>rfl) hnew hor
 ·have h1:=(hown o h).2
  have h3:=hm.one k o h (noam o h)
  cases o<;>cases new<;>simp only [Jh,qW] at h1 ⊢<;>first | exact h1 | skip
  obtain ⟨a1,a2,a3,a4⟩:=h1
  refine ⟨a1,a2,a3,fun e=>?_⟩
  have:=a4 e
  subst this
  cases hι:ι k with
  | mk x y z=>rw [hι] at h3;simp at h3;simp [h3]
 ·simp [Pt.foot] at hb
  subst hb
  exact hp.imp_right fun h=>⟨h.1,by simp [Pt.foot,h.2]⟩
theorem Ff {w':World} {U':Nat→Prop} {ι1:Pl} {ob1:Ob} (hm:Mem w' U' ι1 ob1) (e:Evo w U ι ob w' U' ι1 ob1) (k:Nat) (new:O) (p:Pt) (hp3:p.3=[]) (hk:ob1 k=none)
  (hp:w.heap.size≤p.1) (_:p.1 < w'.heap.size) (_:¬ U' p.1) (hfar:∀ i oi,ob1 i=some oi→oi.owned=true→p.1∉(ι1 i).foot)
  (hor:OR w' U' (eJ ι1 k p) (bN ob1 k new) k new) :
  Mem w' U' (eJ ι1 k p) (bN ob1 k new)∧Evo w U ι ob w' U' (eJ ι1 k p) (bN ob1 k new)∧(∀ x v,LR w' U' ι1 ob1 x v→LR w' U' (eJ ι1 k p) (bN ob1 k new) x v):=by
 have nk:∀ j o,ob1 j=some o→j≠k:=by rintro j o hj rfl;rw [hk] at hj;cases hj
 have mono:∀ x v,LR w' U' ι1 ob1 x v→LR w' U' (eJ ι1 k p) (bN ob1 k new) x v:=by
  have both:(∀ x:L,∀ v,LR w' U' ι1 ob1 x v→LR w' U' (eJ ι1 k p) (bN ob1 k new) x v):=by
   intro x
   refine L.rec (motive_1:=fun x=>∀ v,LR w' U' ι1 ob1 x v→LR w' U' (eJ ι1 k p) (bN ob1 k new) x v)
    (motive_2:=fun xs=>∀ vs,LF w' U' ι1 ob1 xs vs→LF w' U' (eJ ι1 k p) (bN ob1 k new) xs vs) ?_ ?_ ?_ ?_ ?_ ?_ ?_ ?_ ?_ ?_ ?_ ?_ x
   ·intro x v h;simpa only [LR] using h
   ·intro k0 off n c v h
    simp only [LR] at h ⊢
    obtain ⟨rows,size,elem,own,h1,h2,h3,h4⟩:=h
    have:=nk _ _ h1
    exact ⟨rows,size,elem,own,by rw [ap _ _ this];exact h1,h2,by rw [aB _ _ this];exact h3,h4⟩
   ·intro k0 i off c v h
    simp only [LR] at h ⊢
    obtain ⟨rows,size,elem,own,h1,h2,h3,h4⟩:=h
    have:=nk _ _ h1
    exact ⟨rows,size,elem,own,by rw [ap _ _ this];exact h1,h2,by rw [aB _ _ this];exact h3,h4⟩
   ·intro k0 off v h
    simp only [LR] at h ⊢
    obtain ⟨cells,elem,h1,h2⟩:=h
    have:=nk _ _ h1
    exact ⟨cells,elem,by rw [ap _ _ this];exact h1,by rw [aB _ _ this];exact h2⟩
   ·intro f caps ih v h
    simp only [LR] at h ⊢
    obtain ⟨cs,h1,h2⟩:=h
    exact ⟨cs,h1,ih _ h2⟩
   ·intro k0 v h
    simp only [LR] at h ⊢
    obtain ⟨agg,keys,vals,own,h1,h2⟩:=h
    have:=nk _ _ h1
    exact ⟨agg,keys,vals,own,by rw [ap _ _ this];exact h1,by rw [aB _ _ this];exact h2⟩
   ·intro k0 v h
    simp only [LR] at h ⊢
    obtain ⟨h1 | ⟨keys,rows,size,elem,h1⟩,h2⟩:=h
    ·obtain ⟨keys,vals,h1⟩:=h1
     have:=nk _ _ h1
     exact ⟨.inl ⟨keys,vals,by rw [ap _ _ this];exact h1⟩,by rw [aB _ _ this];exact h2⟩
    ·have:=nk _ _ h1
     exact ⟨.inr ⟨keys,rows,size,elem,by rw [ap _ _ this];exact h1⟩,by rw [aB _ _ this];exact h2⟩
   ·intro k0 j off v h
    simp only [LR] at h ⊢
    obtain ⟨⟨keys,rows,size,elem,h1⟩,b,h2,h3⟩:=h
    have:=nk _ _ h1
    exact ⟨⟨keys,rows,size,elem,by rw [ap _ _ this];exact h1⟩,b,by rw [aB _ _ this];exact h2,h3⟩
   ·intro k0 n v h
    simp only [LR] at h ⊢
    refine h.imp id ?_
    rintro ⟨h0,rows,size,elem,own,h1,h2,h3,h4⟩
    have:=nk _ _ h1
    exact ⟨h0,rows,size,elem,own,by rw [ap _ _ this];exact h1,h2,by rw [aB _ _ this];exact h3,h4⟩
   ·intro v h;simp [LR]
   ·intro vs h;simpa [LF] using h
   ·intro x xs ih1 ih2 vs h
    simp only [LF] at h ⊢
    obtain ⟨v,vs',h1,h2,h3⟩:=h
    exact ⟨v,vs',h1,ih1 _ h2,ih2 _ h3⟩
  exact both
 have monoF:∀ xs vs,LF w' U' ι1 ob1 xs vs→LF w' U' (eJ ι1 k p) (bN ob1 k new) xs vs:=by
  intro xs
  induction xs with
  | nil=>intro vs h;simpa [LF] using h
  | cons x xs ih=>intro vs h;simp only [LF] at h ⊢;obtain ⟨v,vs',h1,h2,h3⟩:=h;exact ⟨v,vs',h1,mono _ _ h2,ih _ h3⟩
 have monoE:∀ ks xs es,ER w' U' ι1 ob1 ks xs es→ER w' U' (eJ ι1 k p) (bN ob1 k new) ks xs es:=by
  intro ks
  induction ks with
  | nil=>intro xs es h;cases xs<;>cases es<;>simp_all [ER]
  | cons q ks ih=>intro xs es h;cases xs<;>cases es<;>simp only [ER] at h ⊢;exact ⟨h.1,h.2.1,mono _ _ h.2.2.1,ih _ _ h.2.2.2⟩
 refine ⟨⟨hm.lt,?_,?_,?_⟩,⟨e.os,e.tape,e.output,e.size,e.kept,e.sub,?_,?_,?_,?_,?_,e.same,?_,e.orig⟩,mono⟩
 ·intro j o hj
  by_cases hjk:j=k
  ·subst hjk
   rw [b8] at hj
   cases hj
   exact hor
  ·rw [ap _ _ hjk] at hj
   have h:=hm.obj j o hj
   cases o with
   | box cells elem=>obtain ⟨cur,h1,h2,h3⟩:=h;exact ⟨cur,by rw [aB _ _ hjk];exact h1,monoF _ _ h2,by rw [aB _ _ hjk];exact h3⟩
   | arr rows size elem own=>obtain ⟨cur,h1,h2,h3,h4,h5,h6⟩:=h;exact ⟨cur,by rw [aB _ _ hjk];exact h1,by rw [aB _ _ hjk];exact h2,by rw [aB _ _ hjk];exact h3,by rw [aB _ _ hjk];exact h4,by rw [aB _ _ hjk];exact h5,by rw [aB _ _ hjk];exact h6⟩
   | mp agg keys vals own=>obtain ⟨es,clock,h1,h2,h3⟩:=h;exact ⟨es,clock,by rw [aB _ _ hjk];exact h1,h2,by rw [aB _ _ hjk];exact h3⟩
   | ml keys vals=>obtain ⟨es,clock,h1,h2,h3⟩:=h;exact ⟨es,clock,by rw [aB _ _ hjk];exact h1,monoE _ _ _ h2,by rw [aB _ _ hjk];exact h3⟩
   | am keys rows size elem=>simp only [OR] at h ⊢;rw [aB _ _ hjk];exact h
   | nul=>exact h.elim
 ·intro j j' o o' hj hj' ho ho' hne b hb hb'
  by_cases hjk:j=k
  ·subst hjk
   have hj'k:j'≠j:=fun e=>hne e.symm
   rw [ap _ _ hj'k] at hj'
   rw [ai] at hb
   rw [aB _ _ hj'k] at hb'
   simp [Pt.foot,hp3] at hb
   subst hb
   exact hfar j' o' hj' ho' hb'
  ·rw [ap _ _ hjk] at hj
   rw [aB _ _ hjk] at hb
   by_cases hj'k:j'=k
   ·subst hj'k
    rw [ai] at hb'
    simp [Pt.foot,hp3] at hb'
    subst hb'
    exact hfar j o hj ho hb
   ·rw [ap _ _ hj'k] at hj'
    rw [aB _ _ hj'k] at hb'
    exact hm.inj j j' o o' hj hj' ho ho' hne b hb hb'
 ·intro j o hj ha
  by_cases hjk:j=k
  ·subst hjk;rw [ai];exact hp3
  ·rw [ap _ _ hjk] at hj
   rw [aB _ _ hjk]
   exact hm.one j o hj ha
 ·intro j cells elem hj
  obtain ⟨c',h1,h2⟩:=e.box j cells elem hj
  have:=nk _ _ h1
  exact ⟨c',by rw [ap _ _ this];exact h1,by rw [aB _ _ this];exact h2⟩
 ·intro j rows size elem own hj
  obtain ⟨r',o',h1,h2,h3⟩:=e.arr j rows size elem own hj
  have:=nk _ _ h1
  exact ⟨r',o',by rw [ap _ _ this];exact h1,h2,by rw [aB _ _ this];exact h3⟩
 ·intro j agg keys vals own hj
  obtain ⟨k',v',o',h1,h2⟩:=e.mp j agg keys vals own hj
  have:=nk _ _ h1
  exact ⟨k',v',o',by rw [ap _ _ this];exact h1,by rw [aB _ _ this];exact h2⟩
 ·intro j keys vals hj
  obtain ⟨k',v',h1,h2⟩:=e.ml j keys vals hj
  have:=nk _ _ h1
  exact ⟨k',v',by rw [ap _ _ this];exact h1,by rw [aB _ _ this];exact h2⟩
 ·intro j keys rows size elem hj
  obtain ⟨k',v',h1,h2,h3⟩:=e.am j keys rows size elem hj
  have:=nk _ _ h1
  exact ⟨k',v',by rw [ap _ _ this];exact h1,by rw [aB _ _ this];exact h2,by rw [aB _ _ this];exact h3⟩
 ·intro j o hj ho b hb
  by_cases hjk:j=k
  ·subst hjk;rw [ai] at hb;simp [Pt.foot,hp3] at hb;subst hb;exact .inl hp
  ·rw [ap _ _ hjk] at hj
   rw [aB _ _ hjk] at hb
   exact e.ownd j o hj ho b hb
def O.shut:O→O
 | .arr rows size elem _=>.arr rows size elem false
 | .mp agg keys vals _=>.mp agg keys vals false
 | o=>o
def O.isBox:O→Bool
 | .box ..=>true
 | _=>false
def O.isRow:O→Bool
 | .arr ..=>true
 | .mp ..=>true
 | _=>false
theorem lE (hm:Mem w U ι ob) {k:Nat} {ok:O} (hk:ob k=some ok) (hnb:ok.isRow=true) :
  Mem w (fun b=>U b∨b=(ι k).1) ι (bN ob k ok.shut)∧Evo w U ι ob w (fun b=>U b∨b=(ι k).1) ι (bN ob k ok.shut):=by
 have hna:ok.isAm=false:=by cases ok<;>simp_all [O.isRow,O.isAm]
 have hkf:∀ {b},b∈(ι k).foot↔b=(ι k).1:=hm.foot1 hk hna
 have hsho:ok.shut.owned=false:=by cases ok<;>simp_all [O.shut,O.owned,O.isRow]
 have e:Evo w U ι ob w (fun b=>U b∨b=(ι k).1) ι (bN ob k ok.shut):=by
  refine ⟨rfl,rfl,rfl,Kg _,fun _ _=>rfl,fun _ h=>.inl h,?_,?_,?_,?_,?_,fun _ _ _=>rfl,?_,?_⟩
  ·intro j cells el hj
   have hjk:j≠k:=by rintro rfl;rw [hk] at hj;cases hj;simp [O.isRow] at hnb
   exact ⟨cells,by rw [ap _ _ hjk];exact hj,rfl⟩
  ·intro j r s el o hj
   by_cases hjk:j=k
   ·subst hjk
    rw [hk] at hj
    cases hj
    exact ⟨r,false,b8 _ _ _,Kg _,fun _=>rfl⟩
   ·exact ⟨r,o,by rw [ap _ _ hjk];exact hj,Kg _,fun _=>rfl⟩
  ·intro j agg keys vals o hj
   by_cases hjk:j=k
   ·subst hjk
    rw [hk] at hj
    cases hj
    exact ⟨keys,vals,false,b8 _ _ _,rfl⟩
   ·exact ⟨keys,vals,o,by rw [ap _ _ hjk];exact hj,rfl⟩
  ·intro j keys vals hj
   have hjk:j≠k:=by rintro rfl;rw [hk] at hj;cases hj;simp [O.isRow] at hnb
   exact ⟨keys,vals,by rw [ap _ _ hjk];exact hj,rfl⟩
  ·intro j keys rows sz el hj
   have hjk:j≠k:=by rintro rfl;rw [hk] at hj;cases hj;simp [O.isRow] at hnb
   exact ⟨keys,rows,by rw [ap _ _ hjk];exact hj,rfl,List.prefix_refl _⟩
  ·intro j o hj ho b hb
   by_cases hjk:j=k
   ·subst hjk
    rw [b8] at hj
    cases hj
    rw [hsho] at ho
    cases ho
   ·rw [ap _ _ hjk] at hj
    exact .inr ⟨j,o,hj,ho,hb⟩
  ·rintro b (hb | rfl)
   ·exact .inl hb
   ·cases hok:ok.owned with
    | true=>exact .inr (.inr ⟨k,ok,hk,hok,hkf.2 rfl⟩)
    | false=>exact .inl ((hm.obj _ _ hk).blk hok)
 refine ⟨⟨?_,?_,?_,?_⟩,e⟩
 ·rintro b (hb | rfl)
  ·exact hm.lt b hb
  ·exact hm.block hk
 ·intro j o hj
  by_cases hjk:j=k
  ·subst hjk
   rw [b8] at hj
   cases hj
   have h0:=hm.obj _ _ hk
   cases ok with
   | box=>simp [O.isRow] at hnb
   | ml=>simp [O.isRow] at hnb
   | am=>simp [O.isRow] at hnb
   | nul=>simp [O.isRow] at hnb
   | arr rows size elem own =>
    obtain ⟨cur,h1,h2,h3,h4,h5,h6⟩:=h0
    exact ⟨cur,h1,h2,h3,h4,RR.mono e.kept e.sub _ rfl rows 0 size h5,by simp⟩
   | mp agg keys vals own =>
    obtain ⟨es,clock,h1,h2,h3⟩:=h0
    exact ⟨es,clock,h1,KR.mono e.kept e.sub _ _ _ _ h2,by simp⟩
  ·rw [ap _ _ hjk] at hj
   have h1:=hm.obj j o hj
   cases ho:o.owned with
   | true =>
    refine OR.evo e rfl (fun _ _=>rfl) (fun b hb=>⟨fun h=>h.elim id fun e'=>?_,.inl⟩) h1
    subst e'
    cases hok:ok.owned with
    | true=>exact absurd (hkf.2 rfl) (hm.apart hj hk hok hjk hb)
    | false=>exact (hm.obj _ _ hk).blk hok
   | false =>
    cases o with
    | box=>simp [O.owned] at ho
    | ml=>simp [O.owned] at ho
    | am=>simp [O.owned] at ho
    | nul=>exact h1.elim
    | arr r s el o =>
     obtain ⟨cur,h2,h3,h4,h5,h6,h7⟩:=h1
     refine ⟨cur,h2,h3,h4,h5,RR.mono e.kept e.sub _ rfl r 0 s h6,?_⟩
     simp [O.owned] at ho
     subst ho
     simp at h7 ⊢;exact .inl h7
    | mp agg keys vals o =>
     obtain ⟨es,clock,h2,h3,h7⟩:=h1
     refine ⟨es,clock,h2,KR.mono e.kept e.sub _ _ _ _ h3,?_⟩
     simp [O.owned] at ho
     subst ho
     simp at h7 ⊢;exact .inl h7
 ·intro j j' o o' hj hj' ho ho' hne
  have hj1:j≠k:=by rintro rfl;rw [b8] at hj;cases hj;rw [hsho] at ho;cases ho
  have hj2:j'≠k:=by rintro rfl;rw [b8] at hj';cases hj';rw [hsho] at ho';cases ho'
  rw [ap _ _ hj1] at hj
  rw [ap _ _ hj2] at hj'
  exact hm.inj j j' o o' hj hj' ho ho' hne
 ·intro j o hj ha
  by_cases hjk:j=k
  ·subst hjk;exact hm.one j ok hk hna
  ·rw [ap _ _ hjk] at hj;exact hm.one j o hj ha
def fy (P:Program) (w:World) (U:Nat→Prop) (ι:Pl) (ob:Ob) (s:Sem Value) (r:cn):Prop :=
 ∃ v w' U' ι',s.run P w=.ok v w'∧Mem w' U' ι' (b5 ob r.2)∧Evo w U ι ob w' U' ι' (b5 ob r.2)∧VR w' U' ι' (b5 ob r.2) r.1 v
theorem aE (hm:Mem w U ι ob) {s:Sem Value} {v:V} {u:Value} (h:s.run P w=.ok u w) (hv:VR w U ι ob v u):fy P w U ι ob s (v,[]) :=
 ⟨u,w,U,ι,h,hm,Evo.refl _ _ _ _,hv⟩
theorem LF.len {xs:List L} {vs:List Value} (h:LF w U ι ob xs vs):vs.length=xs.length:=by
 induction xs generalizing vs with
 | nil=>simp only [LF] at h;simp [h]
 | cons x xs ih=>simp only [LF] at h;obtain ⟨v,vs',rfl,_,h2⟩:=h;simp [ih h2]
theorem LF.at_ {xs:List L} {vs:List Value} (h:LF w U ι ob xs vs):∀ {j:Nat} {x:L},xs[j]?=some x→∃ v,vs[j]?=some v∧LR w U ι ob x v:=by
 induction xs generalizing vs with
 | nil=>intro j x hj;simp at hj
 | cons y ys ih =>
  simp only [LF] at h
  obtain ⟨v,vs',rfl,h1,h2⟩:=h
  intro j x hj
  cases j with
  | zero=>simp at hj;subst hj;exact ⟨v,rfl,h1⟩
  | succ j=>simpa using ih h2 (by simpa using hj)
theorem LF.mk {xs:List L} {vs:List Value} (hl:vs.length=xs.length) (h:∀ (j:Nat) (x:L) (v:Value),xs[j]?=some x→vs[j]?=some v→LR w U ι ob x v):LF w U ι ob xs vs:=by
 induction xs generalizing vs with
 | nil=>simp only [LF];exact Tb hl
 | cons y ys ih =>
  cases vs with
  | nil=>simp at hl
  | cons v vs =>
   simp only [LF]
   exact ⟨v,vs,rfl,h 0 y v rfl rfl,ih (by simpa using hl) fun j x u hx hu=>h (j+1) x u (by simpa using hx) (by simpa using hu)⟩
theorem LF.append {xs ys:List L} {vs us:List Value} (h:LF w U ι ob xs vs) (k:LF w U ι ob ys us):LF w U ι ob (xs++ys) (vs++us):=by
 induction xs generalizing vs with
 | nil=>simp only [LF] at h;simpa [h] using k
 | cons x xs ih=>simp only [LF] at h;obtain ⟨v,vs',rfl,h1,h2⟩:=h;simp only [Kp,LF];exact ⟨v,_,rfl,h1,ih h2⟩
theorem LF.take {xs:List L} {vs:List Value} (h:LF w U ι ob xs vs) (n:Nat):LF w U ι ob (xs.take n) (vs.take n):=by
 induction xs generalizing vs n with
 | nil=>simp only [LF] at h;simp [h,LF]
 | cons x xs ih =>
  simp only [LF] at h;obtain ⟨v,vs',rfl,h1,h2⟩:=h
  cases n with
  | zero=>simp [LF]
  | succ n=>simp only [Mn,LF];exact ⟨v,_,rfl,h1,ih h2 n⟩
theorem LF.drop {xs:List L} {vs:List Value} (h:LF w U ι ob xs vs) (n:Nat):LF w U ι ob (xs.drop n) (vs.drop n):=by
 induction xs generalizing vs n with
 | nil=>simp only [LF] at h;simp [h,LF]
 | cons x xs ih =>
  simp only [LF] at h;obtain ⟨v,vs',rfl,h1,h2⟩:=h
  cases n with
  | zero=>simp only [Ts,LF];exact ⟨v,_,rfl,h1,h2⟩
  | succ n=>simpa using ih h2 n
theorem VF.at_ {xs:List V} {vs:List Value} (h:VF w U ι ob xs vs):∀ {j:Nat} {x:V},xs[j]?=some x→∃ v,vs[j]?=some v∧VR w U ι ob x v:=by
 induction xs generalizing vs with
 | nil=>intro j x hj;simp at hj
 | cons y ys ih =>
  simp only [VF] at h
  obtain ⟨v,vs',rfl,h1,h2⟩:=h
  intro j x hj
  cases j with
  | zero=>simp at hj;subst hj;exact ⟨v,rfl,h1⟩
  | succ j=>simpa using ih h2 (by simpa using hj)
theorem uY {v:Value} (h:plain v=true):v.cells=#[v]:=by cases v<;>simp_all [plain,Value.cells]
theorem rY {v:Value} (h:plain v=true):v.oneCell'=true:=by cases v<;>simp_all [plain,Value.oneCell']
theorem ot (f:Nat) (a:Array Value):(iy f a).cells=#[iy f a]∧(iy f a).oneCell'=true:=by unfold iy;split<;>exact ⟨rfl,rfl⟩
theorem DR.cells {x:D} {v:Value} (h:DR w U x v):v.cells=#[v]∧v.oneCell'=true:=by
 cases x with
 | lit u=>simp only [DR] at h;obtain ⟨rfl,h⟩:=h;exact ⟨uY h,rY h⟩
 | sl size rows=>simp only [DR] at h;obtain ⟨a,cap,rfl,_⟩:=h;exact ⟨rfl,rfl⟩
 | dp row off=>simp only [DR] at h;obtain ⟨a,cap,rfl,_⟩:=h;exact ⟨rfl,rfl⟩
 | fn f caps=>simp only [DR] at h;obtain ⟨a,rfl,_⟩:=h;exact ot f a
 | mp agg keys vals=>simp only [DR] at h;obtain ⟨_,_,_,rfl,_⟩:=h;exact ⟨rfl,rfl⟩
 | ifc t agg row=>simp only [DR] at h;obtain ⟨_,rfl,_⟩:=h;exact ⟨rfl,rfl⟩
theorem LR.cells {x:L} {v:Value} (h:LR w U ι ob x v) (hx:x.isDef=true):v.cells=#[v]∧v.oneCell'=true:=by
 cases x with
 | d x=>simp only [LR] at h;exact DR.cells h
 | slk k off n c=>simp only [LR] at h;obtain ⟨_,_,_,_,_,_,_,a,c',rfl,_⟩:=h;exact ⟨rfl,rfl⟩
 | pa k i off c=>simp only [LR] at h;obtain ⟨_,_,_,_,_,_,_,a,rfl⟩:=h;exact ⟨rfl,rfl⟩
 | ptr k off=>simp only [LR] at h;obtain ⟨_,_,_,rfl⟩:=h;exact ⟨rfl,rfl⟩
 | fn f caps=>simp only [LR] at h;obtain ⟨a,rfl,_⟩:=h;exact ot f a
 | mk k=>simp only [LR] at h;obtain ⟨_,_,_,_,_,rfl⟩:=h;exact ⟨rfl,rfl⟩
 | mq k=>simp only [LR] at h;obtain ⟨_,rfl⟩:=h;exact ⟨rfl,rfl⟩
 | pb k j off=>simp only [LR] at h;obtain ⟨_,_,_,rfl⟩:=h;exact ⟨rfl,rfl⟩
 | sln k n=>simp only [LR] at h;rcases h with ⟨_,rfl⟩ | ⟨_,_,_,_,_,_,_,_,a,c',rfl,_⟩<;>exact ⟨rfl,rfl⟩
 | undef=>simp [L.isDef] at hx
theorem VR.cells {x:V} {v:Value} {cs:List L} (h:VR w U ι ob x v) (hc:x.cells=some cs):LF w U ι ob cs v.cells.toList∧(∀ u∈v.cells.toList,u.oneCell'=true):=by
 cases x with
 | one x =>
  simp only [V.cells] at hc
  split at hc
  ·cases hc
   simp only [VR] at h
   have:=LR.cells h ‹_›
   rw [this.1]
   exact ⟨by simp only [LF];exact ⟨v,[],rfl,h,rfl⟩,by simpa using this.2⟩
  ·cases hc
 | agg xs =>
  simp only [V.cells] at hc
  split at hc
  ·rename_i hd
   cases hc
   simp only [VR] at h
   obtain ⟨vs,rfl,hl⟩:=h
   refine ⟨hl,fun u hu=>?_⟩
   simp only [Value.cells] at hu
   obtain ⟨j,hj,rfl⟩:=List.mem_iff_getElem.1 hu
   have hjl:j < cs.length:=by rw [←hl.len];exact hj
   obtain ⟨v',hv',hr⟩:=hl.at_ (Jo hjl)
   rw [Jo hj] at hv'
   cases hv'
   exact (LR.cells hr (by simpa using Kq.1 hd _ (List.getElem_mem hjl))).2
  ·cases hc
 | tup xs=>simp [V.cells] at hc
theorem jZ {zs:List Value} (h:zs.all plain=true):LF w U ι ob (gu zs) zs:=by
 induction zs with
 | nil=>simp [gu,LF]
 | cons z zs ih =>
  simp at h
  simp only [gu,Jz,LF]
  exact ⟨z,zs,rfl,by simp [LR,DR,h.1],ih (by simpa using h.2)⟩
theorem Jj {v:Value} (h:plain v=true):DR w U (.lit v) v:=by simp [DR,h]
theorem dX {t:Nat} {zs:List Value} (h:co P t=some zs):∃ i z,P.info? t=some i∧i.zero=some z∧z.cells.toList=zs∧zs.all plain=true:=by
 simp only [co,Km] at h
 obtain ⟨i,hi,z,hz,h⟩:=h
 split at h
 ·cases h;exact ⟨i,z,hi,hz,rfl,‹_›⟩
 ·cases h
theorem lI (hm:Mem w U ι ob) {dst:Option Nat} {o:O} {f:Nat→V} {r:cn} (hr:(fresh dst o f).run ob=some r) {s:Sem Value} {u:Value} {obj:Obj} {c:Nat}
  (hrun:s.run P w=.ok u (w.alloc obj)) (ho:o.owned=true)
  (hor:∀ k ι' ob',ob' k=some o→(ι' k)=⟨w.heap.size,c,[]⟩→Evo w U ι ob (w.alloc obj) U ι' ob'→OR (w.alloc obj) U ι' ob' k o)
  (hv:∀ k ι' ob',ob' k=some o→(ι' k)=⟨w.heap.size,c,[]⟩→VR (w.alloc obj) U ι' ob' (f k) u):fy P w U ι ob s r:=by
 unfold fresh at hr
 cases dst with
 | none=>simp [Q.run] at hr
 | some k =>
  simp only [Q.run] at hr
  cases hk:ob k with
  | some o=>simp [hk,Q.run] at hr
  | none =>
   simp only [hk,Q.run,Jm] at hr
   subst hr
   obtain ⟨h1,h2⟩:=eC (w':=w.alloc obj) hm k o (w.heap.size,c) rfl rfl rfl (by simp) (fun b hb _=>by
    show (w.heap.push obj)[b]?=_
    rw [Vb,Kc (by omega)]) (fun o' h=>by rw [hk] at h;cases h) (.inl (Kg _)) ho (fun e=>hor k _ _ (b8 _ _ _) (ai _ _ _) e)
   have e:b5 ob [(k,o)]=bN ob k o:=AZ ob k o [] (O.owned_nul ho)
   refine ⟨u,w.alloc obj,U,eJ ι k ⟨w.heap.size,c,[]⟩,hrun,?_,?_,?_⟩
   ·simp only [e];exact h1
   ·simp only [e];exact h2
   ·simp only [e];exact hv k _ _ (b8 _ _ _) (ai _ _ _)
end
section
open Go.RowKit
variable {P:Program} {w:World} {U:Nat→Prop} {ι:Pl} {ob:Ob}
theorem FR.len {xs:List D} {vs:List Value} (h:FR w U xs vs):vs.length=xs.length:=by
 induction xs generalizing vs with
 | nil=>simp only [FR] at h;simp [h]
 | cons x xs ih=>simp only [FR] at h;obtain ⟨v,vs',rfl,_,h2⟩:=h;simp [ih h2]
theorem FR.at_ {xs:List D} {vs:List Value} (h:FR w U xs vs):∀ {j:Nat} {x:D},xs[j]?=some x→∃ v,vs[j]?=some v∧DR w U x v:=by
 induction xs generalizing vs with
 | nil=>intro j x hj;simp at hj
 | cons y ys ih =>
  simp only [FR] at h
  obtain ⟨v,vs',rfl,h1,h2⟩:=h
  intro j x hj
  cases j with
  | zero=>simp at hj;subst hj;exact ⟨v,rfl,h1⟩
  | succ j=>simpa using ih h2 (by simpa using hj)
theorem FR.append {xs ys:List D} {vs us:List Value} (h:FR w U xs vs) (k:FR w U ys us):FR w U (xs++ys) (vs++us):=by
 induction xs generalizing vs with
 | nil=>simp only [FR] at h;simpa [h] using k
 | cons x xs ih=>simp only [FR] at h;obtain ⟨v,vs',rfl,h1,h2⟩:=h;simp only [Kp,FR];exact ⟨v,_,rfl,h1,ih h2⟩
theorem FR.one {xs:List D} {vs:List Value} (h:FR w U xs vs):∀ u∈vs,u.oneCell'=true:=by
 induction xs generalizing vs with
 | nil=>simp only [FR] at h;simp [h]
 | cons x xs ih =>
  simp only [FR] at h;obtain ⟨v,vs',rfl,h1,h2⟩:=h
  intro u hu
  rcases Ka.1 hu with rfl | hu
  ·exact h1.cells.2
  ·exact ih h2 u hu
theorem lT {b:Nat}:∀ {xs:List D} {o:Nat},CR w U b o xs↔∃ vs,FR w U xs vs∧∀ j u,vs[j]?=some u→w.cell? ⟨b,o+j,none⟩=some u
 | [],o=>by simp [CR,FR]
 | x::xs,o=>by
  simp only [CR,FR]
  constructor
  ·rintro ⟨⟨u,hc,hd⟩,hr⟩
   obtain ⟨vs,h1,h2⟩:=lT.1 hr
   refine ⟨u::vs,⟨u,vs,rfl,hd,h1⟩,fun j v hv=>?_⟩
   cases j with
   | zero=>simp at hv;subst hv;simpa using hc
   | succ j=>have:=h2 j v (by simpa using hv);rwa [show o+1+j=o+(j+1) by omega] at this
  ·rintro ⟨_,⟨u,vs,rfl,hd,h1⟩,h2⟩
   refine ⟨⟨u,by simpa using h2 0 u rfl,hd⟩,lT.2 ⟨vs,h1,fun j v hv=>?_⟩⟩
   have:=h2 (j+1) v (by simpa using hv)
   rwa [show o+(j+1)=o+1+j by omega] at this
theorem ec {b:Nat}:∀ {rs:List (List D)} {o size:Nat},RR w U b o size rs↔(∀ r∈rs,r.length=size)∧∃ vs,FR w U rs.flatten vs∧∀ j u,vs[j]?=some u→w.cell? ⟨b,o+j,none⟩=some u
 | [],o,size=>by simp [RR,FR]
 | r::rs,o,size=>by
  simp only [RR,Tv]
  constructor
  ·rintro ⟨hl,hc,hr⟩
   obtain ⟨vs,h1,h2⟩:=lT.1 hc
   obtain ⟨h3,us,h4,h5⟩:=ec.1 hr
   refine ⟨by simpa [hl] using h3,vs++us,h1.append h4,fun j u hu=>?_⟩
   have hvl:vs.length=size:=by rw [h1.len,hl]
   rw [V7] at hu
   split at hu
   ·exact h2 j u hu
   ·have:=h5 _ u hu
    rw [hvl] at this
    rwa [show o+size+(j - size)=o+j by omega] at this
  ·rintro ⟨hl,vs,h1,h2⟩
   have hrl:r.length=size:=hl r (by simp)
   refine ⟨hrl,?_,?_⟩
   ·refine CR.mk fun j x hj=>?_
    obtain ⟨v,hv,hd⟩:=h1.at_ (j:=j) (x:=x) (by rw [Ma (K5.1 hj).1];exact hj)
    exact ⟨v,h2 j v hv,hd⟩
   ·have key:∀ {xs ys:List D} {vs:List Value},FR w U (xs++ys) vs→FR w U ys (vs.drop xs.length):=by
     intro xs
     induction xs with
     | nil=>intro ys vs h;simpa using h
     | cons x xs ih=>intro ys vs h;simp only [Kp,FR] at h;obtain ⟨v,vs',rfl,_,h⟩:=h;simpa using ih h
    refine ec.2 ⟨fun r hr=>hl r (by simp [hr]),vs.drop size,by rw [←hrl];exact key h1,fun j u hu=>?_⟩
    rw [Mt] at hu
    have:=h2 _ u hu
    rwa [show o+(size+j)=o+size+j by omega] at this
theorem bX {rs:List (List D)} {size:Nat} (h:∀ r∈rs,r.length=size):rs.flatten.length=rs.length*size:=by
 induction rs with
 | nil=>simp
 | cons r rs ih=>simp [h r (by simp),ih (fun x hx=>h x (by simp [hx])),T0,Nat.add_comm]
theorem FR.take {xs:List D} {vs:List Value} (h:FR w U xs vs) (n:Nat):FR w U (xs.take n) (vs.take n):=by
 induction xs generalizing vs n with
 | nil=>simp only [FR] at h;simp [h,FR]
 | cons x xs ih =>
  simp only [FR] at h;obtain ⟨v,vs',rfl,h1,h2⟩:=h
  cases n with
  | zero=>simp [FR]
  | succ n=>simp only [Mn,FR];exact ⟨v,_,rfl,h1,ih h2 n⟩
theorem FR.drop {xs:List D} {vs:List Value} (h:FR w U xs vs) (n:Nat):FR w U (xs.drop n) (vs.drop n):=by
 induction xs generalizing vs n with
 | nil=>simp only [FR] at h;simp [h,FR]
 | cons x xs ih =>
  simp only [FR] at h;obtain ⟨v,vs',rfl,h1,h2⟩:=h
  cases n with
  | zero=>simp only [Ts,FR];exact ⟨v,_,rfl,h1,h2⟩
  | succ n=>simpa using ih h2 n
theorem BR.push {w:World} {U:Nat→Prop} {size elem b:Nat} {row:List D} {cur:Array Value} (h1:w.heap[b]?=some (.cells cur elem (0,0))) (h2:FR w U row cur.toList) (h3:row.length=size) (h4:¬ U b):∀ {bs:List Nat} {rs:List (List D)},BR w U size elem bs rs→BR w U size elem (bs++[b]) (rs++[row])
 | [],[],_=>by simp only [Ke,BR];exact ⟨⟨cur,h1,h2⟩,h3,h4,trivial⟩
 | c::bs,r::rs,h=>by simp only [BR,Kp] at h ⊢;exact ⟨h.1,h.2.1,h.2.2.1,BR.push h1 h2 h3 h4 h.2.2.2⟩
 | [],_::_,h=>by simp [BR] at h
 | _::_,[],h=>by simp [BR] at h
theorem BR.set_ {w w':World} {U:Nat→Prop} {size elem b:Nat} {row:List D} {cur:Array Value} (hk:∀ c,U c→w'.heap[c]?=w.heap[c]?) (h1:w'.heap[b]?=some (.cells cur elem (0,0))) (h2:FR w' U row cur.toList) (h3:row.length=size):∀ {bs:List Nat} {rs:List (List D)} {j:Nat},BR w U size elem bs rs→bs[j]?=some b→bs.Nodup→(∀ c∈bs,c≠b→w'.heap[c]?=w.heap[c]?)→BR w' U size elem bs (rs.set j row)
 | [],[],_,_,hj,_,_=>by simp at hj
 | c::bs,r::rs,0,h,hj,hn,ho=>by
  simp at hj;subst hj
  simp only [BR,List.set_cons_zero] at h ⊢
  simp at hn
  exact ⟨⟨cur,h1,h2⟩,h3,h.2.2.1,BR.evo hk (fun _ h=>h) _ _ (fun d hd=>⟨ho d (by simp [hd]) (fun e=>hn.1 (e ▸ hd)),(h.2.2.2.lt hd).2⟩) h.2.2.2⟩
 | c::bs,r::rs,j+1,h,hj,hn,ho=>by
  simp only [BR,List.set_cons_succ] at h ⊢
  simp at hn
  have hj':bs[j]?=some b:=by simpa using hj
  have hcb:c≠b:=fun e=>hn.1 (e ▸ K2 hj')
  obtain ⟨⟨cur',g1,g2⟩,g3,g4,g5⟩:=h
  exact ⟨⟨cur',by rw [ho c (by simp) hcb];exact g1,FR.mono hk (fun _ h=>h) _ _ g2⟩,g3,g4,BR.set_ hk h1 h2 h3 g5 hj' hn.2 (fun d hd=>ho d (by simp [hd]))⟩
 | [],_::_,_,h,_,_,_=>by simp [BR] at h
 | _::_,[],_,h,_,_,_=>by simp [BR] at h
theorem gR {t:Nat} {i:TypeInfo} (h:P.info? t=some i):(typeInfo t).run P w=.ok i w:=by simp [typeInfo,h]
theorem cp {t s:Nat} (h:bj P t=some s):(sizeOf t).run P w=.ok s w:=by
 simp only [bj,Jw] at h
 obtain ⟨i,hi,rfl⟩:=h
 simp [sizeOf,gR hi]
theorem gy {t:Nat} {g:Bool} (h:dc P t=some g):(isAgg t).run P w=.ok g w:=by
 simp only [dc,Jw] at h
 obtain ⟨d,hd,rfl⟩:=h
 simp only [isAgg,Sem.run_bind,run_underlying hd,Result.andThen_ok]
 cases d<;>rfl
theorem tr {t:Nat} {zs:List Value} (h:co P t=some zs):∃ z,(zeroValue t).run P w=.ok z w∧z.cells.toList=zs∧zs.all plain=true:=by
 obtain ⟨i,z,hi,hz,h1,h2⟩:=dX h
 exact ⟨z,by simp [zeroValue,gR hi,hz],h1,h2⟩
theorem dO {t e:Nat} (h:bY P t=some e):P.underlying t=some (.slice e):=by
 unfold bY at h
 split at h
 ·cases h;assumption
 ·cases h
theorem bC {b:Nat} {cur:Array Value} {e:Nat} {fz:Nat×Nat} (h:w.heap[b]?=some (.cells cur e fz)) (j:Nat):w.cell? ⟨b,j,none⟩=cur[j]?:=by simp [World.cell?,h]
theorem add_lit (b o n:Nat):Addr.add ⟨b,o,none⟩ n=⟨b,o+n,none⟩:=Addr.add_lit b o n
theorem Dq (hm:Mem w U ι ob) {dst:Option Nat} {x:V} {u:Value} {cs:List L} {e:Nat} {r:cn} (hx:VR w U ι ob x u) (hc:x.cells=some cs)
  (hr:(fresh dst (.box cs e) fun k=>.one (.ptr k 0)).run ob=some r):fy P w U ι ob (Instr.box e u) r:=by
 have hl:=(VR.cells hx hc).1
 refine lI hm hr (u:=.pointer (some ⟨w.heap.size,0,none⟩)) (obj:=.cells u.cells e) (c:=0) (by simp [Instr.box,newVar,newRow]) rfl ?_ ?_
 ·intro k ι' ob' _ hι e'
  exact ⟨u.cells,by rw [hι];exact heap_alloc_new w _,LF.evo e' _ _ hl,by rw [hι];intro h;exact absurd (hm.lt _ h) (by simp)⟩
 ·intro k ι' ob' ho hι
  simp only [VR,LR]
  exact ⟨cs,e,ho,by rw [hι]⟩
theorem xZ (hm:Mem w U ι ob) {dst:Option Nat} {zs:List Value} {e:Nat} {r:cn} (hz:co P e=some zs)
  (hr:(fresh dst (.box (gu zs) e) fun k=>.one (.ptr k 0)).run ob=some r):fy P w U ι ob (Instr.alloc e true (.tuple #[])) r:=by
 obtain ⟨z,h1,h2,h3⟩:=tr (w:=w) hz
 refine lI hm hr (u:=.pointer (some ⟨w.heap.size,0,none⟩)) (obj:=.cells z.cells e) (c:=0) (by simp [Instr.alloc,h1,newVar,newRow]) rfl ?_ ?_
 ·intro k ι' ob' _ hι e'
  exact ⟨z.cells,by rw [hι];exact heap_alloc_new w _,by rw [h2];exact jZ h3,by rw [hι];intro h;exact absurd (hm.lt _ h) (by simp)⟩
 ·intro k ι' ob' ho hι
  simp only [VR,LR]
  exact ⟨_,e,ho,by rw [hι]⟩
theorem vw {g:Bool} {s off:Nat} {cells:List L} {cur:List Value} {v:V} (h:bx g s off cells=some v) (hl:LF w U ι ob cells (cur.take cells.length)) (hcl:cells.length≤cur.length)
  {b:Nat} {e:Nat} {fz:Nat×Nat} {o:Nat} {arr:Array Value} (hb:w.heap[b]?=some (.cells arr e fz)) (ho:∀ j u,cur[j]?=some u→arr[o+j]?=some u) {t:Nat} (ha:dc P t=some g) (hs:bj P t=some s) :
  ∃ u,(loadVar t ⟨b,o+off,none⟩).run P w=.ok u w∧VR w U ι ob v u:=by
 unfold bx at h
 cases g with
 | true =>
  simp only [Js] at h
  split at h
  ·rename_i hle
   cases h
   have hll:((cur.drop off).take s).length=s:=by simp;omega
   have hrun:=run_loadCells_list (P:=P) w ⟨b,o+off,none⟩ ((cur.drop off).take s) (fun j u hu=>by
    rw [add_lit,bC hb]
    rw [M9] at hu
    split at hu
    ·rw [Mt] at hu
     rw [T8]
     exact ho _ u hu
    ·cases hu)
   rw [hll] at hrun
   refine ⟨.agg ((cur.drop off).take s).toArray,by simp [loadVar,gy ha,cp hs,hrun],?_⟩
   simp only [VR]
   refine ⟨_,rfl,?_⟩
   have:=(hl.drop off).take s
   simpa [List.drop_take,List.take_take,show min s (cells.length - off)=s by omega] using this
  ·cases h
 | false =>
  simp only [Jl,Ju,Jw] at h
  obtain ⟨x,hx,rfl⟩:=h
  obtain ⟨u,hu,hr⟩:=hl.at_ hx
  have hlt:off < cells.length:=(K5.1 hx).1
  rw [M9,K1 hlt] at hu
  refine ⟨u,by simp [loadVar,gy ha,bC hb,ho off u hu],?_⟩
  simpa only [VR] using hr
theorem jK {r:List D} {vs:List Value} (h:FR w U r vs):LF w U ι ob (r.map .d) vs:=by
 induction r generalizing vs with
 | nil=>simpa [LF,FR] using h
 | cons x r ih=>simp only [FR] at h;obtain ⟨v,vs',rfl,h1,h2⟩:=h;simp only [Jz,LF];exact ⟨v,vs',rfl,by simpa only [LR] using h1,ih h2⟩
theorem pJ {r:List D} {off s:Nat} {g:Bool} {v:V} (h:bx g s off (r.map .d)=some v) {b o:Nat} (hc:CR w U b o r) {t:Nat} (ha:dc P t=some g) (hs:bj P t=some s) :
  ∃ u,(loadVar t ⟨b,o+off,none⟩).run P w=.ok u w∧VR w U ι ob v u:=by
 obtain ⟨vs,h1,h2⟩:=lT.1 hc
 have hl:LF w U ι ob (r.map .d) vs:=jK h1
 unfold bx at h
 cases g with
 | true =>
  simp only [Js,Jp] at h
  split at h
  ·rename_i hle
   cases h
   have hvl:=h1.len
   have hll:((vs.drop off).take s).length=s:=by simp;omega
   have hrun:=run_loadCells_list (P:=P) w ⟨b,o+off,none⟩ ((vs.drop off).take s) (fun j u hu=>by
    rw [add_lit]
    rw [M9] at hu
    split at hu
    ·rw [Mt] at hu
     rw [T8]
     exact h2 _ u hu
    ·cases hu)
   rw [hll] at hrun
   refine ⟨.agg ((vs.drop off).take s).toArray,by simp [loadVar,gy ha,cp hs,hrun],?_⟩
   simp only [VR]
   exact ⟨_,rfl,(hl.drop off).take s⟩
  ·cases h
 | false =>
  simp only [Jl,Ju,Jw] at h
  obtain ⟨x,hx,rfl⟩:=h
  obtain ⟨u,hu,hr⟩:=hl.at_ hx
  refine ⟨u,by simp [loadVar,gy ha,h2 off u hu],?_⟩
  simpa only [VR] using hr
theorem bq {o:Option V} {r:cn} (h:(aP o).run ob=some r):∃ v,o=some v∧r=(v,[]):=by
 cases o with
 | none=>simp [aP,Q.opt,Q.bind,Q.run] at h
 | some v=>simp [aP,Q.opt,Q.bind,Q.run] at h;exact ⟨v,rfl,h.symm⟩
theorem an {α:Type} {b:Bool} {q:Q α} {r:α} (h:(Q.guard b q).run ob=some r):b=true∧q.run ob=some r:=by
 rw [Q.run_guard] at h
 split at h
 ·exact ⟨‹_›,h⟩
 ·cases h
theorem ab {α β:Type} {o:Option α} {f:α→Q β} {r:β} (h:((Q.opt o).bind f).run ob=some r):∃ a,o=some a∧(f a).run ob=some r:=by
 rw [Q.run_bind,Q.run_opt,Km] at h
 exact h
theorem aI {α β:Type} {q:Q α} {f:α→Q β} {r:β} (h:(q.bind f).run ob=some r):∃ a,q.run ob=some a∧(f a).run ob=some r:=by
 rw [Q.run_bind,Km] at h
 exact h
theorem zy (hm:Mem w U ι ob) {x:V} {u:Value} {g:Bool} {s t:Nat} {r:cn} (hx:VR w U ι ob x u) (ha:dc P t=some g) (hs:bj P t=some s)
  (hr:(fm g s x).run ob=some r):∃ (a:Addr) (u':Value),u=.pointer (some a)∧(loadVar t a).run P w=.ok u' w∧VR w U ι ob r.1 u'∧r.2=[]:=by
 unfold fm at hr
 split at hr
 ·rename_i k off
  simp only [Q.run] at hr
  split at hr
  ·rename_i cells e hk
   obtain ⟨v,hv,rfl⟩:=bq hr
   simp only [VR,LR] at hx
   obtain ⟨_,_,_,rfl⟩:=hx
   obtain ⟨cur,h1,h2,h3⟩:=hm.obj k _ hk
   have hcl:=h2.len
   obtain ⟨u,h4,h5⟩:=vw (P:=P) hv (cur:=cur.toList) (by rw [Kd (by omega)];exact h2) (by omega) h1 (o:=0) (fun j u hu=>by simpa using hu) ha hs
   rw [Jv] at h4
   exact ⟨_,u,rfl,h4,h5,rfl⟩
  ·simp [Q.run] at hr
 ·rename_i k i off c
  simp only [Q.run] at hr
  split at hr
  ·rename_i rows sz e own hk
   obtain ⟨hc,hr⟩:=an hr
   obtain ⟨row,hrow,hr⟩:=ab hr
   obtain ⟨v,hv,rfl⟩:=bq hr
   simp only [VR,LR] at hx
   obtain ⟨rows',size',_,_,hk',hcl,h0,_⟩:=hx
   rw [hk] at hk'
   cases hk'
   obtain ⟨h0,rfl⟩:=h0 (by simpa using hc)
   obtain ⟨cur,h1,h2,h3,h4,h5,h6⟩:=hm.obj k _ hk
   have hcr:=(h5.at_ hrow).2
   obtain ⟨u,h7,h8⟩:=pJ (P:=P) hv hcr ha hs
   rw [Jv] at h7
   exact ⟨_,u,rfl,h7,h8,rfl⟩
  ·simp [Q.run] at hr
 ·rename_i row off
  obtain ⟨v,hv,rfl⟩:=bq hr
  simp only [VR,LR,DR] at hx
  obtain ⟨b,o,rfl,hu,hc⟩:=hx
  obtain ⟨u,h7,h8⟩:=pJ (P:=P) hv hc ha hs
  exact ⟨_,u,rfl,h7,h8,rfl⟩
 ·rename_i k j off
  simp only [Q.run] at hr
  split at hr
  ·rename_i keys rows sz e hk
   obtain ⟨row,hrow,hr⟩:=ab hr
   obtain ⟨v,hv,rfl⟩:=bq hr
   simp only [VR,LR] at hx
   obtain ⟨_,b,hb,rfl⟩:=hx
   obtain ⟨es,clock,_,_,h1,_⟩:=hm.obj k _ hk
   obtain ⟨row',cur,h2,h3,h4,_⟩:=h1.at_ hb
   rw [hrow] at h2
   cases h2
   obtain ⟨u,h7,h8⟩:=pJ (P:=P) (b:=b) (o:=0) hv (lT.2 ⟨_,h4,fun j u hu=>by rw [bC h3];simpa using hu⟩) ha hs
   rw [Jv] at h7
   exact ⟨_,u,rfl,h7,h8,rfl⟩
  ·simp [Q.run] at hr
 ·simp [Q.run] at hr
theorem i9 {xs:List L} {ds:List D}:(dJ xs).run ob=some (ds,[])→xs=ds.map .d:=by
 induction xs generalizing ds with
 | nil=>intro h;simp [dJ,Q.run] at h;simp [←h]
 | cons x xs ih =>
  intro h
  simp only [dJ] at h
  obtain ⟨⟨d,u1⟩,h1,h⟩:=aI h
  obtain ⟨⟨ds',u2⟩,h2,h⟩:=aI h
  simp only [Q.run,Jm,Kn,List.append_eq_nil_iff] at h
  obtain ⟨rfl,rfl,rfl⟩:=h
  have:=ih h2
  subst this
  cases x with
  | d x=>simp [jA,Q.run] at h1;subst h1;rfl
  | slk k off n c =>
   simp only [jA,Q.run] at h1
   split at h1
   ·obtain ⟨_,h1⟩:=an h1;simp [Q.run] at h1
   ·simp [Q.run] at h1
  | pa=>simp [jA,Q.run] at h1
  | ptr=>simp [jA,Q.run] at h1
  | fn=>simp [jA,Q.run] at h1
  | mk=>simp only [jA,Q.run] at h1;split at h1<;>simp [Q.run] at h1
  | mq=>simp [jA,Q.run] at h1
  | pb=>simp [jA,Q.run] at h1
  | sln k n =>
   simp only [jA,Q.run] at h1
   split at h1
   ·obtain ⟨_,h1⟩:=an h1;simp [Q.run] at h1
   ·obtain ⟨_,h1⟩:=an h1;simp [Q.run] at h1
   ·simp [Q.run] at h1
  | undef=>simp [jA,Q.run] at h1
theorem lk {ds:List D} {vs:List Value} (h:LF w U ι ob (ds.map .d) vs):FR w U ds vs:=by
 induction ds generalizing vs with
 | nil=>simpa [LF,FR] using h
 | cons d ds ih=>simp only [Jz,LF,LR] at h;obtain ⟨v,vs',rfl,h1,h2⟩:=h;simp only [FR];exact ⟨v,vs',rfl,h1,ih h2⟩
theorem Bs (hm:Mem w U ι ob) {x:V} {u:Value} {g:Bool} {s t:Nat} {r:cn} (hx:VR w U ι ob x u) (ha:dc P t=some g) (hs:bj P t=some s)
  (hr:(fm g s x).run ob=some r):fy P w U ι ob (Instr.loadAt t u) r:=by
 obtain ⟨a,u',rfl,h1,h2,h3⟩:=zy (P:=P) hm hx ha hs hr
 obtain ⟨v,us⟩:=r
 simp only at h3
 subst h3
 exact aE hm (by simpa [Instr.loadAt,Instr.sureAddr] using h1) h2
end
section
open Go.RowKit
variable {P:Program} {w:World} {U:Nat→Prop} {ι:Pl} {ob:Ob}
def wI (P:Program) (w:World) (U:Nat→Prop) (ι:Pl) (ob:Ob) (s:Sem Unit) (r:cn):Prop :=
 ∃ w' U' ι',s.run P w=.ok () w'∧Mem w' U' ι' (b5 ob r.2)∧Evo w U ι ob w' U' ι' (b5 ob r.2)∧r.1=.one .undef
theorem gL {α:Type} (xs ys:List α) (off:Nat) (h:off+ys.length≤xs.length) (j:Nat) :
  (xs.take off++ys++xs.drop (off+ys.length))[j]?=if j < off then xs[j]? else if j < off+ys.length then ys[j - off]? else xs[j]?:=by
 rw [Kb,V7]
 simp only [M3,show min off xs.length=off by omega]
 split
 ·rw [M9,K1 (by omega)]
 ·rw [V7]
  split
  ·rw [K1 (by omega)]
  ·rw [Kc (by omega),Mt]
   congr 1
   omega
theorem LF.splice {xs ys:List L} {vs us:List Value} (h:LF w U ι ob xs vs) (k:LF w U ι ob ys us) (off:Nat) :
  LF w U ι ob (xs.take off++ys++xs.drop (off+ys.length)) (vs.take off++us++vs.drop (off+us.length)):=by
 rw [k.len]
 exact ((h.take off).append k).append (h.drop _)
theorem im (w:World) (g:Nat) (cs:Array Value):(w.setRow g cs).heap.size=w.heap.size:=by simp [World.setRow]
theorem xV (hm:Mem w U ι ob) {x:V} {u y:Value} {v:V} {cs:List L} {t:Nat} {r:cn} (hx:VR w U ι ob x u) (hv:VR w U ι ob v y) (hc:v.cells=some cs) (hs:bj P t=some cs.length)
  (hr:(gh x cs).run ob=some r):wI P w U ι ob (Instr.storeAt t u y) r:=by
 obtain ⟨hl,h1⟩:=VR.cells hv hc
 have hsz:y.cells.size=cs.length:=by have:=hl.len;simpa using this
 have hpre:∀ a,(storeVar t a y).run P w=(storeCells a y.cells.toList).run P w:=fun a=>by
  simp [storeVar,hsz,cp hs]
 unfold gh at hr
 split at hr
 ·rename_i cs0 k off
  simp only [Q.run] at hr
  split at hr
  ·rename_i cells e hk
   obtain ⟨hle,hr⟩:=an hr
   simp only [Q.run,Jm] at hr
   subst hr
   simp only [VR,LR] at hx
   obtain ⟨_,_,_,rfl⟩:=hx
   obtain ⟨cur,h2,h3,h4⟩:=hm.obj k _ hk
   have hle':off+cs.length≤cells.length:=by simpa using hle
   have hcl:=h3.len
   simp only [Mw] at hcl
   have hrun:=run_storeCells_at P (ι k).1 off e y.cells.toList 0 cur w h2 (by simp [hsz];omega) h1
   simp only [Kk] at hrun
   obtain ⟨m1,m2⟩:=eC (w':=w.setRow (ι k).1 (cur.toList.take off++y.cells.toList++cur.toList.drop (off+y.cells.toList.length)).toArray) hm k
    (.box (cells.take off++cs++cells.drop (off+cs.length)) e) ((ι k).1,(ι k).2) rfl rfl rfl (by rw [im];exact Kg _)
    (fun b _ hb=>setRow_other _ _ _ _ (hb.resolve_left (by simp [hk]))) (fun o ho=>by rw [hk] at ho;cases ho;exact ⟨rfl,rfl,rfl⟩) (.inr ⟨by simp [hk],rfl⟩) rfl
    (fun e'=>by
     refine ⟨_,by rw [ai];exact setRow_heap _ _ _ _ _ _ h2,?_,by rw [ai];exact h4⟩
     simp only []
     exact LF.evo e' _ _ (h3.splice hl off))
   refine ⟨_,U,_,by simpa [Instr.storeAt,Instr.sureAddr,hpre] using hrun,m1,m2,rfl⟩
  ·simp [Q.run] at hr
 ·rename_i cs0 k i off c
  simp only [Q.run] at hr
  split at hr
  ·rename_i rows sz e own hk
   obtain ⟨hg,hr⟩:=an hr
   simp only [Jn,Jq] at hg
   obtain ⟨hown,hcc⟩:=hg
   subst hown
   obtain ⟨row,hrow,hr⟩:=ab hr
   obtain ⟨⟨ds,us⟩,hfr,hr⟩:=aI hr
   obtain ⟨hg2,hr⟩:=an hr
   simp only [Jn,Jq,List.isEmpty_iff] at hg2
   obtain ⟨hle,rfl⟩:=hg2
   simp only [Q.run,Jm] at hr
   subst hr
   have hcs:=i9 hfr
   subst hcs
   simp only [VR,LR] at hx
   obtain ⟨rows',size',_,_,hk',_,h0,_⟩:=hx
   rw [hk] at hk'
   cases hk'
   obtain ⟨hic,rfl⟩:=h0 hcc
   obtain ⟨cur,h2,h3,h4,h5,h6,h7⟩:=hm.obj k _ hk
   have hrl:=(h6.at_ hrow).1
   have hi:i < rows.length:=(K5.1 hrow).1
   have hisz:i*sz+sz≤cur.size:=by
    rw [h5]
    calc i*sz+sz=(i+1)*sz:=by rw [T0];omega
     _≤(ι k).2*sz:=M8 _ (by omega)
   have hyl:y.cells.toList.length=ds.length:=by simpa using hsz
   have hrun:=run_storeCells_at P (ι k).1 (i*sz+off) e y.cells.toList 0 cur w h2 (by rw [hyl];omega) h1
   simp only [Kk] at hrun
   have hsz':(cur.toList.take (i*sz+off)++y.cells.toList++cur.toList.drop (i*sz+off+y.cells.toList.length)).length=cur.size:=by
    simp only [K0,M3,Tp,Mw,hyl];omega
   have hFR:FR w U ds y.cells.toList:=by
    exact lk hl
   obtain ⟨m1,m2⟩:=eC (w':=w.setRow (ι k).1 (cur.toList.take (i*sz+off)++y.cells.toList++cur.toList.drop (i*sz+off+y.cells.toList.length)).toArray) hm k
    (.arr (rows.set i (row.take off++ds++row.drop (off+ds.length))) sz e true) ((ι k).1,(ι k).2) rfl rfl rfl (by rw [im];exact Kg _)
    (fun b _ hb=>setRow_other _ _ _ _ (hb.resolve_left (by simp [hk]))) (fun o ho=>by rw [hk] at ho;cases ho;exact ⟨rfl,rfl,rfl,by simp,fun _=>rfl⟩) (.inr ⟨by simp [hk],rfl⟩) rfl
    (fun e'=>by
     refine ⟨_,by rw [ai];exact setRow_heap _ _ _ _ _ _ h2,by rw [ai];simpa using h3,by rw [ai];exact h4,by rw [ai];simpa [h5] using hsz',?_,by rw [ai];exact h7⟩
     rw [ai]
     refine RR.mk fun j r hj=>?_
     have hcell:∀ q,(w.setRow (ι k).1 (cur.toList.take (i*sz+off)++y.cells.toList++cur.toList.drop (i*sz+off+y.cells.toList.length)).toArray).cell? ⟨(ι k).1,q,none⟩ =
       if q < i*sz+off then cur[q]? else if q < i*sz+off+ds.length then y.cells.toList[q - (i*sz+off)]? else cur[q]?:=fun q=>by
      rw [bC (setRow_heap _ _ _ _ _ _ h2)]
      have:=gL cur.toList y.cells.toList (i*sz+off) (by rw [hyl];simp;omega) q
      simp only [List.getElem?_toArray]
      rw [this,hyl]
      simp
     rw [List.getElem?_set] at hj
     have old:∀ {j:Nat} {r:List D},rows[j]?=some r→j≠i→r.length=sz∧CR (w.setRow (ι k).1 (cur.toList.take (i*sz+off)++y.cells.toList++cur.toList.drop (i*sz+off+y.cells.toList.length)).toArray) U (ι k).1 (0+j*sz) r:=by
      intro j r hj hne
      obtain ⟨hl2,hc2⟩:=h6.at_ hj
      refine ⟨hl2,CR.mk fun q x hq=>?_⟩
      obtain ⟨u,hu,hd⟩:=hc2.at_ hq
      have hql:q < sz:=by rw [←hl2];exact (K5.1 hq).1
      refine ⟨u,?_,DR.mono e'.kept e'.sub x u hd⟩
      rw [bC h2] at hu
      rw [hcell]
      have:0+j*sz+q < i*sz∨i*sz+sz≤0+j*sz+q:=by
       rcases Nat.lt_or_gt_of_ne hne with h | h
       ·left
        have:(j+1)*sz≤i*sz:=M8 _ h
        rw [T0] at this;omega
       ·right
        have:(i+1)*sz≤j*sz:=M8 _ h
        rw [T0] at this;omega
      split
      ·exact hu
      ·rw [Kc (by omega)];exact hu
     split at hj
     ·rename_i hij
      subst hij
      try rw [K1 hi] at hj
      cases hj
      obtain ⟨hl2,hc2⟩:=h6.at_ hrow
      refine ⟨by simp only [K0,M3,Tp];omega,CR.mk fun q x hq=>?_⟩
      rw [gL _ _ _ hle] at hq
      rw [hcell]
      split at hq
      ·rename_i hlt
       obtain ⟨u,hu,hd⟩:=hc2.at_ hq
       rw [bC h2] at hu
       exact ⟨u,by rw [K1 (by omega)];exact hu,DR.mono e'.kept e'.sub x u hd⟩
      ·split at hq
       ·obtain ⟨u,hu,hd⟩:=hFR.at_ hq
        refine ⟨u,?_,DR.mono e'.kept e'.sub x u hd⟩
        rw [Kc (by omega),K1 (by omega)]
        rw [←hu];congr 1;omega
       ·obtain ⟨u,hu,hd⟩:=hc2.at_ hq
        rw [bC h2] at hu
        exact ⟨u,by rw [Kc (by omega),Kc (by omega)];exact hu,DR.mono e'.kept e'.sub x u hd⟩
     ·rename_i hij
      exact old hj (fun e=>hij e.symm))
   refine ⟨_,U,_,by simpa [Instr.storeAt,Instr.sureAddr,hpre] using hrun,m1,m2,rfl⟩
  ·simp [Q.run] at hr
 ·rename_i cs0 k j off
  simp only [Q.run] at hr
  split at hr
  ·rename_i keys rows sz e hk
   obtain ⟨row,hrow,hr⟩:=ab hr
   obtain ⟨⟨ds,us⟩,hfr,hr⟩:=aI hr
   obtain ⟨hg2,hr⟩:=an hr
   simp only [Jn,Jq,List.isEmpty_iff] at hg2
   obtain ⟨hle,rfl⟩:=hg2
   simp only [Q.run,Jm] at hr
   subst hr
   have hcs:=i9 hfr
   subst hcs
   have hFR:FR w U ds y.cells.toList:=lk hl
   simp only [VR,LR] at hx
   obtain ⟨_,b,hb,rfl⟩:=hx
   obtain ⟨es,clock,g1,g2,g3,g4,g5⟩:=hm.obj k _ hk
   obtain ⟨row',cur,g6,g7,g8,g9,_⟩:=g3.at_ hb
   rw [hrow] at g6
   cases g6
   have hcl:=g8.len
   simp only [Mw] at hcl
   have hyl:y.cells.toList.length=ds.length:=by simpa using hsz
   have hrun:=run_storeCells_at P b off e y.cells.toList 0 cur w g7 (by rw [hyl];omega) h1
   simp only [Kk] at hrun
   have hbf:b∈(ι k).foot:=by simp [Pt.foot,K2 hb]
   have hb1:(ι k).1≠b:=by
    simp only [Pt.foot,Mc] at g5
    exact fun e=>g5.1 (e ▸ K2 hb)
   obtain ⟨m1,m2⟩:=kL (w':=w.setRow b (cur.toList.take off++y.cells.toList++cur.toList.drop (off+y.cells.toList.length)).toArray) hm k
    (.am keys (rows.set j (row.take off++ds++row.drop (off+ds.length))) sz e) (ι k) rfl rfl rfl (by rw [im];exact Kg _)
    (fun c _ hc=>setRow_other _ _ _ _ (fun e=>(hc.resolve_left (by simp [hk])) (e ▸ hbf))) (fun o ho=>by rw [hk] at ho;cases ho;exact ⟨rfl,rfl,rfl,rfl,List.prefix_refl _⟩) (fun c hc=>.inr ⟨by simp [hk],hc⟩) (by simp [O.isAm]) rfl
    (fun e'=>by
     refine ⟨es,clock,by rw [ai,setRow_other _ _ _ _ hb1];exact g1,by rw [ai];exact g2,?_,by rw [ai];exact g4,by rw [ai];exact g5⟩
     rw [ai]
     refine BR.set_ e'.kept (setRow_heap _ _ _ _ _ _ g7) ?_ (by simp only [K0,M3,Tp];omega) g3 hb (by simp only [Pt.foot,Mc] at g5;exact g5.2) (fun c _ hc=>setRow_other _ _ _ _ hc)
     simp only []
     rw [show off+ds.length=off+y.cells.toList.length by rw [hyl]]
     exact ((FR.mono e'.kept e'.sub _ _ (g8.take off)).append (FR.mono e'.kept e'.sub _ _ hFR)).append (FR.mono e'.kept e'.sub _ _ (g8.drop _)))
   refine ⟨_,U,_,by simpa [Instr.storeAt,Instr.sureAddr,hpre] using hrun,m1,m2,rfl⟩
  ·simp [Q.run] at hr
 ·simp [Q.run] at hr
theorem vx (cs:List Value):∀ (vs:List Value) (off i:Nat) (arr:Array Value),arr.toList=cs→off+i+vs.length≤cs.length →
  ((vs.zipIdx i).foldl (fun a (p:Value×Nat)=>a.setIfInBounds (off+p.2) p.1) arr).toList=cs.take (off+i)++vs++cs.drop (off+i+vs.length):=by
 intro vs
 induction vs generalizing cs with
 | nil=>intro off i arr h _;simp [h]
 | cons v vs ih =>
  intro off i arr h hl
  simp only [Jx] at hl
  simp only [List.zipIdx_cons,List.foldl_cons]
  rw [ih (cs.set (off+i) v) off (i+1) (arr.setIfInBounds (off+i) v) (by simp [h]) (by simp;omega)]
  apply Mf
  intro j
  have e1:=gL (cs.set (off+i) v) vs (off+(i+1)) (by simp;omega) j
  have e2:=gL cs (v::vs) (off+i) (by simp;omega) j
  rw [e1,e2]
  simp only [Jx]
  by_cases h1:j < off+i
  ·rw [K1 (by omega),K1 h1,Tk (by omega)]
  ·by_cases h2:j=off+i
   ·subst h2
    rw [K1 (by omega),Kc (by omega),K1 (by omega),List.getElem?_set_self (by omega)]
    simp
   ·rw [Kc (by omega),Kc h1]
    by_cases h3:j < off+(i+1)+vs.length
    ·rw [K1 h3,K1 (by omega)]
     rw [show j - (off+i)=(j - (off+(i+1)))+1 by omega]
     simp
    ·rw [Kc h3,Kc (by omega),Tk (by omega)]
theorem A0 {place:Nat→Option (Nat×Nat)}:∀ {parts:List (Nat×V)} {parts':List (Nat×Value)} {cells cs':List L} {arr:Array Value},
  j5 place cells parts=some cs'→LF w U ι ob cells arr.toList→parts.length=parts'.length →
  (∀ (j:Nat) (p:Nat×V) (p':Nat×Value),parts[j]?=some p→parts'[j]?=some p'→p.1=p'.1∧VR w U ι ob p.2 p'.2) →
  ∃ arr',Instr.fill place arr parts'=some arr'∧LF w U ι ob cs' arr'.toList
 | [],[],cells,cs',arr,h,hl,_,_=>by simp [j5] at h;subst h;exact ⟨arr,rfl,hl⟩
 | [],_::_,_,_,_,_,_,hn,_=>by simp at hn
 | _::_,[],_,_,_,_,_,hn,_=>by simp at hn
 | (i,v)::rest,(i',v')::rest',cells,cs',arr,h,hl,hn,hp=>by
  obtain ⟨hi,hv⟩:=hp 0 _ _ rfl rfl
  simp only at hi hv
  subst hi
  simp only [j5] at h
  split at h
  ·rename_i off size cs hpl hcs
   split at h
   ·rename_i hsz
    obtain ⟨rfl,hsz⟩:=hsz
    obtain ⟨hvl,_⟩:=VR.cells hv hcs
    have hvs:v'.cells.size=cs.length:=by have:=hvl.len;simpa using this
    have hal:arr.size=cells.length:=by have:=hl.len;simpa using this
    have hfold:=vx arr.toList v'.cells.toList off 0 arr rfl (by simp [hvs,hal];omega)
    simp only [Kk] at hfold
    have hzip:v'.cells.zipIdx.foldl (fun cs (x:Value×Nat)=>cs.setIfInBounds (off+x.2) x.1) arr=(v'.cells.toList.zipIdx 0).foldl (fun a (p:Value×Nat)=>a.setIfInBounds (off+p.2) p.1) arr:=by
     rw [←Array.foldl_toList,Array.toList_zipIdx]
    obtain ⟨arr',h1,h2⟩:=A0 (arr:=v'.cells.zipIdx.foldl (fun cs (x:Value×Nat)=>cs.setIfInBounds (off+x.2) x.1) arr) h (by
      rw [hzip,hfold]
      exact hl.splice hvl off) (by simpa using hn) (fun j p p' h1 h2=>hp (j+1) p p' (by simpa using h1) (by simpa using h2))
    refine ⟨arr',?_,h2⟩
    simp only [Instr.fill,hpl]
    rw [Kc (by simp [hvs,hal];omega)]
    exact h1
   ·cases h
  ·cases h
theorem lf {α β:Type} {f:α→Sem β} {g:α→β}:∀ {l:List α},(∀ a∈l,(f a).run P w=.ok (g a) w)→(l.mapM f).run P w=.ok (l.map g) w
 | [],_=>by simp
 | a::l,h=>by
  have ih:=lf (l:=l) (fun x hx=>h x (by simp [hx]))
  simp [V8,h a (by simp),ih]
theorem xY (hm:Mem w U ι ob) {t:Nat} {zs:List Value} {parts:List (Nat×V)} {parts':Array (Nat×Value)} {r:cn} (hz:co P t=some zs) (ha:dc P t=some true) (hlay:Dc P t=true)
  (hn:parts.length=parts'.size) (hp:∀ (j:Nat) (p:Nat×V) (p':Nat×Value),parts[j]?=some p→parts'[j]?=some p'→p.1=p'.1∧VR w U ι ob p.2 p'.2)
  (hr:(aP ((j5 (jT P t) (gu zs) parts).map .agg)).run ob=some r):fy P w U ι ob (Instr.build t parts') r:=by
 obtain ⟨v,hv,rfl⟩:=bq hr
 simp only [Jw] at hv
 obtain ⟨cs',hf,rfl⟩:=hv
 obtain ⟨z,h1,h2,h3⟩:=tr (w:=w) hz
 have hl:LF w U ι ob (gu zs) z.cells.toList:=by rw [h2];exact jZ h3
 simp only [dc,Jw] at ha
 obtain ⟨d,hd,hda⟩:=ha
 have l9:∀ (place:Nat→Option (Nat×Nat)),(∀ i x,jT P t i=some x→place i=some x)→∃ arr,Instr.fill place z.cells parts'.toList=some arr∧LF w U ι ob cs' arr.toList:=by
  intro place hpl
  have hf':j5 place (gu zs) parts=some cs':=by
   have mono:∀ {ps:List (Nat×V)} {c c':List L},j5 (jT P t) c ps=some c'→j5 place c ps=some c':=by
    intro ps
    induction ps with
    | nil=>intro c c' h;simpa [j5] using h
    | cons q ps ih =>
     obtain ⟨i,v⟩:=q
     intro c c' h
     simp only [j5] at h ⊢
     split at h
     ·rename_i off size cs h1 h2
      rw [hpl _ _ h1,h2]
      split at h
      ·rename_i hh;simp only [];rw [K1 hh];exact ih h
      ·cases h
     ·cases h
   exact mono hf
  exact A0 hf' hl (by simpa using hn) (fun j p p' a b=>hp j p p' a (by simpa using b))
 cases d with
 | struct fs =>
  have hlay':∀ f∈fs.toList,(bj P f.type).isSome=true:=by
   unfold Dc at hlay
   rw [hd] at hlay
   exact Kq.1 hlay
  have hmap:((fs.mapM fun f=>do pure (f.offset,← sizeOf f.type):Sem (Array (Nat×Nat)))).run P w=.ok (fs.toList.map fun f=>(f.offset,(bj P f.type).getD 0)).toArray w:=by
   rw [Array.mapM_eq_mapM_toList,Sem.run_map,lf (g:=fun f=>(f.offset,(bj P f.type).getD 0))]
   ·rfl
   ·intro f hf
    obtain ⟨s,hs⟩:=Mu.1 (hlay' f hf)
    simp [cp hs,hs]
  obtain ⟨arr,hfa,hla⟩:=l9 ((fs.toList.map fun f=>(f.offset,(bj P f.type).getD 0)).toArray[·]?) (fun i x hx=>by
   simp only [jT,ug,hd,jo] at hx
   cases hfi:fs[i]? with
   | none=>simp [hfi] at hx
   | some f =>
    have hmem:f∈fs.toList:=by
     have:=Array.mem_of_getElem? hfi
     simpa using this
    obtain ⟨s,hs⟩:=Mu.1 (hlay' f hmem)
    simp only [hfi,hs] at hx
    split at hx
    ·rename_i s' g he hg
     cases he
     split at hx
     ·simp at hx
     ·simp at hx
      subst hx
      simp [hfi,hs]
    ·simp at hx)
  refine aE hm (u:=.agg arr) ?_ (by simp only [VR];exact ⟨arr,rfl,hla⟩)
  simp only [Instr.build]
  rw [Sem.run_bind,h1,Result.andThen_ok,Sem.run_bind,run_underlying hd,Result.andThen_ok]
  simp only []
  rw [Sem.run_bind,hmap,Result.andThen_ok]
  simp only [hfa]
  rfl
 | array n e =>
  have hlay':(bj P e).isSome=true:=by simpa [Dc,hd] using hlay
  ·obtain ⟨s,hs⟩:=Mu.1 hlay'
   obtain ⟨arr,hfa,hla⟩:=l9 (fun i=>some (i*s,s)) (fun i x hx=>by
    simp only [jT,ug,hd,hs,Kv] at hx
    exact hx)
   refine aE hm (u:=.agg arr) ?_ (by simp only [VR];exact ⟨arr,rfl,hla⟩)
   simp [Instr.build,h1,run_underlying hd,cp hs,hfa]
 | _=>simp [iF] at hda
end
section
open Go.RowKit
variable {P:Program} {w:World} {U:Nat→Prop} {ι:Pl} {ob:Ob}
def SameBut (ob ob1:Ob):Prop:=(∀ k rows size elem own,ob k=some (.arr rows size elem own)→∃ own',ob1 k=some (.arr rows size elem own'))∧(∀ k agg keys vals own,ob k=some (.mp agg keys vals own)→∃ own',ob1 k=some (.mp agg keys vals own'))∧(∀ k,ob k=none→ob1 k=none)
theorem SameBut.refl (ob:Ob):SameBut ob ob:=⟨fun _ _ _ _ own h=>⟨own,h⟩,fun _ _ _ _ own h=>⟨own,h⟩,fun _ h=>h⟩
theorem SameBut.freeze {ob1:Ob} (h:SameBut ob ob1) {k:Nat} {ok:O} (hk:ob k=some ok) (hnb:ok.isBox=false):SameBut ob (bN ob1 k ok.shut):=by
 refine ⟨?_,?_,?_⟩
 ·intro j r s e o hj
  by_cases hjk:j=k
  ·subst hjk;rw [hk] at hj;cases hj;exact ⟨false,b8 _ _ _⟩
  ·obtain ⟨o',h'⟩:=h.1 j r s e o hj
   exact ⟨o',by rw [ap _ _ hjk];exact h'⟩
 ·intro j agg keys vals o hj
  by_cases hjk:j=k
  ·subst hjk;rw [hk] at hj;cases hj;exact ⟨false,b8 _ _ _⟩
  ·obtain ⟨o',h'⟩:=h.2.1 j agg keys vals o hj
   exact ⟨o',by rw [ap _ _ hjk];exact h'⟩
 ·intro j hj
  have hjk:j≠k:=by rintro rfl;rw [hk] at hj;cases hj
  rw [ap _ _ hjk];exact h.2.2 j hj
theorem bz (ob:Ob) (u u':List (Nat×O)):b5 ob (u++u')=b5 (b5 ob u) u':=by
 induction u generalizing ob with
 | nil=>rfl
 | cons x u ih=>obtain ⟨k,o⟩:=x;cases o<;>(simp only [Kp,b5];exact ih _)
theorem o6 (hm:Mem w U ι ob) {k off n c:Nat} {v:Value} (h:LR w U ι ob (.slk k off n c) v) {rows:List (List D)} {size elem:Nat} {own:Bool} (hk:ob k=some (.arr rows size elem own)) (hc:c=rows.length)
  {U':Nat→Prop} (hU:∀ b,U b→U' b) (hb:U' (ι k).1):DR w U' (.sl size ((rows.drop off).take n)) v:=by
 simp only [LR] at h
 obtain ⟨rows',size',elem',own',hk',_,h1,_⟩:=h
 rw [hk] at hk'
 cases hk'
 obtain ⟨h1,rfl⟩:=h1 hc
 obtain ⟨cur,h2,h3,h4,h5,h6,h7⟩:=hm.obj k _ hk
 have hlen:((rows.drop off).take n).length=n:=by simp;omega
 simp only [DR]
 refine ⟨⟨(ι k).1,off*size,none⟩,(ι k).2 - off,by rw [hlen],by rw [hlen];omega,by omega,fun _=>⟨(ι k).1,off*size,rfl,hb,?_⟩⟩
 have:=((h6.drop off).take n)
 rw [Jv] at this
 exact RR.mono (fun _ _=>rfl) hU _ rfl _ _ _ this
theorem iw:∀ {cs:List L} {vs:List Value} {ds:List D} {us:List (Nat×O)} {ob1:Ob} {U1:Nat→Prop},(dJ cs).run ob=some (ds,us)→SameBut ob ob1→Mem w U1 ι ob1→LF w U1 ι ob1 cs vs →
  ∃ U',Mem w U' ι (b5 ob1 us)∧Evo w U1 ι ob1 w U' ι (b5 ob1 us)∧FR w U' ds vs∧SameBut ob (b5 ob1 us)
 | [],vs,ds,us,ob1,U1,h,hs,hm,hl=>by
  simp only [dJ,Q.run,Jm,Kn] at h
  obtain ⟨rfl,rfl⟩:=h
  simp only [LF] at hl
  subst hl
  exact ⟨U1,hm,Evo.refl _ _ _ _,by simp [FR],hs⟩
 | x::xs,vs,ds,us,ob1,U1,h,hs,hm,hl=>by
  simp only [dJ] at h
  obtain ⟨⟨d,u1⟩,h1,h⟩:=aI h
  obtain ⟨⟨ds',u2⟩,h2,h⟩:=aI h
  simp only [Q.run,Jm,Kn] at h
  obtain ⟨rfl,rfl⟩:=h
  simp only [LF] at hl
  obtain ⟨v,vs',rfl,hv,hl⟩:=hl
  have step:∃ U2,Mem w U2 ι (b5 ob1 u1)∧Evo w U1 ι ob1 w U2 ι (b5 ob1 u1)∧DR w U2 d v∧SameBut ob (b5 ob1 u1):=by
   cases x with
   | d x =>
    simp only [jA,Q.run,Jm,Kn] at h1
    obtain ⟨rfl,rfl⟩:=h1
    exact ⟨U1,hm,Evo.refl _ _ _ _,by simpa only [LR] using hv,hs⟩
   | slk k off n c =>
    simp only [jA,Q.run] at h1
    split at h1
    ·rename_i rows size elem own hk
     obtain ⟨hc,h1⟩:=an h1
     simp only [Q.run,Jm,Kn] at h1
     obtain ⟨rfl,rfl⟩:=h1
     obtain ⟨own',hk1⟩:=hs.1 _ _ _ _ _ hk
     obtain ⟨m1,m2⟩:=lE hm hk1 rfl
     exact ⟨_,m1,m2,o6 hm hv hk1 (by simpa using hc) (fun b hb=>.inl hb) (.inr rfl),hs.freeze hk rfl⟩
    ·simp [Q.run] at h1
   | pa=>simp [jA,Q.run] at h1
   | ptr=>simp [jA,Q.run] at h1
   | fn=>simp [jA,Q.run] at h1
   | mk k =>
    simp only [jA,Q.run] at h1
    split at h1
    ·rename_i agg keys vals own hk
     simp only [Q.run,Jm,Kn] at h1
     obtain ⟨rfl,rfl⟩:=h1
     obtain ⟨own',hk1⟩:=hs.2.1 _ _ _ _ _ hk
     obtain ⟨m1,m2⟩:=lE hm hk1 rfl
     simp only [LR] at hv
     obtain ⟨_,_,_,_,h2,rfl⟩:=hv
     rw [hk1] at h2
     cases h2
     obtain ⟨es,clock,h3,h4,h5⟩:=hm.obj _ _ hk1
     refine ⟨_,m1,m2,?_,hs.freeze hk rfl⟩
     simp only [DR]
     exact ⟨_,es,clock,rfl,.inr rfl,h3,KR.mono m2.kept m2.sub _ _ _ _ h4⟩
    ·simp [Q.run] at h1
   | mq=>simp [jA,Q.run] at h1
   | pb=>simp [jA,Q.run] at h1
   | sln k n =>
    simp only [jA,Q.run] at h1
    split at h1
    ·rename_i hk
     obtain ⟨hc,h1⟩:=an h1
     simp only [Q.run,Jm,Kn] at h1
     obtain ⟨rfl,rfl⟩:=h1
     have h0:n=0:=by simpa using hc
     subst h0
     rw [show b5 ob1 [(k,O.nul)]=ob1 from sC (hs.2.2 k hk)]
     rw [LR.sln_nil] at hv
     subst hv
     exact ⟨U1,hm,Evo.refl _ _ _ _,by simp [DR,plain],hs⟩
    ·rename_i rows size elem own hk
     obtain ⟨hc,h1⟩:=an h1
     simp only [Q.run,Jm,Kn] at h1
     obtain ⟨rfl,rfl⟩:=h1
     obtain ⟨hc1,hc2⟩:n=rows.length∧0 < n:=by simpa using hc
     obtain ⟨own',hk1⟩:=hs.1 _ _ _ _ _ hk
     obtain ⟨m1,m2⟩:=lE hm hk1 rfl
     have hD:=o6 hm ((LR.sln_slk hc2).1 hv) hk1 hc1 (U':=fun b=>U1 b∨b=(ι k).1) (fun b hb=>.inl hb) (.inr rfl)
     rw [Ts,Kd (by omega)] at hD
     exact ⟨_,m1,m2,hD,hs.freeze hk rfl⟩
    ·simp [Q.run] at h1
   | undef=>simp [jA,Q.run] at h1
  obtain ⟨U2,m1,m2,m3,m4⟩:=step
  obtain ⟨U3,m5,m6,m7,m8⟩:=iw h2 m4 m1 (LF.evo m2 _ _ hl)
  refine ⟨U3,by rw [bz];exact m5,by rw [bz];exact m2.trans m6,?_,by rw [bz];exact m8⟩
  simp only [FR]
  exact ⟨v,vs',rfl,DR.mono m6.kept m6.sub _ _ m3,m7⟩
theorem FR.mono' {w':World} {U':Nat→Prop} {ob':Ob} {ι':Pl} (e:Evo w U ι ob w' U' ι' ob') {xs:List D} {vs:List Value} (h:FR w U xs vs):FR w' U' xs vs:=FR.mono e.kept e.sub _ _ h
theorem vA {rows:List (List D)} {size i:Nat} {r:List D} (h:∀ r∈rows,r.length=size) (hi:i < rows.length) (hr:r.length=size) :
  (rows.set i r).flatten=rows.flatten.take (i*size)++r++rows.flatten.drop (i*size+size):=by
 induction rows generalizing i with
 | nil=>simp at hi
 | cons x rows ih =>
  have hx:x.length=size:=h x (by simp)
  cases i with
  | zero=>simp [←hx]
  | succ i =>
   have:=ih (fun y hy=>h y (by simp [hy])) (i:=i) (by simpa using hi)
   simp only [List.set_cons_succ,Tv,this]
   have e1:(i+1)*size=size+i*size:=by rw [T0];omega
   rw [e1,List.take_append,List.drop_append]
   simp only [hx,Kd (show x.length≤size+i*size by omega),show size+i*size - size=i*size by omega,show size+i*size+size - size=i*size+size by omega,List.drop_of_length_le (show x.length≤size+i*size+size by omega)]
   simp [Kb]
theorem rD {ρ:Operand→V} {ρ':Operand→Value} {size:Nat}:∀ {parts:List (Nat×Operand)} {rows rows':List (List D)} {us:List (Nat×O)} {ob1:Ob} {U1:Nat→Prop} {arr:Array Value},
  (dx ρ size rows parts).run ob=some (rows',us)→SameBut ob ob1→Mem w U1 ι ob1→(∀ x,VR w U1 ι ob1 (ρ x) (ρ' x))→(∀ r∈rows,r.length=size)→FR w U1 rows.flatten arr.toList →
  ∃ U' arr',Mem w U' ι (b5 ob1 us)∧Evo w U1 ι ob1 w U' ι (b5 ob1 us)∧Instr.fill (fun i=>some (i*size,size)) arr (parts.map fun p=>(p.1,ρ' p.2))=some arr'∧FR w U' rows'.flatten arr'.toList∧(∀ r∈rows',r.length=size)∧rows'.length=rows.length∧SameBut ob (b5 ob1 us)
 | [],rows,rows',us,ob1,U1,arr,h,hs,hm,hρ,hr,hf=>by
  simp only [dx,Q.run,Jm,Kn] at h
  obtain ⟨rfl,rfl⟩:=h
  exact ⟨U1,arr,hm,Evo.refl _ _ _ _,rfl,hf,hr,rfl,hs⟩
 | (i,x)::rest,rows,rows',us,ob1,U1,arr,h,hs,hm,hρ,hr,hf=>by
  simp only [dx] at h
  obtain ⟨cs,hcs,h⟩:=ab h
  obtain ⟨hg,h⟩:=an h
  obtain ⟨⟨ds,u1⟩,h1,h⟩:=aI h
  obtain ⟨⟨rows2,u2⟩,h2,h⟩:=aI h
  simp only [Q.run,Jm,Kn] at h
  obtain ⟨rfl,rfl⟩:=h
  simp only [Jq] at hg
  obtain ⟨hlen,hi⟩:=hg
  obtain ⟨hl,_⟩:=VR.cells (hρ x) hcs
  obtain ⟨U2,m1,m2,m3,m4⟩:=iw h1 hs hm hl
  have hds:ds.length=size:=by rw [←m3.len,hl.len,hlen]
  have hvs:(ρ' x).cells.size=size:=by have:=hl.len;simp at this;omega
  have hflen:=bX hr
  have hal:arr.size=rows.length*size:=by have:=hf.len;rw [hflen] at this;simpa using this
  have hisz:i*size+size≤rows.length*size:=by
   calc i*size+size=(i+1)*size:=by rw [T0];omega
    _≤rows.length*size:=M8 _ hi
  have hfold:=vx arr.toList (ρ' x).cells.toList (i*size) 0 arr rfl (by simp [hvs,hal];omega)
  simp only [Kk] at hfold
  have hzip:(ρ' x).cells.zipIdx.foldl (fun cs (y:Value×Nat)=>cs.setIfInBounds (i*size+y.2) y.1) arr=((ρ' x).cells.toList.zipIdx 0).foldl (fun a (p:Value×Nat)=>a.setIfInBounds (i*size+p.2) p.1) arr:=by
   rw [←Array.foldl_toList,Array.toList_zipIdx]
  have hf2:FR w U2 (rows.set i ds).flatten ((ρ' x).cells.zipIdx.foldl (fun cs (y:Value×Nat)=>cs.setIfInBounds (i*size+y.2) y.1) arr).toList:=by
   rw [hzip,hfold,vA hr hi hds]
   have:=FR.mono' m2 hf
   have hcl:(ρ' x).cells.toList.length=size:=by simpa using hvs
   rw [hcl]
   exact ((this.take _).append m3).append (this.drop _)
  obtain ⟨U3,arr',m5,m6,m7,m8,m9,m10,m11⟩:=rD (arr:=(ρ' x).cells.zipIdx.foldl (fun cs (y:Value×Nat)=>cs.setIfInBounds (i*size+y.2) y.1) arr) h2 m4 m1 (fun y=>VR.evo m2 _ _ (hρ y)) (fun r hr'=>by
   rcases List.mem_or_eq_of_mem_set hr' with h | h
   ·exact hr r h
   ·rw [h];exact hds) hf2
  refine ⟨U3,arr',by rw [bz];exact m5,by rw [bz];exact m2.trans m6,?_,m8,m9,by rw [m10,Vc],by rw [bz];exact m11⟩
  simp only [Jz,Instr.fill]
  rw [Kc (by simp [hvs,hal];omega)]
  exact m7
theorem gx {zs:List Value} (h:zs.all plain=true):∀ n,FR w U (List.replicate n (zs.map D.lit)).flatten (List.replicate n zs).flatten:=by
 have one:∀ {zs:List Value},zs.all plain=true→FR w U (zs.map D.lit) zs:=by
  intro zs
  induction zs with
  | nil=>intro _;simp [FR]
  | cons z zs ih=>intro h;simp at h;simp only [Jz,FR];exact ⟨z,zs,rfl,Jj h.1,ih (by simpa using h.2)⟩
 intro n
 induction n with
 | zero=>simp [FR]
 | succ n ih=>simp only [List.replicate_succ,Tv];exact (one h).append ih
theorem gC {z:Array Value} {size n:Nat} (hz:z.size=size) (_:0 < size):((Array.range (n*size)).map (fun i=>z[i % z.size]!)).toList=(List.replicate n z.toList).flatten:=by
 induction n with
 | zero=>simp
 | succ n ih =>
  rw [List.replicate_succ',Ta,← ih]
  simp only [Tq,Array.toList_range,Tv,List.flatten_nil,Kh]
  rw [show (n+1)*size=n*size+size by rw [T0];omega,List.range_add,M6]
  congr 1
  apply Mf
  intro j
  simp only [Ml,K9]
  by_cases hj:j < size
  ·rw [Mx hj]
   simp only [Kv,Function.comp,hz]
   rw [Nat.add_comm,Nat.add_mul_mod_self_right,Nat.mod_eq_of_lt hj]
   simp [hz,hj,getElem!_pos]
  ·rw [Kr (by simpa using hj),Kr (by simp [hz];omega)]
   rfl
theorem uf (hm:Mem w U ι ob) {dst:Option Nat} {rows:List (List D)} {size e n cap:Nat} {r:cn} {arr:Array Value} {s:Sem Value} (w':World) (hw:w'=w∨w'=w.drew)
  (hr:(fresh dst (.arr rows size e true) fun k=>.one (.slk k 0 n n)).run ob=some r) (hn:n=rows.length) (hcap:n≤cap) (hmax:cap≤maxLen) (hsz:arr.size=cap*size)
  (hrows:∀ r∈rows,r.length=size) (hf:∃ vs:List Value,FR w U rows.flatten vs∧∀ (j:Nat) (u:Value),vs[j]?=some u→arr[j]?=some u)
  (hrun:s.run P w=.ok (.slice (some ⟨w.heap.size,0,none⟩) n cap) (w'.alloc (.cells arr e))):fy P w U ι ob s r:=by
 unfold fresh at hr
 cases dst with
 | none=>simp [Q.run] at hr
 | some k =>
  simp only [Q.run] at hr
  cases hk:ob k with
  | some o=>simp [hk,Q.run] at hr
  | none =>
   simp only [hk,Q.run,Jm] at hr
   subst hr
   have hh:w'.heap=w.heap:=by rcases hw with rfl | rfl<;>rfl
   have hos:w'.os=w.os∧w'.tape=w.tape∧w'.output=w.output:=by rcases hw with rfl | rfl<;>exact ⟨rfl,rfl,rfl⟩
   have hnew:(w'.alloc (.cells arr e)).heap[w.heap.size]?=some (.cells arr e (0,0)):=by
    have:=heap_alloc_new w' (.cells arr e)
    rwa [hh] at this
   obtain ⟨h1,h2⟩:=eC (w':=w'.alloc (.cells arr e)) hm k (.arr rows size e true) (w.heap.size,cap) hos.1 hos.2.1 hos.2.2 (by simp [hh]) (fun b hb _=>by
    show (w'.heap.push _)[b]?=_
    rw [hh,Vb,Kc (by omega)]) (fun o' h=>by rw [hk] at h;cases h) (.inl (Kg _)) rfl (fun e'=>by
     refine ⟨arr,by rw [ai];exact hnew,by rw [ai];simpa [←hn] using hcap,by rw [ai];exact hmax,by rw [ai];exact hsz,?_,by rw [ai];simp;intro hU;exact absurd (hm.lt _ hU) (by simp)⟩
     rw [ai]
     obtain ⟨vs,hv1,hv2⟩:=hf
     exact ec.2 ⟨hrows,vs,FR.mono' e' hv1,fun j u hu=>by rw [bC hnew,Jv];exact hv2 j u hu⟩)
   refine ⟨_,_,U,_,hrun,h1,h2,?_⟩
   simp only [VR,LR]
   refine ⟨rows,size,e,true,b8 _ _ _,by omega,fun _=>⟨by omega,by rw [ai];simp⟩,_,_,rfl,hcap,hmax⟩
end
section
open Go.RowKit
variable {P:Program} {w:World} {U:Nat→Prop} {ι:Pl} {ob:Ob}
theorem lu {t s:Nat} (h:bj P t=some s):∃ i,P.info? t=some i∧i.size=s:=by
 simpa [bj,Jw] using h
theorem ki {t s:Nat} (h:gq P t=some s):∃ i,P.info? t=some i∧i.bytes=s:=by
 simpa [gq,Jw] using h
theorem gv {x:V} {u:Value} {p:IntKind×Int} (hx:VR w U ι ob x u) (h:vInt? x=some p):u=.int p.1 p.2:=by
 unfold vInt? at h
 split at h
 ·simp only [Jm] at h;subst h;simp only [VR,LR,DR] at hx;exact hx.1
 ·cases h
theorem C9 {x:V} {u:Value} {b:Bool} (hx:VR w U ι ob x u) (h:vBool? x=some b):u=.bool b:=by
 unfold vBool? at h
 split at h
 ·simp only [Jm] at h;subst h;simp only [VR,LR,DR] at hx;exact hx.1
 ·cases h
theorem qh {x:V} {u v:Value} (hx:VR w U ι ob x u) (h:x.lit?=some v):u=v∧plain v=true:=by
 unfold V.lit? at h
 split at h
 ·simp only [Jm] at h;subst h;simpa only [VR,LR,DR] using hx
 ·cases h
theorem bB {v:Value} (h:plain v=true):VR w U ι ob (bR v) v:=by simp [bR,VR,LR,DR,h]
theorem qs (hm:Mem w U ι ob) {dst:Option Nat} {t e s bs:Nat} {zs:List Value} {k:IntKind} {n:Int} {r:cn} (he:bY P t=some e) (hs:bj P e=some s) (hz:co P e=some zs) (hb:gq P e=some bs)
  (hs0:0 < s) (hzl:zs.length=s) (h0:0≤n) (hbn:(bs:Int)*n≤140737488355328) (h63:n≤9223372036854775807)
  (hr:(fresh dst (.arr (List.replicate n.toNat (zs.map .lit)) s e true) fun k=>.one (.slk k 0 n.toNat n.toNat)).run ob=some r):fy P w U ι ob (Instr.makeSlice t (.int k n) (.int k n)) r:=by
 obtain ⟨i,z,hi,hz',hz1,hz2⟩:=dX hz
 obtain ⟨i',hi',hs'⟩:=lu hs
 obtain ⟨i'',hi'',hb'⟩:=ki hb
 rw [hi] at hi' hi''
 cases hi';cases hi''
 have hrun:=run_make (P:=P) w t e i z (dO he) hi hz' k k n n h0 (Tl _) (by rw [hb'];omega) h63
 rw [hs'] at hrun
 have hzsz:z.cells.size=s:=by rw [←hzl,← hz1];simp
 refine uf hm w (.inl rfl) hr (by simp) (Kg _) (by simp [maxLen];omega) (by rw [size_madeCells]) (by intro r hr;rw [List.eq_of_mem_replicate hr];simpa using hzl) ⟨(List.replicate n.toNat zs).flatten,gx hz2 _,?_⟩ hrun
 intro j u hu
 have:=gC (z:=z.cells) (n:=n.toNat) hzsz hs0
 rw [hz1] at this
 rw [←this] at hu
 have:=(V5 (xs:=madeCells z.cells (n.toNat*s)) (i:=j)).symm
 rw [this];exact hu
theorem kj (hm:Mem w U ι ob) {t e s len:Nat} {zs:List Value} {ρ:Operand→V} {ρ':Operand→Value} {parts:Array (Nat×Operand)} {rows:List (List D)} {us:List (Nat×O)}
  (hρ:∀ x,VR w U ι ob (ρ x) (ρ' x)) (he:bY P t=some e) (hs:bj P e=some s) (hz:co P e=some zs) (hs0:0 < s) (hzl:zs.length=s) (hlen:len*s≤16777216)
  (hrows:(dx ρ s (List.replicate len (zs.map .lit)) parts.toList).run ob=some (rows,us)) :
  ∃ U' arr',Mem w U' ι (b5 ob us)∧Evo w U ι ob w U' ι (b5 ob us)∧FR w U' rows.flatten arr'.toList∧(∀ r∈rows,r.length=s)∧rows.length=len∧arr'.size=len*s∧SameBut ob (b5 ob us) ∧
   (Instr.buildSlice t len (parts.map fun (i,x)=>(i,ρ' x))).run P w=.ok (.slice (some ⟨w.heap.size,0,none⟩) len len) (w.alloc (.cells arr' e)):=by
 obtain ⟨z,hz1,hz2,hz3⟩:=tr (w:=w) hz
 have hzsz:z.cells.size=s:=by rw [←hzl,← hz2];simp
 have hmf:=gC (z:=z.cells) (n:=len) hzsz hs0
 rw [hz2] at hmf
 obtain ⟨U',arr',m1,m2,m3,m4,m5,m6,m7⟩:=rD (arr:=(Array.range (len*s)).map (fun i=>z.cells[i % z.cells.size]!)) hrows (SameBut.refl ob) hm hρ (by intro r hr;rw [List.eq_of_mem_replicate hr];simpa using hzl) (by rw [hmf];exact gx hz3 _)
 have hfl:=bX m5
 have hrl:rows.length=len:=by rw [m6];simp
 have hasz:arr'.size=len*s:=by have:=m4.len;rw [hfl,hrl] at this;simpa using this
 have hrun:(Instr.buildSlice t len (parts.map fun (i,x)=>(i,ρ' x))).run P w=.ok (.slice (some ⟨w.heap.size,0,none⟩) len len) (w.alloc (.cells arr' e)):=by
  have h24:¬ (2 ^ 24 < len*s):=by omega
  have hlist:((parts.map fun (x:Nat×Operand)=>(x.1,ρ' x.2)).toList)=parts.toList.map fun p=>(p.1,ρ' p.2):=by simp
  unfold Instr.buildSlice
  rw [Sem.run_bind,run_underlying (dO he)]
  simp only [Result.andThen_ok]
  rw [Sem.run_bind,cp hs,Result.andThen_ok,hlist]
  by_cases h0:len*s=0
  ·have hl0:len=0:=by
    rcases Nat.mul_eq_zero.1 h0 with h | h
    ·exact h
    ·omega
   subst hl0
   simp only [Nat.zero_mul] at m3 ⊢
   have hfill:Instr.fill (fun i=>some (i*s,s)) (Array.map (fun (x:Nat)=>(#[]:Array Value)[x % (#[]:Array Value).size]!) (Array.range 0)) (parts.toList.map fun p=>(p.1,ρ' p.2))=some arr':=by
    have:(Array.map (fun (x:Nat)=>(#[]:Array Value)[x % (#[]:Array Value).size]!) (Array.range 0))=(Array.range 0).map (fun i=>z.cells[i % z.cells.size]!):=by simp
    rw [this];exact m3
   simp only [Sem.run_bind,Sem.run_pure,Result.andThen_ok,Js,show ¬ (0 > 2 ^ 24) by omega,Ju,hfill,newRow,run_newObj]
   rfl
  ·simp only [Sem.run_bind,Sem.run_pure,Result.andThen_ok,show ¬ (len*s > 2 ^ 24) by omega,Ju,h0,hz1,m3,newRow,run_newObj]
   rfl
 exact ⟨U',arr',m1,m2,m4,m5,hrl,hasz,m7,hrun⟩
theorem oO (hm:Mem w U ι ob) {dst:Option Nat} {t e s len:Nat} {zs:List Value} {ρ:Operand→V} {ρ':Operand→Value} {parts:Array (Nat×Operand)} {rows:List (List D)} {us:List (Nat×O)} {v:V} {u:List (Nat×O)}
  (hρ:∀ x,VR w U ι ob (ρ x) (ρ' x)) (he:bY P t=some e) (hs:bj P e=some s) (hz:co P e=some zs) (hs0:0 < s) (hzl:zs.length=s) (hlen:len*s≤16777216)
  (hrows:(dx ρ s (List.replicate len (zs.map .lit)) parts.toList).run ob=some (rows,us)) (hr:(fresh dst (.arr rows s e true) fun k=>.one (.slk k 0 len len)).run ob=some (v,u)) :
  fy P w U ι ob (Instr.buildSlice t len (parts.map fun (i,x)=>(i,ρ' x))) (v,us++u):=by
 obtain ⟨U',arr',m1,m2,m4,m5,hrl,hasz,m7,hrun⟩:=kj hm hρ he hs hz hs0 hzl hlen hrows
 have hr':(fresh dst (.arr rows s e true) fun k=>.one (.slk k 0 len len)).run (b5 ob us)=some (v,u):=by
  unfold fresh at hr ⊢
  cases dst with
  | none=>simp [Q.run] at hr
  | some k =>
   simp only [Q.run] at hr ⊢
   cases hk:ob k with
   | some o=>simp [hk,Q.run] at hr
   | none=>rw [hk] at hr;rw [m7.2.2 k hk];exact hr
 have hg:=uf (P:=P) m1 (arr:=arr') (cap:=len) w (.inl rfl) hr' hrl.symm (Kg _) (by
  have:len≤len*s:=Nat.le_mul_of_pos_right _ hs0
  simp [maxLen];omega) hasz m5 ⟨arr'.toList,m4,fun j u hu=>by simpa using hu⟩ hrun
 obtain ⟨v',w',U'',ι',g1,g2,g3,g4⟩:=hg
 exact ⟨v',w',U'',ι',g1,by simpa only [bz] using g2,by simpa only [bz] using m2.trans g3,by simpa only [bz] using g4⟩
theorem qI {x v:V} {u:Value} {n:Nat} (hx:VR w U ι ob x u) (h:dG n x=some v):∃ a:Addr,u=.pointer (some a)∧VR w U ι ob v (.pointer (some (a.add n))):=by
 unfold dG at h
 split at h
 ·simp only [Jm] at h;subst h
  simp only [VR,LR] at hx ⊢
  obtain ⟨cells,e,h1,rfl⟩:=hx
  exact ⟨_,rfl,cells,e,h1,by rw [add_lit]⟩
 ·simp only [Jm] at h;subst h
  simp only [VR,LR] at hx ⊢
  obtain ⟨rows,s,e,own,h1,h2,h3,a,rfl⟩:=hx
  refine ⟨_,rfl,rows,s,e,own,h1,h2,fun hc=>?_,_,rfl⟩
  obtain ⟨h4,h5⟩:=h3 hc
  cases h5
  exact ⟨h4,by rw [add_lit,T8]⟩
 ·simp only [Jm] at h;subst h
  simp only [VR,LR,DR] at hx ⊢
  obtain ⟨b,o,rfl,h1,h2⟩:=hx
  exact ⟨_,rfl,b,o,by rw [add_lit,T8],h1,h2⟩
 ·simp only [Jm] at h;subst h
  simp only [VR,LR] at hx ⊢
  obtain ⟨h1,b,h2,rfl⟩:=hx
  exact ⟨_,rfl,h1,b,h2,by rw [add_lit]⟩
 ·cases h
theorem qt (hm:Mem w U ι ob) {x:V} {u:Value} {s f:Nat} {p:Nat×Nat×Bool} {r:cn} (hx:VR w U ι ob x u) (hf:jo P s f=some p) (hr:(aP (dG p.1 x)).run ob=some r):fy P w U ι ob (Instr.fieldAt s u f) r:=by
 obtain ⟨v,hv,rfl⟩:=bq hr
 obtain ⟨a,rfl,hv'⟩:=qI hx hv
 unfold jo at hf
 split at hf
 ·rename_i fs hfs
  split at hf
  ·rename_i fd hfd
   split at hf
   ·rename_i sz g hsz hg
    split at hf
    ·cases hf
    ·rename_i hne
     cases hf
     refine aE hm (u:=.pointer (some (a.add fd.offset))) ?_ hv'
     simp [Instr.fieldAt,run_underlying hfs,hfd,Instr.sureAddr,fieldPlace,cp hsz,hne]
   ·cases hf
  ·cases hf
 ·cases hf
theorem k9 (hm:Mem w U ι ob) {x:V} {u y:Value} {t s e:Nat} {arr:Option (Nat×Nat)} {k:IntKind} {i:Int} {r:cn} (hx:VR w U ι ob x u) (hy:y=.int k i)
  (ht:(∃ n,arr=some (n,e)∧P.underlying t=some (.array n e))∨(arr=none∧P.underlying t=some (.slice e))) (hs:bj P e=some s) (hr:(cJ arr s x i).run ob=some r):fy P w U ι ob (Instr.indexAt t u y) r:=by
 subst hy
 rcases ht with ⟨n,rfl,hu⟩ | ⟨rfl,hu⟩
 ·simp only [cJ] at hr
  obtain ⟨v,hv,rfl⟩:=bq hr
  split at hv
  ·rename_i hb
   obtain ⟨a,rfl,hv'⟩:=qI hx hv
   refine aE hm (u:=.pointer (some (a.add (i.toNat*s)))) ?_ hv'
   simp [Instr.indexAt,run_underlying hu,Instr.sureAddr,asIntOf,hb,cp hs]
  ·cases hv
 ·simp only [cJ] at hr
  split at hr
  ·rename_i k off n c
   simp only [Q.run] at hr
   split at hr
   ·rename_i rows size el own hk
    obtain ⟨hg,hr2⟩:=an hr;clear hr
    simp only [Jq] at hg
    obtain ⟨hc,rfl⟩:=hg
    obtain ⟨v,hv,rfl⟩:=bq hr2
    split at hv
    ·rename_i hb
     cases hv
     simp only [VR,LR] at hx
     obtain ⟨rows',size',el',own',h1,h2,h3,_⟩:=hx
     rw [hk] at h1
     cases h1
     obtain ⟨h4,rfl⟩:=h3 hc
     refine aE hm (u:=.pointer (some ⟨(ι k).1,off*size+i.toNat*size,none⟩)) ?_ ?_
     ·simp [Instr.indexAt,run_underlying hu,asIntOf,hb,cp hs,add_lit]
     ·simp only [VR,LR]
      exact ⟨rows,size,el,own,hk,h2,fun _=>⟨by omega,by rw [T0,Kk]⟩,_,rfl⟩
    ·cases hv
   ·simp [Q.run] at hr
  ·rename_i k n
   simp only [Q.run] at hr
   split at hr
   ·rename_i rows size el own hk
    obtain ⟨hg,hr2⟩:=an hr;clear hr
    simp only [Jq] at hg
    obtain ⟨hc,rfl⟩:=hg
    obtain ⟨v,hv,rfl⟩:=bq hr2
    split at hv
    ·rename_i hb
     cases hv
     have hpos:0 < n:=by omega
     simp only [VR] at hx
     rw [LR.sln_slk hpos] at hx
     simp only [LR] at hx
     obtain ⟨rows',size',el',own',h1,h2,h3,_⟩:=hx
     rw [hk] at h1
     cases h1
     obtain ⟨h4,rfl⟩:=h3 hc
     refine aE hm (u:=.pointer (some ⟨(ι k).1,0*size+i.toNat*size,none⟩)) ?_ ?_
     ·simp [Instr.indexAt,run_underlying hu,asIntOf,hb,cp hs,add_lit]
     ·simp only [VR,LR]
      exact ⟨rows,size,el,own,hk,h2,fun _=>⟨by omega,by rw [T0,Kk]⟩,_,rfl⟩
    ·cases hv
   ·simp [Q.run] at hr
  ·rename_i sz rows
   obtain ⟨hg,hr2⟩:=an hr;clear hr
   simp only [Jq] at hg
   subst hg
   obtain ⟨v,hv,rfl⟩:=bq hr2
   split at hv
   ·rename_i h0
    simp only [Jw] at hv
    obtain ⟨row,hrow,rfl⟩:=hv
    simp only [VR,LR,DR] at hx
    obtain ⟨a,cap,rfl,h1,h2,h3⟩:=hx
    have hlt:i.toNat < rows.length:=(K5.1 hrow).1
    obtain ⟨b,o,rfl,hUb,hrr⟩:=h3 (by omega)
    obtain ⟨hrl,hcr⟩:=hrr.at_ hrow
    refine aE hm (u:=.pointer (some ⟨b,o+i.toNat*sz,none⟩)) ?_ ?_
    ·simp [Instr.indexAt,run_underlying hu,asIntOf,h0,show i < rows.length by omega,cp hs,add_lit]
    ·simp only [VR,LR,DR]
     exact ⟨b,o+i.toNat*sz,by rw [Kk],hUb,hcr⟩
   ·cases hv
  ·simp [Q.run] at hr
theorem CJ {kl kh:IntKind} {n cap:Nat} {l h:Option Int} {lv hv:Option Value} (hl:lv=l.map (Value.int kl)) (hh:hv=h.map (Value.int kh)) (h0:0≤l.getD 0) (h1:l.getD 0≤h.getD n) (h2:h.getD n≤n) (h3:n≤cap) :
  (Instr.sliceBounds true n cap lv hv none).run P w=.ok ((l.getD 0).toNat,(h.getD n).toNat,cap) w:=by
 subst hl hh
 cases l<;>cases h<;>simp only [Tr,M4,Tt,Kv] at*<;> simp only [Instr.sliceBounds,Sem.run_bind,Sem.run_pure,Result.andThen_ok]
 ·simp
 ·rename_i hi
  rw [run_sliceBound _ _ _ _ _ (by omega) (by omega)]
  simp
 ·rename_i lo
  rw [run_sliceBound _ _ _ _ _ (by omega) (by omega)]
  simp
 ·rename_i lo hi
  rw [run_sliceBound _ _ _ _ _ (by omega) (by omega)]
  simp only [Result.andThen_ok]
  rw [run_sliceBound _ _ _ _ _ (by omega) (by omega)]
  simp
theorem CI {t e s n cap:Nat} {a:Option Addr} {kl kh:IntKind} {l h:Option Int} {lv hv:Option Value} (ht:P.underlying t=some (.slice e)) (hs:bj P e=some s) (hl:lv=l.map (Value.int kl)) (hh:hv=h.map (Value.int kh))
  (h0:0≤l.getD 0) (h1:l.getD 0≤h.getD n) (h2:h.getD n≤n) (h3:n≤cap) :
  (Instr.sliceAt t (.slice a n cap) lv hv none).run P w=.ok (.slice (if cap=(l.getD 0).toNat then a else a.map (·.add ((l.getD 0).toNat*s))) ((h.getD n).toNat - (l.getD 0).toNat) (cap - (l.getD 0).toNat)) w:=by
 have:=CJ (P:=P) (w:=w) hl hh h0 h1 h2 h3
 simp [Instr.sliceAt,run_underlying ht,Instr.slice,this,cp hs]
theorem CH {t e s n cap:Nat} {a:Addr} {kl kh:IntKind} {l h:Option Int} {lv hv:Option Value} (ht:P.underlying t=some (.slice e)) (hs:bj P e=some s) (hl:lv=l.map (Value.int kl)) (hh:hv=h.map (Value.int kh))
  (h0:0≤l.getD 0) (h1:l.getD 0≤h.getD n) (h2:h.getD n≤n) (h3:n≤cap) :
  (Instr.sliceAt t (.slice (some a) n cap) lv hv none).run P w=.ok (.slice (some (if cap=(l.getD 0).toNat then a else a.add ((l.getD 0).toNat*s))) ((h.getD n).toNat - (l.getD 0).toNat) (cap - (l.getD 0).toNat)) w:=by
 rw [CI ht hs hl hh h0 h1 h2 h3]
 congr 2
 split<;>rfl
theorem Dp (hm:Mem w U ι ob) {x:V} {u:Value} {t e s:Nat} {kl kh:IntKind} {l h:Option Int} {lv hv:Option Value} {r:cn} (hx:VR w U ι ob x u) (ht:P.underlying t=some (.slice e)) (hs:bj P e=some s)
  (hl:lv=l.map (Value.int kl)) (hh:hv=h.map (Value.int kh)) (hr:(kf s x l h).run ob=some r):fy P w U ι ob (Instr.sliceAt t u lv hv none) r:=by
 unfold kf at hr
 split at hr
 ·rename_i k off n c
  simp only [Q.run] at hr
  split at hr
  ·rename_i rows size el own hk
   obtain ⟨hg,hr2⟩:=an hr;clear hr
   simp only [Jq] at hg
   obtain ⟨hc,rfl⟩:=hg
   obtain ⟨v,hv',rfl⟩:=bq hr2
   split at hv'
   ·rename_i hb
    simp only [VR,LR] at hx
    obtain ⟨rows',size',el',own',h1,h2,h3,_,_,he,hcap,hmax⟩:=hx
    rw [hk] at h1
    cases h1
    obtain ⟨h4,rfl⟩:=h3 hc
    cases he
    have hrun:=CI (P:=P) (w:=w) (a:=some ⟨(ι k).1,off*size,none⟩) ht hs hl hh hb.1 hb.2.1 hb.2.2 hcap
    split at hv'
    ·rename_i hcase
     cases hv'
     refine aE hm hrun ?_
     simp only [VR,LR]
     refine ⟨rows,size,el,own,hk,h2,fun _=>⟨by omega,?_⟩,_,_,by rw [show (h.getD n - l.getD 0).toNat=(h.getD n).toNat - (l.getD 0).toNat by omega],by omega,by omega⟩
     rw [show (h.getD n - l.getD 0).toNat=(h.getD n).toNat - (l.getD 0).toNat by omega]
     congr 1
     ·split
      ·have:(l.getD 0).toNat=0:=by omega
       rw [this];simp
      ·simp only [Kv,add_lit,T0]
     ·omega
    ·cases hv'
     have hrun2:=CH (P:=P) (w:=w) (a:=(⟨(ι k).1,off*size,none⟩:Addr)) ht hs hl hh hb.1 hb.2.1 hb.2.2 hcap
     refine aE hm hrun2 ?_
     simp only [VR,LR,DR]
     refine ⟨_,_,by rw [show (h.getD n).toNat - (l.getD 0).toNat=0 by omega];rfl,by simp,by omega,by simp⟩
   ·cases hv'
  ·simp [Q.run] at hr
 ·rename_i size rows
  obtain ⟨hg,hr2⟩:=an hr;clear hr
  simp only [Jq] at hg
  subst hg
  obtain ⟨v,hv',rfl⟩:=bq hr2
  split at hv'
  ·rename_i hb
   cases hv'
   simp only [VR,LR,DR] at hx
   obtain ⟨a,cap,rfl,h1,h2,h3⟩:=hx
   have hrun:=CH (P:=P) (w:=w) (a:=a) ht hs hl hh hb.1 hb.2.1 hb.2.2 h1
   refine aE hm hrun ?_
   have hlen:((rows.drop (l.getD 0).toNat).take (h.getD rows.length - l.getD 0).toNat).length=(h.getD rows.length).toNat - (l.getD 0).toNat:=by simp;omega
   simp only [VR,LR,DR]
   refine ⟨_,_,by rw [hlen],by rw [hlen];omega,by omega,fun hp=>?_⟩
   rw [hlen] at hp
   obtain ⟨b,o,rfl,hU,hrr⟩:=h3 (by omega)
   refine ⟨b,o+(l.getD 0).toNat*size,?_,hU,(hrr.drop _).take _⟩
   rw [Kc (by omega)]
   simp [add_lit]
  ·cases hv'
 ·obtain ⟨v,hv',rfl⟩:=bq hr
  split at hv'
  ·rename_i hb
   cases hv'
   simp only [VR,LR,DR] at hx
   obtain ⟨rfl,hp⟩:=hx
   have hh0:h.getD (0:Nat)=0:=by simpa using hb.2
   have hrun:=CI (P:=P) (w:=w) (a:=none) (n:=0) (cap:=0) ht hs hl hh (by omega) (by omega) (by omega) (Kg _)
   refine aE hm (u:=.slice none 0 0) ?_ (by simp [VR,LR,DR,hp])
   rw [hrun]
   simp [hb.1,hb.2]
  ·cases hv'
 ·simp [Q.run] at hr
end
section
open Go.RowKit
variable {P:Program} {w:World} {U:Nat→Prop} {ι:Pl} {ob:Ob}
theorem yP (hm:Mem w U ι ob) {x:V} {u:Value} {es:Nat} {new:List (List D)} (hx:VR w U ι ob x u) (hr:(cR es x).run ob=some new) :
  ∃ (a:Option Addr) (n c:Nat),u=.slice a n c∧n=new.length∧(∀ r∈new,r.length=es)∧(a=none→new=[]) ∧
   ∃ vs,FR w U new.flatten vs∧∀ ad,a=some ad→∀ (j:Nat) (v:Value),vs[j]?=some v→w.cell? (ad.add j)=some v:=by
 unfold cR at hr
 split at hr
 ·simp only [Q.run,Jm] at hr
  subst hr
  simp only [VR,LR,DR] at hx
  exact ⟨none,0,0,hx.1,rfl,by simp,fun _=>rfl,[],by simp [FR],by simp⟩
 ·rename_i size rows
  obtain ⟨hg,hr2⟩:=an hr;clear hr
  simp only [Jq] at hg
  subst hg
  simp only [Q.run,Jm] at hr2
  subst hr2
  simp only [VR,LR,DR] at hx
  obtain ⟨a,cap,rfl,h1,h2,h3⟩:=hx
  rcases Nat.eq_zero_or_pos rows.length with h0 | h0
  ·have:rows=[]:=Tb h0
   subst this
   exact ⟨a,0,cap,rfl,rfl,by simp,fun _=>rfl,[],by simp [FR],by simp⟩
  ·obtain ⟨b,o,rfl,hU,hrr⟩:=h3 h0
   obtain ⟨h4,vs,h5,h6⟩:=ec.1 hrr
   refine ⟨_,_,cap,rfl,rfl,h4,by simp,vs,h5,fun ad hd j v hv=>?_⟩
   cases hd
   rw [add_lit]
   exact h6 j v hv
 ·rename_i k off n c
  simp only [Q.run] at hr
  split at hr
  ·rename_i rows size el own hk
   obtain ⟨hg,hr2⟩:=an hr;clear hr
   simp only [Jq] at hg
   obtain ⟨hc,rfl⟩:=hg
   simp only [Q.run,Jm] at hr2
   subst hr2
   simp only [VR,LR] at hx
   obtain ⟨rows',size',el',own',h1,h2,h3,_⟩:=hx
   rw [hk] at h1
   cases h1
   obtain ⟨h4,rfl⟩:=h3 hc
   obtain ⟨cur,h5,h6,h7,h8,h9,h10⟩:=hm.obj k _ hk
   have hrr:=(h9.drop off).take n
   rw [Jv] at hrr
   obtain ⟨h11,vs,h12,h13⟩:=ec.1 hrr
   refine ⟨_,n,_,rfl,by simp;omega,h11,by simp,vs,h12,fun ad hd j v hv=>?_⟩
   cases hd
   rw [add_lit]
   exact h13 j v hv
  ·simp [Q.run] at hr
 ·simp [Q.run] at hr
theorem xh (hm:Mem w U ι ob) {x:V} {u:Value} {es:Nat} {new:List (List D)} (hx:VR w U ι ob x u) (hr:(cl es x).run ob=some new) :
  ∃ (a:Option Addr) (n c:Nat),u=.slice a n c∧n=new.length∧(∀ r∈new,r.length=es)∧(a=none→new=[]) ∧
   ∃ vs,FR w U new.flatten vs∧∀ ad,a=some ad→∀ (j:Nat) (v:Value),vs[j]?=some v→w.cell? (ad.add j)=some v:=by
 unfold cl at hr
 split at hr
 ·rename_i k n
  split at hr
  ·rename_i h0
   subst h0
   simp only [Q.run,Jm] at hr
   subst hr
   simp only [VR] at hx
   rw [LR.sln_nil] at hx
   exact ⟨none,0,0,hx,rfl,by simp,fun _=>rfl,[],by simp [FR],by simp⟩
  ·rename_i h0
   refine yP hm (x:=.one (.slk k 0 n n)) ?_ hr
   simp only [VR] at hx ⊢
   exact (LR.sln_slk (by omega)).1 hx
 ·exact yP hm hx hr
theorem ie (t ty e:TypeId) (i:TypeInfo) (ht:P.underlying t=some (.slice e)) (hi:P.info? e=some i) (b:Option Addr) (n cap:Nat) (hb:b=none→n=0) (hn:n≤cap) (a:Option Addr) (c:Nat) :
  (Builtin.append_ #[t,t] ty #[.slice b n cap,.slice a 0 c]).run P w=.ok (.slice b n cap) w:=by
 cases a with
 | none=>cases b<;>simp [Builtin.append_,run_underlying ht,sizeOf,typeInfo,hi,Builtin.lenOf,Builtin.firstCells,hn,storeCells]
 | some a=>cases b<;>simp [Builtin.append_,run_underlying ht,sizeOf,typeInfo,hi,Builtin.lenOf,Builtin.firstCells,hn,storeCells,loadCells,loadCellsFrom]
set_option maxHeartbeats 400000 in
theorem jl (hm:Mem w U ι ob) {dst:Option Nat} {t ty e sz bs:Nat} {s x:V} {us ux:Value} {new:List (List D)} {r:cn} (hs:VR w U ι ob s us) (hx:VR w U ι ob x ux)
  (he:bY P t=some e) (hsz:bj P e=some sz) (hbs:gq P e=some bs) (hz:(co P e).isSome=true) (hs0:0 < sz) (_:0 < bs) (hsrc:(cl sz x).run ob=some new) (hr:(eb dst e sz bs s new).run ob=some r)
  (hzl:∀ zs,co P e=some zs→zs.length=sz) :
  fy P w U ι ob (Builtin.append_ #[t,t] ty #[us,ux]) r:=by
 obtain ⟨a,n,c,rfl,hn,hrows,hnone,vs,hvs,hcell⟩:=xh hm hx hsrc
 obtain ⟨zs,hzs⟩:=Mu.1 hz
 have hzl':=hzl zs hzs
 obtain ⟨i,z,hi,hz',hz1,hz2⟩:=dX hzs
 obtain ⟨i',hi',hsize⟩:=lu hsz
 obtain ⟨i'',hi'',hbytes⟩:=ki hbs
 rw [hi] at hi' hi''
 cases hi';cases hi''
 have hzsz:z.cells.size=sz:=by rw [←hzl',← hz1];simp
 have hvl:vs.length=n*sz:=by rw [hvs.len,bX hrows,hn]
 unfold eb at hr
 split at hr
 ·split at hr
  ·rename_i hnew
   subst hnew
   simp only [Q.run,Jm] at hr
   subst hr
   have hv:=hs
   simp only [VR,LR,DR] at hv
   obtain ⟨rfl,hp⟩:=hv
   simp at hn
   subst hn
   exact aE hm (ie t ty e i (dO he) hi none 0 0 (fun _=>rfl) (Kg _) a c) hs
  ·rename_i hnew
   obtain ⟨hg,hr2⟩:=an hr;clear hr
   simp only [Jq] at hg
   simp only [VR,LR,DR] at hs
   obtain ⟨rfl,_⟩:=hs
   have hnpos:0 < n:=by rw [hn];exact Tx.2 hnew
   cases a with
   | none=>exact absurd (hnone rfl) hnew
   | some ad =>
    obtain ⟨v',w',h1,h2,h3,h4,h5⟩:=run_append_own_at (P:=P) w w.heap.size t ty e i z sz bs (dO he) hi hz' hsize hbytes hzsz hs0 (.slice none 0 0) 0 [] (World.ownsRow_nil _ _ _ _) ad n c vs hvl (hcell ad rfl) hvs.one (by omega) (by rw [Jv,hn];exact hg.1) (Kg _)
    rw [Jv,Ke] at h2
    rcases h2 with ⟨h2l,h2 | ⟨g,cap,cur,rfl,hg1,hg2,hg3,hg4,hg5,hg6⟩⟩
    ·exact absurd (by omega) (Nat.lt_irrefl n)
    ·have hgw:g=w.heap.size:=by
      rcases h5 with h5 | h5<;>simp [Value.ownBlock] at h5
      exact h5
     subst hgw
     unfold fresh at hr2
     cases dst with
     | none=>simp [Q.run] at hr2
     | some k =>
      simp only [Q.run] at hr2
      cases hk:ob k with
      | some o=>simp [hk,Q.run] at hr2
      | none =>
       simp only [hk,Q.run,Jm] at hr2
       subst hr2
       obtain ⟨m1,m2⟩:=eC (w':=w') hm k (.arr new sz e true) (w.heap.size,cap) h3.os h3.tape h3.output h3.size (fun b hb _=>h3.block b hb (by simp [Value.ownBlock])) (fun o' h=>by rw [hk] at h;cases h) (.inl (Kg _)) rfl (fun e'=>by
        refine ⟨cur,by rw [ai];exact hg2,by rw [ai];simp only [];omega,by rw [ai];exact hg4,by rw [ai];exact hg5,?_,by rw [ai];simp;intro hU;exact absurd (hm.lt _ hU) (by simp)⟩
        rw [ai]
        refine ec.2 ⟨hrows,vs,FR.mono' e' hvs,fun j u hu=>?_⟩
        rw [bC hg2,Jv]
        rw [←hg6,M9] at hu
        split at hu
        ·simpa using hu
        ·cases hu)
       refine ⟨_,_,U,_,h1,m1,m2,?_⟩
       simp only [VR,LR]
       exact ⟨new,sz,e,true,b8 _ _ _,Kg _,fun _=>⟨by omega,by rw [ai];simp [hn]⟩,_,_,by rw [hn],by omega,hg4⟩
 ·rename_i k n0 c0
  simp only [Q.run] at hr
  split at hr
  ·rename_i rows size' elem' own hk
   obtain ⟨hg,hr2⟩:=an hr;clear hr
   simp only [Jn,Jq] at hg
   obtain ⟨rfl,hc,rfl,rfl,rfl,hby,hmx⟩:=hg
   simp only [Q.run,Jm] at hr2
   subst hr2
   simp only [VR,LR] at hs
   obtain ⟨rows',size'',el',own',h1,h2,h3,_⟩:=hs
   rw [hk] at h1
   cases h1
   obtain ⟨h4,rfl⟩:=h3 hc
   obtain ⟨cur,h5,h6,h7,h8,h9,h10⟩:=hm.obj k _ hk
   obtain ⟨hro,ovs,hov,hoc⟩:=ec.1 h9
   have hovl:ovs.length=rows.length*size':=by rw [hov.len,bX hro]
   have hcurle:rows.length*size'≤cur.size:=by rw [h8];exact M8 _ h6
   have hctake:cur.toList.take (rows.length*size')=ovs:=by
    apply Mf
    intro j
    rw [M9]
    split
    ·rename_i hj
     have hjo:j < ovs.length:=by omega
     have:=hoc j ovs[j] (Jo hjo)
     rw [bC h5,Jv] at this
     rw [Jo hjo,← this]
     simp
    ·rw [Kr (by omega)]
   have hown:w.ownsRow (ι k).1 elem' size' (.slice (some ⟨(ι k).1,0,none⟩) rows.length ((ι k).2)) rows.length ovs :=
    ⟨hovl,.inr ⟨(ι k).1,(ι k).2,cur,rfl,Kg _,h5,h6,h7,h8,hctake⟩⟩
   rw [Nat.zero_mul]
   simp only [Nat.sub_zero]
   have l9:∀ (v':Value) (w':World),(Builtin.append_ #[t,t] ty #[.slice (some ⟨(ι k).1,0,none⟩) rows.length ((ι k).2),.slice a n c]).run P w=.ok v' w' →
     w'.ownsRow (ι k).1 elem' size' v' (rows.length+n) (ovs++vs)→w.grownBy w' (some (ι k).1)→(v'.ownBlock=some (ι k).1∨v'.ownBlock=some w.heap.size) →
     (n=0→v'=.slice (some ⟨(ι k).1,0,none⟩) rows.length ((ι k).2)) →
     fy P w U ι ob (Builtin.append_ #[t,t] ty #[.slice (some ⟨(ι k).1,0,none⟩) rows.length ((ι k).2),.slice a n c]) (.one (.slk k 0 (rows.length+new.length) (rows.length+new.length)),[(k,.arr (rows++new) size' elem' true)]):=by
    intro v' w' g1 g2 g3 g4 g5
    have g2':∃ g cap cur',v'=.slice (some ⟨g,0,none⟩) (rows.length+n) cap∧(g=(ι k).1∨g=w.heap.size)∧w'.heap[g]?=some (.cells cur' elem' (0,0))∧rows.length+n≤cap∧cap≤maxLen∧cur'.size=cap*size'∧cur'.toList.take ((rows.length+n)*size')=ovs++vs∧(n=0→(g,cap)=((ι k).1,(ι k).2)):=by
     rcases g2 with ⟨_,⟨rfl,_⟩ | ⟨g,cap,cur',rfl,_,q2,q3,q4,q5,q6⟩⟩
     ·simp [Value.ownBlock] at g4
     ·refine ⟨g,cap,cur',rfl,by simpa [Value.ownBlock] using g4,q2,q3,q4,q5,q6,fun h0=>?_⟩
      have:=g5 h0
      injection this with e1 e2 e3
      injection e1 with e1
      injection e1 with e1
      rw [e1,e3]
    obtain ⟨g,cap,cur',rfl,q1,q2,q3,q4,q5,q6,q7⟩:=g2'
    obtain ⟨m1,m2⟩:=eC (w':=w') hm k (.arr (rows++new) size' elem' true) (g,cap) g3.os g3.tape g3.output g3.size
     (fun b hb hbk=>g3.block b hb (by
      rcases hbk with hbk | hbk
      ·rw [hk] at hbk;cases hbk
      ·simpa using hbk)) (fun o' h=>by
      rw [hk] at h
      cases h
      refine ⟨rfl,rfl,rfl,by simp,fun h0=>q7 ?_⟩
      simp at h0
      rw [hn,h0];rfl) (by
      rcases q1 with rfl | rfl
      ·exact .inr ⟨by simp [hk],rfl⟩
      ·exact .inl (Kg _)) rfl (fun e'=>by
      refine ⟨cur',by rw [ai];exact q2,by rw [ai];simpa [←hn] using q3,by rw [ai];exact q4,by rw [ai];exact q5,?_,?_⟩
      ·rw [ai]
       refine ec.2 ⟨by
        intro r hr
        rcases Kf.1 hr with h | h
        ·exact hro r h
        ·exact hrows r h,ovs++vs,by rw [Ta];exact (FR.mono' e' hov).append (FR.mono' e' hvs),fun j u hu=>?_⟩
       rw [bC q2,Jv]
       rw [←q6,M9] at hu
       split at hu
       ·simpa using hu
       ·cases hu
      ·rw [ai]
       simp only [Js]
       rcases q1 with rfl | rfl
       ·simpa using h10
       ·intro hU;exact absurd (hm.lt _ hU) (by simp))
    refine ⟨_,_,U,_,g1,m1,m2,?_⟩
    simp only [VR,LR]
    exact ⟨rows++new,size',elem',true,b8 _ _ _,by simp,fun _=>⟨by simp,by rw [ai];simp [hn]⟩,_,_,by rw [hn],by omega,q4⟩
   rcases Nat.eq_zero_or_pos n with hn0 | hn0
   ·have hnew0:new=[]:=Tb (by omega)
    have hvs0:vs=[]:=Tb (by rw [hvl,hn0];simp)
    subst hn0
    have hap:=ie (P:=P) (w:=w) t ty elem' i (dO he) hi (some ⟨(ι k).1,0,none⟩) rows.length ((ι k).2) (by simp) h6 a c
    exact l9 _ _ hap (by rw [hvs0,Kh];exact hown) (World.grownBy.refl _ _) (.inl rfl) (fun _=>rfl)
   ·cases a with
    | none=>have:=hnone rfl;rw [this] at hn;simp at hn;omega
    | some ad =>
     obtain ⟨v',w',g1,g2,g3,g4,g5⟩:=run_append_own_at (P:=P) w (ι k).1 t ty elem' i z size' bs (dO he) hi hz' hsize hbytes hzsz hs0 _ rows.length ovs hown ad n c vs hvl (hcell ad rfl) hvs.one (by rw [hn];exact hmx) (by rw [hn];exact hby) (Nat.le_of_lt (hm.block hk))
     refine l9 v' w' g1 g2 g3 (by simpa only [Value.ownBlock] using g5) (fun h=>absurd h (Nat.ne_of_gt hn0))
  ·simp [Q.run] at hr
 ·simp [Q.run] at hr
theorem vu (hm:Mem w U ι ob) {dst:Option Nat} {t ty e sz bs:Nat} {s x:V} {us ux:Value} {new:List (List D)} {r:cn} (hs:VR w U ι ob s us) (hx:VR w U ι ob x ux)
  (he:bY P t=some e) (hsz:bj P e=some sz) (hbs:gq P e=some bs) (hz:(co P e).isSome=true) (hs0:0 < sz) (hb0:0 < bs) (hsrc:(cl sz x).run ob=some new) (hr:(cL dst e sz bs s new).run ob=some r)
  (hzl:∀ zs,co P e=some zs→zs.length=sz) :
  fy P w U ι ob (Builtin.append_ #[t,t] ty #[us,ux]) r:=by
 unfold cL at hr
 split at hr
 ·rename_i k n
  simp only [Q.run] at hr
  split at hr
  ·rename_i hk
   obtain ⟨hg,hr2⟩:=an hr;clear hr
   simp only [Jq] at hg
   obtain ⟨rfl,h1,h2⟩:=hg
   simp only [Q.run,Jm] at hr2
   subst hr2
   simp only [VR] at hs
   rw [LR.sln_nil] at hs
   subst hs
   by_cases hn:new=[]
   ·subst hn
    obtain ⟨a,n,c,rfl,hn,-⟩:=xh hm hx hsrc
    simp at hn
    subst hn
    obtain ⟨zs,hzs⟩:=Mu.1 hz
    obtain ⟨i,z,hi,-⟩:=dX hzs
    refine ⟨_,w,U,ι,ie t ty e i (dO he) hi none 0 0 (fun _=>rfl) (Kg _) a c,?_,?_,?_⟩
    all_goals simp only [Js]
    all_goals rw [show b5 ob [(k,O.nul)]=ob from sC hk]
    ·exact hm
    ·exact Evo.refl _ _ _ _
    ·simp only [VR];exact LR.sln_nil.2 rfl
   ·have h0:fy P w U ι ob (Builtin.append_ #[t,t] ty #[.slice none 0 0,ux]) (.one (.slk k 0 new.length new.length),[(k,.arr new sz e true)]):=by
     refine jl hm (dst:=some k) (s:=.one (.d (.lit (.slice none 0 0)))) (by simp [VR,LR,DR,plain]) hx he hsz hbs hz hs0 hb0 hsrc ?_ hzl
     simp [eb,hn,Q.run_guard,h1,h2,fresh,Q.run,hk]
    obtain ⟨v,w',U',ι',g1,g2,g3,g4⟩:=h0
    have hpos:0 < new.length:=Tx.2 hn
    refine ⟨v,w',U',ι',g1,?_,?_,?_⟩
    all_goals simp only [Kc hn]
    ·exact g2
    ·exact g3
    ·simp only [VR] at g4 ⊢;exact (LR.sln_slk hpos).2 g4
  ·rename_i rows size' elem' own hk
   obtain ⟨hg,hr2⟩:=an hr;clear hr
   simp only [Jn,Jq] at hg
   obtain ⟨rfl,hpos,rfl,rfl,rfl,h1,h2⟩:=hg
   simp only [Q.run,Jm] at hr2
   subst hr2
   have h0:fy P w U ι ob (Builtin.append_ #[t,t] ty #[us,ux]) (.one (.slk k 0 (rows.length+new.length) (rows.length+new.length)),[(k,.arr (rows++new) size' elem' true)]):=by
    refine jl hm (dst:=dst) (s:=.one (.slk k 0 rows.length rows.length)) ?_ hx he hsz hbs hz hs0 hb0 hsrc ?_ hzl
    ·simp only [VR] at hs ⊢;exact (LR.sln_slk hpos).1 hs
    ·simp only [eb,Q.run,hk,Q.run_guard]
     rw [K1 (by simp [h1,h2])]
   obtain ⟨v,w',U',ι',g1,g2,g3,g4⟩:=h0
   refine ⟨v,w',U',ι',g1,g2,g3,?_⟩
   simp only [VR] at g4 ⊢
   exact (LR.sln_slk (by omega)).2 g4
  ·simp [Q.run] at hr
 ·exact jl hm hs hx he hsz hbs hz hs0 hb0 hsrc hr hzl
end
section
open Go.RowKit
variable {P:Program} {w:World} {U:Nat→Prop} {ι:Pl} {ob:Ob}
theorem kO {t kd:Nat} (h:mE P t=some kd):∃ k e d,P.underlying t=some (.map k e)∧P.underlying k=some d∧vm d=some kd:=by
 unfold mE at h
 split at h
 ·simp only [Km] at h
  obtain ⟨d,h1,h2⟩:=h
  exact ⟨_,_,d,by assumption,h1,h2⟩
 ·cases h
theorem ip {d:TypeDesc} {kd:Nat} {u v:Value} {b:Bool} (hd:vm d=some kd) (h:BU kd u v=some b):Instr.sameNow d u v=some b:=by
 cases d<;>simp [vm] at hd<;>subst hd<;>cases u<;>cases v<;>simp_all [BU,Instr.sameNow]
theorem lM {d:TypeDesc} {kd:Nat} {k:Value} {agg:Bool} (hd:vm d=some kd):∀ {vals:List (List D)} {keys:List Value} {es:List MapEntry} {i:Nat} {r:Option Nat},KR w U agg keys es vals→cW kd k keys i=some r →
  ∃ r',Instr.findNow d k es i=some r'∧r'.map (·.1)=r∧(∀ j x,r'=some (j,x)→i≤j∧∃ row cs,vals[j - i]?=some row∧x=dj agg cs∧(agg=false→cs.length=1)∧FR w U row cs)∧(∀ j,r=some j→i≤j∧∃ kk,keys[j - i]?=some kk∧BU kd k kk=some true)
 | [],keys,es,i,r,hk,h=>by
  simp only [KR] at hk
  obtain ⟨rfl,rfl⟩:=hk
  simp only [cW,Jm] at h
  subst h
  exact ⟨none,rfl,rfl,by simp,by simp⟩
 | row::vals,keys,es,i,r,hk,h=>by
  simp only [KR] at hk
  obtain ⟨k1,ks,e,es',cs,rfl,rfl,he,hp,hv,hc,hf,hk⟩:=hk
  simp only [cW] at h
  split at h
  ·rename_i heq
   cases h
   refine ⟨some (i,e.val),?_,rfl,?_,?_⟩
   ·simp only [Instr.findNow,he,ip hd heq]
   ·intro j x hx
    cases hx
    exact ⟨Kg _,row,cs,by simp,hv,hc,hf⟩
   ·intro j hj
    cases hj
    exact ⟨Kg _,k1,by simp,heq⟩
  ·rename_i heq
   obtain ⟨r',h1,h2,h3,h4⟩:=lM hd hk h
   refine ⟨r',?_,h2,?_,?_⟩
   ·simp only [Instr.findNow,he,ip hd heq];exact h1
   ·intro j x hx
    obtain ⟨h5,row',cs',h6,h7⟩:=h3 j x hx
    exact ⟨by omega,row',cs',by rw [show j - i=(j - (i+1))+1 by omega];simpa using h6,h7⟩
   ·intro j hj
    obtain ⟨h5,kk,h6,h7⟩:=h4 j hj
    exact ⟨by omega,kk,by rw [show j - i=(j - (i+1))+1 by omega];simpa using h6,h7⟩
  ·cases h
theorem d4 {t kd:Nat} {d:TypeDesc} {e:Bool} {v:Value} (ht:P.underlying t=some d) (hd:vm d=some kd):(Instr.checkKey e 10000 t v).run P w=.ok () w:=by
 have:∀ n,(Instr.checkKey e (n+1) t v).run P w=.ok () w:=by
  intro n
  cases d<;>simp [vm] at hd<;>simp [Instr.checkKey,run_underlying ht]
 exact this 9999
theorem xF {agg:Bool} {xs:List L} {cs:List Value} {v:V} (h:Bc agg xs=some v) (hl:LF w U ι ob xs cs) (hc:agg=false→cs.length=1):VR w U ι ob v (dj agg cs):=by
 unfold Bc at h
 split at h
 ·cases h;simp only [VR,dj,Js];exact ⟨_,rfl,hl⟩
 ·cases h
  simp only [LF] at hl
  obtain ⟨u,us,rfl,h1,h2⟩:=hl
  simpa only [VR,dj,Jl,Ju,List.headD_cons] using h1
 ·cases h
theorem vq (hm:Mem w U ι ob) {t kd e:Nat} {g ok:Bool} {zs:List Value} {x:V} {ux:Value} {k:Value} {r:cn} (hx:VR w U ι ob x ux) (hk:mE P t=some kd) (he:et P t=some e) (hz:co P e=some zs) (hzg:(P.info? e).bind (·.zero)=some (dj g zs))
  (hr:(jy kd g ok zs x k).run ob=some r):fy P w U ι ob (Instr.lookup t ux k ok) r:=by
 obtain ⟨kt,e',d,ht,htk,hd⟩:=kO hk
 have:e'=e:=by simpa [et,ht] using he
 subst this
 obtain ⟨i0,z0,hi,hz0,hz1,hz2⟩:=dX hz
 have hz3:z0=dj g zs:=by rw [hi] at hzg;simpa [hz0] using hzg
 have hzrun:(zeroValue e').run P w=.ok (dj g zs) w:=by simp [zeroValue,gR hi,hz0,hz3]
 unfold jy at hr
 obtain ⟨p,hp,hr⟩:=aI hr
 simp only [Q.run,Jm] at hr
 have main:∀ (b:Nat) (es:Array MapEntry) (clock:Nat) (keys:List Value) (vals:List (List D)),w.heap[b]?=some (.map es clock)→KR w U g keys es.toList vals→(cW kd k keys 0).bind (nC g zs vals)=some p →
   fy P w U ι ob (Instr.lookup t (.map (some b)) k ok) r:=by
  intro b es clock keys vals hb hkr hf
  rw [Km] at hf
  obtain ⟨q,hq,hg⟩:=hf
  obtain ⟨r',h1,h2,h3,_⟩:=lM hd hkr hq
  have hobj:(getObj b).run P w=.ok (.map es clock) w:=by simp [getObj,Sem.run,hb]
  have hfind:(Instr.findKey kt k es.toList).run P w=.ok r' w:=by simp [Instr.findKey,run_underlying htk,h1]
  obtain ⟨u,hu,hrun⟩:∃ u,VR w U ι ob p.1 u∧(Instr.lookup t (.map (some b)) k ok).run P w=.ok (if ok then .tuple #[u,.bool p.2] else u) w:=by
   cases r' with
   | none =>
    simp only [Tt] at h2
    subst h2
    simp only [nC,Jw] at hg
    obtain ⟨v,hv,rfl⟩:=hg
    refine ⟨dj g zs,xF hv (jZ hz2) ?_,?_⟩
    ·intro hgf
     subst hgf
     unfold Bc at hv
     split at hv
     ·contradiction
     ·rename_i hll;have:=congrArg List.length hll;simpa [gu] using this
     ·cases hv
    ·simp [Instr.lookup,run_underlying ht,hobj,d4 htk hd,hfind,hzrun]
   | some jx =>
    obtain ⟨j,x⟩:=jx
    simp only [Kv] at h2
    subst h2
    obtain ⟨_,row,cs,hrow,rfl,hc,hfr⟩:=h3 j x rfl
    simp only [nC,Km,Jw] at hg
    obtain ⟨row',hrow',v,hv,rfl⟩:=hg
    rw [Nat.sub_zero,hrow'] at hrow
    cases hrow
    refine ⟨dj g cs,xF hv (jK hfr) hc,?_⟩
    simp [Instr.lookup,run_underlying ht,hobj,d4 htk hd,hfind]
  subst hr
  refine aE hm hrun ?_
  cases ok with
  | true=>simp only [Js,VR,VF];exact ⟨_,rfl,_,_,rfl,hu,.bool p.2,[],rfl,bB rfl,rfl⟩
  | false=>simpa using hu
 split at hp
 ·rename_i agg' keys vals
  obtain ⟨hg,hp2⟩:=an hp
  simp only [Tf] at hg
  subst hg
  rw [Q.run_opt] at hp2
  simp only [VR,LR,DR] at hx
  obtain ⟨b,es,clock,rfl,hU,hb,hkr⟩:=hx
  exact main b es clock keys vals hb hkr hp2
 ·rename_i key
  simp only [Q.run] at hp
  split at hp
  ·rename_i agg' keys vals own hkey
   obtain ⟨hg,hp2⟩:=an hp
   simp only [Tf] at hg
   subst hg
   rw [Q.run_opt] at hp2
   simp only [VR,LR] at hx
   obtain ⟨_,_,_,_,h1,rfl⟩:=hx
   obtain ⟨es,clock,hb,hkr,_⟩:=hm.obj _ _ hkey
   exact main _ es clock keys vals hb hkr hp2
  ·simp [Q.run] at hp
 ·rw [Q.run_opt] at hp
  simp only [VR,LR,DR] at hx
  obtain ⟨rfl,_⟩:=hx
  simp only [nC,Jw] at hp
  obtain ⟨v,hv,rfl⟩:=hp
  have hu:VR w U ι ob v (dj g zs):=xF hv (jZ hz2) (by
   intro hgf
   subst hgf
   unfold Bc at hv
   split at hv
   ·contradiction
   ·rename_i hll;have:=congrArg List.length hll;simpa [gu] using this
   ·cases hv)
  subst hr
  refine aE hm (u:=if ok then .tuple #[dj g zs,.bool false] else dj g zs) ?_ ?_
  ·have hfind:(Instr.findKey kt k []).run P w=.ok none w:=by simp [Instr.findKey,run_underlying htk,Instr.findNow]
   simp [Instr.lookup,run_underlying ht,d4 htk hd,hfind,hzrun]
  ·cases ok with
   | true=>simp only [Js,VR,VF];exact ⟨_,rfl,_,_,rfl,hu,.bool false,[],rfl,bB rfl,rfl⟩
   | false=>simpa using hu
 ·simp [Q.run] at hp
theorem KR.push {agg:Bool} {row:List D} {cs:List Value} {k:Value} {n:Nat}:∀ {vals:List (List D)} {keys:List Value} {es:List MapEntry},KR w U agg keys es vals→plain k=true→(agg=false→cs.length=1)→FR w U row cs →
  KR w U agg (keys++[k]) (es++[{ key:=k,val:=dj agg cs,born:=n }]) (vals++[row])
 | [],keys,es,h,hp,hc,hf=>by
  simp only [KR] at h
  obtain ⟨rfl,rfl⟩:=h
  simp only [Ke,KR]
  exact ⟨k,[],_,[],cs,rfl,rfl,rfl,hp,rfl,hc,hf,rfl,rfl⟩
 | r::rs,keys,es,h,hp,hc,hf=>by
  simp only [KR] at h
  obtain ⟨k1,ks,e,es',cs1,rfl,rfl,h3,h4,h5,h6,h7,h8⟩:=h
  simp only [Kp,KR]
  exact ⟨k1,_,e,_,cs1,rfl,rfl,h3,h4,h5,h6,h7,KR.push h8 hp hc hf⟩
theorem KR.set_ {agg:Bool} {row:List D} {cs:List Value} {k:Value}:∀ {vals:List (List D)} {keys:List Value} {es:List MapEntry} {j:Nat},KR w U agg keys es vals→(∀ kk,keys[j]?=some kk→kk=k)→(agg=false→cs.length=1)→FR w U row cs →
  KR w U agg keys (es.modify j fun e=>{ e with key:=k,val:=dj agg cs }) (vals.set j row)
 | [],keys,es,j,h,_,_,_=>by
  simp only [KR] at h
  obtain ⟨rfl,rfl⟩:=h
  simp [KR]
 | r::rs,keys,es,j,h,hkk,hc,hf=>by
  simp only [KR] at h
  obtain ⟨k1,ks,e,es',cs1,rfl,rfl,h3,h4,h5,h6,h7,h8⟩:=h
  cases j with
  | zero =>
   have:=hkk k1 rfl
   subst this
   simp only [List.set_cons_zero,List.modify_zero_cons,KR]
   exact ⟨k1,ks,_,es',cs,rfl,rfl,rfl,h4,rfl,hc,hf,h8⟩
  | succ j =>
   simp only [List.set_cons_succ,List.modify_succ_cons,KR]
   exact ⟨k1,ks,e,_,cs1,rfl,rfl,h3,h4,h5,h6,h7,KR.set_ h8 (fun kk hk=>hkk kk (by simpa using hk)) hc hf⟩
theorem DY (a b:ByteArray):(a==b)=true↔a=b:=by
 rw [beq_toListBytes]
 simp only [Tf]
 constructor
 ·intro h
  rw [ByteArray.toList_eq,ByteArray.toList_eq] at h
  obtain ⟨⟨x⟩⟩:=a
  obtain ⟨⟨y⟩⟩:=b
  simp at h
  rw [h]
 ·rintro rfl;rfl
theorem xR {kd:Nat} {u v:Value} (h:BU kd u v=some true):v=u:=by
 unfold BU at h
 split at h
 ·split at h
  ·rename_i hk;simp at h;rw [hk,h]
  ·cases h
 ·simp only [Jm] at h;rw [(DY _ _).1 h]
 ·simp at h;rw [h]
 ·cases h
theorem Cg {kd:Nat} {u v:Value} (h:BU kd u v=some true) (n:Nat):Instr.sameBits n v u=true:=by
 have:=xR h
 subst this
 unfold BU at h
 split at h
 ·cases n<;>simp [Instr.sameBits]
 ·cases n<;>simp [Instr.sameBits,(DY _ _).2 rfl]
 ·cases n<;>simp [Instr.sameBits]
 ·cases h
theorem gF {d:TypeDesc} {kd:Nat} {k:Value} (hd:vm d=some kd):∀ {keys:List Value} {es:List MapEntry} {i:Nat} {r:Option Nat},es.map (·.key)=keys→cW kd k keys i=some r →
  ∃ r',Instr.findNow d k es i=some r'∧r'.map (·.1)=r∧(∀ j x,r'=some (j,x)→i≤j∧∃ e,es[j - i]?=some e∧x=e.val)
 | keys,[],i,r,hk,h=>by
  simp only [Ky] at hk
  subst hk
  simp only [cW,Jm] at h
  subst h
  exact ⟨none,rfl,rfl,by simp⟩
 | keys,e::es,i,r,hk,h=>by
  simp only [Jz] at hk
  subst hk
  simp only [cW] at h
  split at h
  ·rename_i heq
   cases h
   exact ⟨some (i,e.val),by simp only [Instr.findNow,ip hd heq],rfl,fun j x hx=>by cases hx;exact ⟨Kg _,e,by simp,rfl⟩⟩
  ·rename_i heq
   obtain ⟨r',h1,h2,h3⟩:=gF hd rfl h
   refine ⟨r',by simp only [Instr.findNow,ip hd heq];exact h1,h2,fun j x hx=>?_⟩
   obtain ⟨h5,e',h6,h7⟩:=h3 j x hx
   exact ⟨by omega,e',by rw [show j - i=(j - (i+1))+1 by omega];simpa using h6,h7⟩
  ·cases h
theorem ER.keys:∀ {ks:List Value} {xs:List L} {es:List MapEntry},ER w U ι ob ks xs es→es.map (·.key)=ks
 | [],[],[],_=>rfl
 | k::ks,x::xs,e::es,h=>by simp only [ER] at h;simp [h.2.1,ER.keys h.2.2.2]
 | [],[],_::_,h=>by simp [ER] at h
 | [],_::_,_,h=>by simp [ER] at h
 | _::_,[],_,h=>by simp [ER] at h
 | _::_,_::_,[],h=>by simp [ER] at h
theorem ER.at_:∀ {ks:List Value} {xs:List L} {es:List MapEntry},ER w U ι ob ks xs es→∀ {j:Nat} {x:L} {e:MapEntry},xs[j]?=some x→es[j]?=some e→LR w U ι ob x e.val
 | [],[],[],_,j,x,e,hx,_=>by simp at hx
 | k::ks,x::xs,e::es,h,0,y,m,hx,he=>by simp only [ER] at h;simp at hx he;subst hx;subst he;exact h.2.2.1
 | k::ks,x::xs,e::es,h,j+1,y,m,hx,he=>by simp only [ER] at h;exact h.2.2.2.at_ (by simpa using hx) (by simpa using he)
 | [],[],_::_,h,_,_,_,_,_=>by simp [ER] at h
 | [],_::_,_,h,_,_,_,_,_=>by simp [ER] at h
 | _::_,[],_,h,_,_,_,_,_=>by simp [ER] at h
 | _::_,_::_,[],h,_,_,_,_,_=>by simp [ER] at h
theorem ER.push {k:Value} {x:L} {u:Value} {n:Nat} (hp:plain k=true) (hx:LR w U ι ob x u):∀ {ks:List Value} {xs:List L} {es:List MapEntry},ER w U ι ob ks xs es→ER w U ι ob (ks++[k]) (xs++[x]) (es++[{ key:=k,val:=u,born:=n }])
 | [],[],[],_=>by simp only [Ke,ER];exact ⟨hp,by trivial,hx,trivial⟩
 | k::ks,x::xs,e::es,h=>by simp only [ER,Kp] at h ⊢;exact ⟨h.1,h.2.1,h.2.2.1,ER.push hp hx h.2.2.2⟩
 | [],[],_::_,h=>by simp [ER] at h
 | [],_::_,_,h=>by simp [ER] at h
 | _::_,[],_,h=>by simp [ER] at h
 | _::_,_::_,[],h=>by simp [ER] at h
theorem PR.keys:∀ {ks:List Value} {es:List MapEntry} {bs:List Nat},PR ks es bs→es.map (·.key)=ks
 | [],[],_,_=>rfl
 | k::ks,e::es,b::bs,h=>by simp only [PR] at h;simp [h.2.1,PR.keys h.2.2.2]
 | [],_::_,_,h=>by simp [PR] at h
 | _::_,[],_,h=>by simp [PR] at h
 | _::_,_::_,[],h=>by simp [PR] at h
theorem PR.at_:∀ {ks:List Value} {es:List MapEntry} {bs:List Nat},PR ks es bs→∀ {j:Nat} {e:MapEntry},es[j]?=some e→∃ b,bs[j]?=some b∧e.val=.pointer (some ⟨b,0,none⟩)
 | [],[],_,_,j,e,he=>by simp at he
 | k::ks,e::es,b::bs,h,0,m,he=>by simp only [PR] at h;simp at he;subst he;exact ⟨b,rfl,h.2.2.1⟩
 | k::ks,e::es,b::bs,h,j+1,m,he=>by simp only [PR] at h;simpa using h.2.2.2.at_ (by simpa using he)
 | [],_::_,_,h,_,_,_=>by simp [PR] at h
 | _::_,[],_,h,_,_,_=>by simp [PR] at h
 | _::_,_::_,[],h,_,_,_=>by simp [PR] at h
theorem PR.push {k:Value} {b n:Nat} (hp:plain k=true):∀ {ks:List Value} {es:List MapEntry} {bs:List Nat},PR ks es bs→bs[ks.length]?=some b→PR (ks++[k]) (es++[{ key:=k,val:=.pointer (some ⟨b,0,none⟩),born:=n }]) bs
 | [],[],[],_,hb=>by simp at hb
 | [],[],c::bs,_,hb=>by simp at hb;subst hb;simp only [Ke,PR];exact ⟨hp,by trivial,by trivial,trivial⟩
 | k::ks,e::es,c::bs,h,hb=>by simp only [PR,Kp] at h ⊢;exact ⟨h.1,h.2.1,h.2.2.1,PR.push hp h.2.2.2 (by simpa using hb)⟩
 | [],_::_,_,h,_=>by simp [PR] at h
 | _::_,[],_,h,_=>by simp [PR] at h
 | _::_,_::_,[],h,_=>by simp [PR] at h
theorem PR.more (cs:List Nat):∀ {ks:List Value} {es:List MapEntry} {bs:List Nat},PR ks es bs→PR ks es (bs++cs)
 | [],[],_,_=>by simp [PR]
 | k::ks,e::es,b::bs,h=>by simp only [PR,Kp] at h ⊢;exact ⟨h.1,h.2.1,h.2.2.1,PR.more cs h.2.2.2⟩
 | [],_::_,_,h=>by simp [PR] at h
 | _::_,[],_,h=>by simp [PR] at h
 | _::_,_::_,[],h=>by simp [PR] at h
theorem xW (hm:Mem w U ι ob) {t kd e key:Nat} {zs:List Value} {ux:Value} {k:Value} {r:cn} (hx:VR w U ι ob (.one (.mq key)) ux) (hk:mE P t=some kd) (he:et P t=some e) (hz:co P e=some zs) (hzg:(P.info? e).bind (·.zero)=some (dj false zs))
  (hr:(jY kd key k zs).run ob=some r):fy P w U ι ob (Instr.lookup t ux k false) r:=by
 obtain ⟨kt,e',d,ht,htk,hd⟩:=kO hk
 have:e'=e:=by simpa [et,ht] using he
 subst this
 obtain ⟨i0,z0,hi,hz0,hz1,hz2⟩:=dX hz
 have hz3:z0=dj false zs:=by rw [hi] at hzg;simpa [hz0] using hzg
 have hzrun:(zeroValue e').run P w=.ok (dj false zs) w:=by simp [zeroValue,gR hi,hz0,hz3]
 simp only [VR,LR] at hx
 obtain ⟨_,rfl⟩:=hx
 unfold jY at hr
 simp only [Q.run] at hr
 split at hr
 ·rename_i keys vals hkey
  obtain ⟨x,hx,hr⟩:=ab hr
  simp only [Q.run,Jm] at hr
  subst hr
  rw [Km] at hx
  obtain ⟨q,hq,hx⟩:=hx
  rw [Km] at hx
  obtain ⟨j,rfl,hx⟩:=hx
  obtain ⟨es,clock,hb,hE,_⟩:=hm.obj _ _ hkey
  obtain ⟨r',h1,h2,h3⟩:=gF hd hE.keys hq
  obtain ⟨⟨j',y⟩,rfl,h4⟩:=Jw.1 h2
  simp only at h4
  subst h4
  obtain ⟨_,e0,h5,rfl⟩:=h3 _ _ rfl
  rw [Nat.sub_zero] at h5
  have hobj:(getObj (ι key).1).run P w=.ok (.map es clock) w:=by simp [getObj,Sem.run,hb]
  have hfind:(Instr.findKey kt k es.toList).run P w=.ok (some (j',e0.val)) w:=by simp [Instr.findKey,run_underlying htk,h1]
  refine aE hm (u:=e0.val) (by simp [Instr.lookup,run_underlying ht,hobj,d4 htk hd,hfind]) ?_
  simp only [VR]
  exact hE.at_ hx h5
 ·rename_i keys rows size elem hkey
  obtain ⟨q,hq,hr⟩:=ab hr
  obtain ⟨es,clock,hb,hE,_⟩:=hm.obj _ _ hkey
  obtain ⟨r',h1,h2,h3⟩:=gF hd hE.keys hq
  have hobj:(getObj (ι key).1).run P w=.ok (.map es clock) w:=by simp [getObj,Sem.run,hb]
  have hfind:(Instr.findKey kt k es.toList).run P w=.ok r' w:=by simp [Instr.findKey,run_underlying htk,h1]
  cases q with
  | some j =>
   simp only [Q.run,Jm] at hr
   subst hr
   obtain ⟨⟨j',y⟩,rfl,h4⟩:=Jw.1 h2
   simp only at h4
   subst h4
   obtain ⟨_,e0,h5,rfl⟩:=h3 _ _ rfl
   rw [Nat.sub_zero] at h5
   refine aE hm (u:=e0.val) (by simp [Instr.lookup,run_underlying ht,hobj,d4 htk hd,hfind]) ?_
   obtain ⟨b,h6,h7⟩:=hE.at_ h5
   simp only [VR,LR]
   exact ⟨⟨keys,rows,size,elem,hkey⟩,b,h6,h7⟩
  | none =>
   have hr'n:r'=none:=by cases r'<;>simp at h2 ⊢
   subst hr'n
   dsimp only at hr
   split at hr
   ·rename_i z _
    simp only [Q.run,Jm] at hr
    subst hr
    exact aE hm (u:=z) (by simp [Instr.lookup,run_underlying ht,hobj,d4 htk hd,hfind,hzrun,dj]) (bB (by simpa using hz2))
   ·simp [Q.run] at hr
 ·simp [Q.run] at hr
theorem Br (hm:Mem w U ι ob) {t kd key:Nat} {g:Bool} {v:V} {ux uv:Value} {k:Value} {r:cn} (hx:VR w U ι ob (.one (.mq key)) ux) (hv:VR w U ι ob v uv) (hkp:plain k=true) (hk:mE P t=some kd)
  (hr:(l3 kd g (.one (.mq key)) k v).run ob=some r):wI P w U ι ob (Instr.mapUpdate t ux k uv) r:=by
 obtain ⟨kt,e',d,ht,htk,hd⟩:=kO hk
 simp only [VR,LR] at hx
 obtain ⟨_,rfl⟩:=hx
 simp only [l3,Q.run] at hr
 have hset:∀ {es clock},w.heap[(ι key).1]?=some (.map es clock)→∀ o:Obj,(setObj (ι key).1 o).run P w=.ok () { w with heap:=w.heap.setIfInBounds (ι key).1 o }:=fun hb o=>by simp [setObj,Sem.run,hb]
 have hrun:∀ {es clock keys},w.heap[(ι key).1]?=some (.map es clock)→es.toList.map (·.key)=keys→cW kd k keys 0=some none→(Instr.mapUpdate t (.map (some (ι key).1)) k uv).run P w=.ok () { w with heap:=w.heap.setIfInBounds (ι key).1 (.map (es.push { key:=k,val:=uv,born:=clock }) (clock+1)) }:=by
  intro es clock keys hb hkeys hq
  obtain ⟨r',f1,f2,f3⟩:=gF hd hkeys hq
  have hr'n:r'=none:=by cases r'<;>simp at f2 ⊢
  subst hr'n
  have hobj:(getObj (ι key).1).run P w=.ok (.map es clock) w:=by simp [getObj,Sem.run,hb]
  have hfind:(Instr.findKey kt k es.toList).run P w=.ok none w:=by simp [Instr.findKey,run_underlying htk,f1]
  simp [Instr.mapUpdate,run_underlying ht,hobj,d4 htk hd,hfind,hset hb]
 split at hr
 ·rename_i keys vals hkey
  replace hr:=(an hr).2
  split at hr
  ·rename_i x
   have hdef:=(an hr).1
   replace hr:=(an hr).2
   obtain ⟨q,hq,hr⟩:=ab hr
   cases q with
   | some j=>simp [Q.run] at hr
   | none =>
    simp only [Q.run,Jm] at hr
    subst hr
    obtain ⟨es,clock,hb,hE,hU⟩:=hm.obj _ _ hkey
    have hblk:=hm.block hkey
    obtain ⟨m1,m2⟩:=eC (w':={ w with heap:=w.heap.setIfInBounds (ι key).1 (.map (es.push { key:=k,val:=uv,born:=clock }) (clock+1)) }) hm key (.ml (keys++[k]) (vals++[x])) ((ι key).1,(ι key).2) rfl rfl rfl (by simp)
     (fun b hb' hbk=>by
      have hne:b≠(ι key).1:=hbk.resolve_left (by simp [hkey])
      simp [Ne.symm hne])
     (fun o ho=>by rw [hkey] at ho;cases ho;exact ⟨rfl,rfl⟩) (.inr ⟨by simp [hkey],rfl⟩) rfl
     (fun e2=>by
      refine ⟨es.push { key:=k,val:=uv,born:=clock },clock+1,by rw [ai];simp [hblk],?_,by rw [ai];exact hU⟩
      simp only [VR] at hv
      rw [Array.toList_push]
      exact ER.push hkp (LR.evo e2 _ _ hv) (ER.evo e2 _ _ _ hE))
    exact ⟨_,U,_,hrun hb hE.keys hq,m1,m2,rfl⟩
  ·simp [Q.run] at hr
 ·rename_i keys rows size elem hkey
  replace hr:=(an hr).2
  split at hr
  ·rename_i key' j
   have hg:=(an hr).1
   replace hr:=(an hr).2
   simp only [Jq] at hg
   obtain ⟨rfl,rfl,hlt⟩:=hg
   obtain ⟨q,hq,hr⟩:=ab hr
   cases q with
   | some j=>simp [Q.run] at hr
   | none =>
    simp only [Q.run,Jm] at hr
    subst hr
    obtain ⟨es,clock,hb,hE,hB,hU,hn⟩:=hm.obj _ _ hkey
    have hblk:=hm.block hkey
    simp only [VR,LR] at hv
    obtain ⟨_,b,hbj,rfl⟩:=hv
    have hn':=hn
    simp only [Pt.foot,Mc] at hn'
    obtain ⟨m1,m2⟩:=kL (w':={ w with heap:=w.heap.setIfInBounds (ι key').1 (.map (es.push { key:=k,val:=.pointer (some ⟨b,0,none⟩),born:=clock }) (clock+1)) }) hm key' (.am (keys++[k]) rows size elem) (ι key') rfl rfl rfl (by simp)
     (fun b hb' hbk=>by
      have hne:b≠(ι key').1:=fun e=>(hbk.resolve_left (by simp [hkey])) (by simp [Pt.foot,e])
      simp [Ne.symm hne])
     (fun o ho=>by rw [hkey] at ho;cases ho;exact ⟨rfl,rfl,rfl,rfl,List.prefix_refl _⟩) (fun c hc=>.inr ⟨by simp [hkey],hc⟩) (by simp [O.isAm]) rfl
     (fun e2=>by
      refine ⟨es.push { key:=k,val:=.pointer (some ⟨b,0,none⟩),born:=clock },clock+1,by rw [ai];simp [hblk],?_,?_,by rw [ai];exact hU,by rw [ai];exact hn⟩
      ·rw [ai,Array.toList_push]
       exact PR.push hkp hE hbj
      ·rw [ai]
       refine BR.evo e2.kept e2.sub _ _ (fun c hc=>⟨?_,(hB.lt hc).2⟩) hB
       have hne:c≠(ι key').1:=fun e=>hn'.1 (e ▸ hc)
       simp [Ne.symm hne])
    exact ⟨_,U,_,hrun hb hE.keys hq,m1,m2,rfl⟩
  ·simp [Q.run] at hr
 ·simp [Q.run] at hr
theorem Bw (hm:Mem w U ι ob) {dst:Option Nat} {x:V} {u:Value} {cs:List L} {e:Nat} {r:cn} (hx:VR w U ι ob x u) (hc:x.cells=some cs)
  (hr:(yw dst cs e).run ob=some r):fy P w U ι ob (Instr.box e u) r:=by
 unfold yw at hr
 split at hr
 ·rename_i k
  simp only [Q.run] at hr
  split at hr
  ·rename_i hk
   exact Dq hm hx hc (dst:=some k) (by simp only [fresh,Q.run,hk];exact hr)
  ·rename_i keys rows size elem hk
   have hg:=(an hr).1
   replace hr:=(an hr).2
   simp only [Jq] at hg
   obtain ⟨rfl,hsz⟩:=hg
   obtain ⟨⟨ds,us⟩,hfr,hr⟩:=aI hr
   obtain ⟨hus,hr⟩:=an hr
   simp only [List.isEmpty_iff] at hus
   subst hus
   simp only [Q.run,Jm] at hr
   subst hr
   have hcd:=i9 hfr
   subst hcd
   have hFR:=lk (VR.cells hx hc).1
   obtain ⟨es,clock,hb,hE,hB,hU,hn⟩:=hm.obj _ _ hk
   have old:∀ b,b < w.heap.size→(w.alloc (.cells u.cells elem)).heap[b]?=w.heap[b]?:=fun b hb=>by
    show (w.heap.push _)[b]?=_
    rw [Vb,Kc (by omega)]
   obtain ⟨m1,m2⟩:=kL (w':=w.alloc (.cells u.cells elem)) hm k (.am keys (rows++[ds]) size elem) ⟨(ι k).1,(ι k).2,(ι k).3++[w.heap.size]⟩ rfl rfl rfl (by simp) (fun b hb _=>old b hb)
    (fun o ho=>by rw [hk] at ho;cases ho;exact ⟨rfl,rfl,rfl,rfl,List.prefix_append _ _⟩)
    (fun c hc=>by
     simp only [Pt.foot,Ka,Kf,M5,T1] at hc
     rcases hc with rfl | hc | rfl
     ·exact .inr ⟨by simp [hk],by simp [Pt.foot]⟩
     ·exact .inr ⟨by simp [hk],by simp [Pt.foot,hc]⟩
     ·exact .inl (Kg _)) (by simp [O.isAm]) rfl
    (fun e2=>by
     refine ⟨es,clock,by rw [ai];simp only [];rw [old _ (hm.block hk)];exact hb,by rw [ai];exact hE.more _,?_,by rw [ai];exact hU,?_⟩
     ·rw [ai]
      exact BR.push (heap_alloc_new w _) (FR.mono e2.kept e2.sub _ _ hFR) (by simpa using hsz) (fun h=>absurd (hm.lt _ h) (by simp)) (BR.evo e2.kept e2.sub _ _ (fun c hc=>⟨old c (hB.lt hc).1,(hB.lt hc).2⟩) hB)
     ·rw [ai]
      simp only [Pt.foot] at hn ⊢
      rw [←Kp,Tm]
      exact ⟨hn,by simp,fun a ha b hb=>by
       simp at hb
       subst hb
       have:=hm.foot hk (b:=a) (by simpa [Pt.foot] using ha)
       omega⟩)
   refine ⟨.pointer (some ⟨w.heap.size,0,none⟩),_,U,_,by simp [Instr.box,newVar,newRow],m1,m2,?_⟩
   simp only [VR,LR,b5]
   exact ⟨⟨_,_,_,_,b8 _ _ _⟩,w.heap.size,by rw [ai];simp [←hB.len],rfl⟩
  ·simp [Q.run] at hr
 ·simp [Q.run] at hr
theorem vp (hm:Mem w U ι ob) {t kd:Nat} {g:Bool} {x v:V} {ux uv:Value} {k:Value} {r:cn} (hx:VR w U ι ob x ux) (hv:VR w U ι ob v uv) (hkp:plain k=true) (hk:mE P t=some kd)
  (hr:(l3 kd g x k v).run ob=some r):wI P w U ι ob (Instr.mapUpdate t ux k uv) r:=by
 obtain ⟨kt,e',d,ht,htk,hd⟩:=kO hk
 by_cases hq:∃ key,x=.one (.mq key)
 ·obtain ⟨key,rfl⟩:=hq
  exact Br hm hx hv hkp hk hr
 unfold l3 at hr
 split at hr
 ·exact absurd ⟨_,rfl⟩ hq
 ·rename_i key
  simp only [Q.run] at hr
  split at hr
  ·rename_i agg' keys vals own hkey
   obtain ⟨hg,hr2⟩:=an hr;clear hr
   simp only [Jn,Tf] at hg
   obtain ⟨⟨⟨rfl,rfl⟩,hva⟩,hik⟩:=hg
   obtain ⟨cs,hcs,hr⟩:=ab hr2;clear hr2
   obtain ⟨⟨ds,us⟩,hfr,hr2⟩:=aI hr;clear hr
   obtain ⟨hus,hr3⟩:=an hr2;clear hr2
   simp only [List.isEmpty_iff] at hus
   subst hus
   obtain ⟨q,hq,hr⟩:=ab hr3;clear hr3
   have hcd:=i9 hfr
   subst hcd
   obtain ⟨hl,_⟩:=VR.cells hv hcs
   have hFR:=lk hl
   have huv:uv=dj g uv.cells.toList∧(g=false→uv.cells.toList.length=1):=by
    cases v with
    | one y =>
     simp only [eM] at hva
     subst hva
     have hlen:=hFR.len
     simp only [V.cells] at hcs
     split at hcs
     ·rename_i hdef
      simp only [VR] at hv
      have:=(LR.cells hv hdef).1
      rw [this]
      exact ⟨rfl,fun _=>rfl⟩
     ·cases hcs
    | agg ys =>
     simp only [eM] at hva
     subst hva
     simp only [VR] at hv
     obtain ⟨vs,rfl,_⟩:=hv
     exact ⟨rfl,by simp⟩
    | tup ys=>simp [V.cells] at hcs
   simp only [VR,LR] at hx
   obtain ⟨_,_,_,_,h1,rfl⟩:=hx
   obtain ⟨es,clock,hb,hkr,hU⟩:=hm.obj _ _ hkey
   obtain ⟨r',f1,f2,f3,f4⟩:=lM hd hkr hq
   have hobj:(getObj (ι key).1).run P w=.ok (.map es clock) w:=by simp [getObj,Sem.run,hb]
   have hfind:(Instr.findKey kt k es.toList).run P w=.ok r' w:=by simp [Instr.findKey,run_underlying htk,f1]
   have hset:∀ o:Obj,(setObj (ι key).1 o).run P w=.ok () { w with heap:=w.heap.setIfInBounds (ι key).1 o }:=fun o=>by simp [setObj,Sem.run,hb]
   have hblk:=hm.block hkey
   have l9:∀ (es2:Array MapEntry) (clock2:Nat) (keys2:List Value) (vals2:List (List D)),KR w U g keys2 es2.toList vals2→(Instr.mapUpdate t (.map (some (ι key).1)) k uv).run P w=.ok () { w with heap:=w.heap.setIfInBounds (ι key).1 (.map es2 clock2) } →
     r=(.one .undef,[(key,.mp g keys2 vals2 true)])→wI P w U ι ob (Instr.mapUpdate t (.map (some (ι key).1)) k uv) r:=by
    intro es2 clock2 keys2 vals2 hk2 hrun hr'
    subst hr'
    obtain ⟨m1,m2⟩:=eC (w':={ w with heap:=w.heap.setIfInBounds (ι key).1 (.map es2 clock2) }) hm key (.mp g keys2 vals2 true) ((ι key).1,(ι key).2) rfl rfl rfl (by simp)
     (fun b hb' hbk=>by
      have hne:b≠(ι key).1:=hbk.resolve_left (by simp [hkey])
      simp [Ne.symm hne])
     (fun o ho=>by rw [hkey] at ho;cases ho;exact ⟨rfl,rfl,rfl⟩) (.inr ⟨by simp [hkey],rfl⟩) rfl
     (fun e2=>⟨es2,clock2,by rw [ai];simp [hblk],KR.mono e2.kept e2.sub _ _ _ _ hk2,by rw [ai];exact hU⟩)
    exact ⟨_,U,_,hrun,m1,m2,rfl⟩
   cases q with
   | none =>
    simp only [Q.run,Jm] at hr
    have hr'n:r'=none:=by cases r'<;>simp at f2 ⊢
    subst hr'n
    refine l9 (es.push { key:=k,val:=uv,born:=clock }) (clock+1) _ _ ?_ ?_ hr.symm
    ·have:=KR.push (n:=clock) hkr hkp huv.2 hFR
     rw [←huv.1] at this
     simpa using this
    ·simp [Instr.mapUpdate,run_underlying ht,hobj,d4 htk hd,hfind,hset]
   | some j =>
    simp only [Q.run,Jm] at hr
    obtain ⟨⟨j',x'⟩,rfl,hj'⟩:=Jw.1 f2
    simp only at hj'
    subst hj'
    obtain ⟨_,kk,hkk,hkeq⟩:=f4 j' rfl
    rw [Nat.sub_zero] at hkk
    have hkk':=xR hkeq
    have hold:((es[j']?).map (·.key)).getD k=k:=by
     cases hes:es[j']? with
     | none=>rfl
     | some e0 =>
      have aux:∀ {vals:List (List D)} {keys:List Value} {es:List MapEntry} {j:Nat} {e:MapEntry} {kk:Value},KR w U g keys es vals→es[j]?=some e→keys[j]?=some kk→e.key=kk:=by
       intro vals
       induction vals with
       | nil=>intro keys es j e kk h h1;simp only [KR] at h;obtain ⟨rfl,rfl⟩:=h;simp at h1
       | cons r rs ih =>
        intro keys es j e kk h h1 h2
        simp only [KR] at h
        obtain ⟨k1,ks,e1,es',cs1,rfl,rfl,h3,_,_,_,_,h8⟩:=h
        cases j with
        | zero=>simp at h1 h2;rw [←h1,← h2];exact h3
        | succ j=>exact ih h8 (by simpa using h1) (by simpa using h2)
      simp only [Kv,M4]
      rw [aux hkr (by simpa using hes) hkk,hkk']
    have hstay:(Instr.keyThatStays (((es[j']?).map (·.key)).getD k) k).run P w=.ok k w:=by
     rw [hold]
     have:Instr.sameBits 10000 k k=true:=by
      have h:=Cg hkeq 10000
      rwa [hkk'] at h
     simp [Instr.keyThatStays,this]
    refine l9 (es.modify j' fun e=>{ e with key:=k,val:=uv }) clock _ _ ?_ ?_ hr.symm
    ·have:=KR.set_ (j:=j') (k:=k) hkr (fun q hq=>by rw [hkk] at hq;cases hq;exact hkk') huv.2 hFR
     rw [←huv.1] at this
     simpa using this
    ·simp only [Instr.mapUpdate,Sem.run_bind,run_underlying ht,Result.andThen_ok,hobj,d4 htk hd,hfind,hstay,hset]
  ·simp [Q.run] at hr
 ·simp [Q.run] at hr
theorem tR (hm:Mem w U ι ob) {dst:Option Nat} {t e:Nat} {g:Bool} {o:O} {r:cn} (ho:xH P e g=some o) (hr:(fresh dst o (vi o)).run ob=some r):fy P w U ι ob (Instr.makeMap t none) r:=by
 have nU:¬ U w.heap.size:=fun h=>absurd (hm.lt _ h) (by simp)
 have cases3:(∃ s t',o=.am [] [] s t')∨o=.ml [] []∨o=.mp g [] [] true:=by
  unfold xH at ho
  split at ho
  ·simp only [Jw] at ho
   obtain ⟨s,_,rfl⟩:=ho
   exact .inl ⟨_,_,rfl⟩
  ·cases ho;exact .inr (.inl rfl)
  ·cases ho;exact .inr (.inr rfl)
 refine lI hm hr (u:=.map (some w.heap.size)) (obj:=.map #[] 0) (c:=0) (by simp [Instr.makeMap]) (by rcases cases3 with ⟨_,_,rfl⟩ | rfl | rfl<;>rfl) ?_ ?_
 ·intro k ι' ob' _ hι e'
  rcases cases3 with ⟨_,_,rfl⟩ | rfl | rfl
  ·exact ⟨#[],0,by rw [hι];exact heap_alloc_new w _,by simp [PR],by rw [hι];trivial,by rw [hι];exact nU,by rw [hι];simp [Pt.foot]⟩
  ·exact ⟨#[],0,by rw [hι];exact heap_alloc_new w _,by simp [ER],by rw [hι];exact nU⟩
  ·exact ⟨#[],0,by rw [hι];exact heap_alloc_new w _,by simp [KR],by rw [hι];simpa using nU⟩
 ·intro k ι' ob' ho hι
  rcases cases3 with ⟨_,_,rfl⟩ | rfl | rfl
  ·simp only [vi,VR,LR];exact ⟨.inr ⟨_,_,_,_,ho⟩,by rw [hι]⟩
  ·simp only [vi,VR,LR];exact ⟨.inl ⟨_,_,ho⟩,by rw [hι]⟩
  ·simp only [vi,VR,LR];exact ⟨g,[],[],true,ho,by rw [hι]⟩
end
section
open Go.RowKit
variable {P:Program} {w:World} {U:Nat→Prop} {ι:Pl} {ob:Ob}
theorem oC (hm:Mem w U ι ob) {k:Nat} {rows rows':List (List D)} {size elem:Nat} {cur:Array Value} (hk:ob k=some (.arr rows size elem true)) (hcur:w.heap[(ι k).1]?=some (.cells cur elem (0,0)))
  {new:List Value} (hnl:new.length=cur.size) (hlen:rows'.length=rows.length) (hrl:∀ r∈rows',r.length=size) {vs:List Value} (hvs:FR w U rows'.flatten vs) (hv:∀ (j:Nat) (u:Value),vs[j]?=some u→new[j]?=some u) :
  ∃ ι',Mem (w.setRow (ι k).1 new.toArray) U ι' (bN ob k (.arr rows' size elem true))∧Evo w U ι ob (w.setRow (ι k).1 new.toArray) U ι' (bN ob k (.arr rows' size elem true)):=by
 obtain ⟨cur',h2,h3,h4,h5,h6,h7⟩:=hm.obj k _ hk
 rw [hcur] at h2
 cases h2
 obtain ⟨m1,m2⟩:=eC (w':=w.setRow (ι k).1 new.toArray) hm k (.arr rows' size elem true) ((ι k).1,(ι k).2) rfl rfl rfl (by rw [im];exact Kg _)
  (fun b _ hb=>setRow_other _ _ _ _ (hb.resolve_left (by simp [hk]))) (fun o ho=>by rw [hk] at ho;cases ho;exact ⟨rfl,rfl,rfl,by omega,fun _=>rfl⟩) (.inr ⟨by simp [hk],rfl⟩) rfl
  (fun e'=>by
   refine ⟨_,by rw [ai];exact setRow_heap _ _ _ _ _ _ hcur,by rw [ai];simp only [];omega,by rw [ai];exact h4,by rw [ai];simp [hnl,h5],?_,by rw [ai];exact h7⟩
   rw [ai,ec]
   refine ⟨hrl,vs,FR.mono e'.kept e'.sub _ _ hvs,fun j u hj=>?_⟩
   rw [bC (setRow_heap _ _ _ _ _ _ hcur)]
   simpa using hv j u hj)
 exact ⟨_,m1,m2⟩
theorem xX (hm:Mem w U ι ob) {x:V} {ux:Value} {t ty e:Nat} {zs:List Value} {r:cn} (hx:VR w U ι ob x ux) (he:bY P t=some e) (hz:co P e=some zs) (hs0:0 < zs.length) (hr:(dE zs x).run ob=some r) :
  fy P w U ι ob (Builtin.clear_ #[t] ty #[ux]) r:=by
 obtain ⟨zv,hzv,hzc,hzp⟩:=tr (w:=w) hz
 have hu:=dO he
 unfold dE at hr
 split at hr
 ·simp only [Q.run,Jm] at hr
  subst hr
  simp only [VR,LR,DR] at hx
  obtain ⟨rfl,_⟩:=hx
  refine aE hm (u:=.tuple #[]) ?_ (by simp only [VR,VF];exact ⟨#[],rfl,rfl⟩)
  simp [Builtin.clear_,run_underlying hu]
 ·rename_i k off n c
  simp only [Q.run] at hr
  split at hr
  ·rename_i rows size elem own hk
   obtain ⟨hg,hr'⟩:=an hr
   simp only [Q.run,Jm] at hr'
   subst hr'
   clear hr
   simp only [Jn,Jq] at hg
   obtain ⟨hown,rfl,rfl,hofn⟩:=hg
   subst hown
   simp only [VR,LR] at hx
   obtain ⟨rows',size',elem',own',hk',_,hval,_⟩:=hx
   rw [hk] at hk'
   cases hk'
   obtain ⟨_,rfl⟩:=hval rfl
   obtain ⟨cur,h2,h3,h4,h5,h6,h7⟩:=hm.obj k _ hk
   rw [ec] at h6
   obtain ⟨hrl,vs,hvs,hcell⟩:=h6
   have hvl:vs.length=rows.length*zs.length:=by
    rw [hvs.len,bX (fun r hr=>hrl r hr)]
   have hvc:∀ (j:Nat) (u:Value),vs[j]?=some u→cur.toList[j]?=some u:=fun j u hj=>by
    have:=hcell j u hj
    rw [bC h2] at this
    simpa using this
   have hzsz:zv.cells.size=zs.length:=by rw [←hzc];simp
   have hzer:(Builtin.zeroCells zv.cells n).toList=(List.replicate n zs).flatten:=by
    have:=gC (z:=zv.cells) (n:=n) hzsz hs0
    rw [hzc] at this
    rw [←this]
    unfold Builtin.zeroCells
    rw [hzsz]
   have hzflen:(List.replicate n zs).flatten.length=n*zs.length:=by
    simp [List.length_flatten]
   have hcl:rows.length*zs.length≤cur.toList.length:=by
    have:=M8 zs.length h3
    rw [←h5] at this
    simpa using this
   have hmul:off*zs.length+n*zs.length=rows.length*zs.length:=by rw [←T0,hofn]
   have hone:∀ v∈(List.replicate n zs).flatten,v.oneCell'=true:=by
    intro v hv
    obtain ⟨l,hl,hv⟩:=List.mem_flatten.1 hv
    rw [(List.mem_replicate.1 hl).2] at hv
    exact rY (by simpa using (Kq.1 hzp) v hv)
   have hnl:(cur.toList.take (off*zs.length)++(List.replicate n zs).flatten++cur.toList.drop (off*zs.length+(List.replicate n zs).flatten.length)).length=cur.size:=by
    simp only [K0,M3,Tp,hzflen,Mw] at hcl ⊢
    omega
   obtain ⟨ι',m1,m2⟩:=oC hm hk h2 hnl (rows':=rows.take off++List.replicate n (zs.map .lit)) (by simp;omega)
    (fun r hr=>by
     rcases Kf.1 hr with hr | hr
     ·exact hrl r (Mp hr)
     ·rw [(List.mem_replicate.1 hr).2];simp)
    (vs:=vs.take (off*zs.length)++(List.replicate n zs).flatten)
    (by
     rw [Ta]
     have hto:(rows.take off).flatten=rows.flatten.take (off*zs.length):=by
      have e1:rows.flatten=(rows.take off).flatten++(rows.drop off).flatten:=by rw [←Ta,Mm]
      have e2:(rows.take off).flatten.length=off*zs.length:=by
       rw [bX (size:=zs.length) (fun r hr=>hrl r (Mp hr)),M3,Tu (by omega)]
      rw [e1,Tc (by omega),← e2,Mb]
     rw [hto]
     exact (hvs.take _).append (gx hzp n))
    (fun j u hj=>by
     by_cases hlt:j < off*zs.length
     ·rw [Ma (by rw [M3];omega),M9,K1 hlt] at hj
      rw [Kb,Ma (by rw [M3];omega),M9,K1 hlt]
      exact hvc j u hj
     ·have hl1:(vs.take (off*zs.length)).length=off*zs.length:=by rw [M3];omega
      have hl2:(cur.toList.take (off*zs.length)).length=off*zs.length:=by rw [M3];omega
      rw [T7 (by omega),hl1] at hj
      rw [Kb,T7 (by omega),hl2]
      have:=(K5.1 hj).1
      rw [Ma this]
      exact hj)
   by_cases hn:n=0
   ·subst hn
    have hoff:off=rows.length:=by omega
    have hself:bN ob k (.arr (rows.take off++List.replicate 0 (zs.map .lit)) zs.length elem true)=ob:=by
     funext j
     simp only [bN,hoff,Mb,List.replicate_zero,Kh]
     split
     ·rename_i e;rw [e,hk]
     ·rfl
    refine ⟨.tuple #[],w,U,ι,?_,?_,?_,by simp only [VR,VF];exact ⟨#[],rfl,rfl⟩⟩
    ·simp [Builtin.clear_,run_underlying hu]
    ·simp only [b5];rw [hself];exact hm
    ·simp only [b5];rw [hself];exact Evo.refl _ _ _ _
   ·have hrun:=run_storeCells_at P (ι k).1 (off*zs.length) elem (List.replicate n zs).flatten 0 cur w h2 (by rw [hzflen];simp only [Mw] at hcl;omega) hone
    simp only [Kk] at hrun
    refine ⟨.tuple #[],_,U,ι',?_,m1,m2,by simp only [VR,VF];exact ⟨#[],rfl,rfl⟩⟩
    cases n with
    | zero=>exact absurd rfl hn
    | succ n=>simp [Builtin.clear_,run_underlying hu,hzv,hzer,hrun]
  ·simp [Q.run] at hr
 ·simp [Q.run] at hr
theorem tZ {rs:List (List D)} {size:Nat} (h:∀ r∈rs,r.length=size) (n:Nat):(rs.take n).flatten=rs.flatten.take (n*size):=by
 induction rs generalizing n with
 | nil=>simp
 | cons r rs ih =>
  have hr:=h r (by simp)
  cases n with
  | zero=>simp
  | succ n=>simp only [Mn,Tv,ih (fun x hx=>h x (by simp [hx])),T0,Nat.one_mul,List.take_append,hr];rw [Kd (l:=r) (by omega),V0]
theorem u0 {rs:List (List D)} {size:Nat} (h:∀ r∈rs,r.length=size) (n:Nat):(rs.drop n).flatten=rs.flatten.drop (n*size):=by
 induction rs generalizing n with
 | nil=>simp
 | cons r rs ih =>
  have hr:=h r (by simp)
  cases n with
  | zero=>simp
  | succ n=>simp only [List.drop_succ_cons,Tv,ih (fun x hx=>h x (by simp [hx])),T0,Nat.one_mul,List.drop_append,hr];rw [List.drop_of_length_le (l:=r) (by omega),V0];rfl
theorem Bu (hm:Mem w U ι ob) {x y:V} {ux uy:Value} {t ty e sz:Nat} {new:List (List D)} {r:cn} (hx:VR w U ι ob x ux) (hy:VR w U ι ob y uy) (he:bY P t=some e) (hs:bj P e=some sz)
  (hsrc:(cl sz y).run ob=some new) (hr:(vJ sz x new).run ob=some r):fy P w U ι ob (Builtin.copy_ #[t,t] ty #[ux,uy]) r:=by
 obtain ⟨a,sn,sc,rfl,rfl,hnl,hnil,vs,hvs,hcell⟩:=xh hm hy hsrc
 have hu:=dO he
 unfold vJ at hr
 split at hr
 ·rename_i k n c
  simp only [Q.run] at hr
  split at hr
  ·rename_i rows size elem own hk
   have hg:=(an hr).1
   replace hr:=(an hr).2
   simp only [Q.run,Jm] at hr
   subst hr
   simp only [Jn,Jq] at hg
   obtain ⟨hown,rfl,rfl,rfl⟩:=hg
   subst hown
   simp only [VR,LR] at hx
   obtain ⟨rows',size',elem',own',hk',_,hval,_⟩:=hx
   rw [hk] at hk'
   cases hk'
   obtain ⟨_,rfl⟩:=hval rfl
   obtain ⟨cur,h2,h3,h4,h5,h6,h7⟩:=hm.obj k _ hk
   rw [ec] at h6
   obtain ⟨hrl,ws,hws,hwcell⟩:=h6
   have hwl:ws.length=rows.length*size:=by rw [hws.len,bX (fun r hr=>hrl r hr)]
   have hvl:vs.length=new.length*size:=by rw [hvs.len,bX (fun r hr=>hnl r hr)]
   have hwc:∀ (j:Nat) (u:Value),ws[j]?=some u→cur.toList[j]?=some u:=fun j u hj=>by
    have:=hwcell j u hj
    rw [bC h2] at this
    simpa using this
   have hcl:rows.length*size≤cur.toList.length:=by
    have:=M8 size h3
    rw [←h5] at this
    simpa using this
   have hul:(vs.take (rows.length*size)).length=Nat.min new.length rows.length*size:=by
    rw [M3,hvl]
    show min _ _=min _ _*size
    rcases Nat.le_total new.length rows.length with h | h
    ·rw [Tu h,Nat.min_eq_right (M8 _ h)]
    ·rw [Nat.min_eq_right h,Tu (M8 _ h)]
   have hule:(vs.take (rows.length*size)).length≤rows.length*size:=by rw [M3];omega
   have hone:∀ v∈vs.take (rows.length*size),v.oneCell'=true:=fun v hv=>hvs.one v (Mp hv)
   have hload:(Builtin.firstCells size (Nat.min new.length rows.length) (.slice a new.length sc)).run P w=.ok (vs.take (rows.length*size)).toArray w:=by
    cases a with
    | none =>
     have:=hnil rfl
     subst this
     have:vs=[]:=Tb (by simpa using hvl)
     subst this
     simp [Builtin.firstCells]
    | some ad =>
     have hl:=run_loadCells_list (P:=P) w ad (vs.take (rows.length*size)) (fun j u hu=>by
      rw [M9] at hu
      split at hu
      ·exact hcell ad rfl j u hu
      ·cases hu)
     rw [hul] at hl
     simpa [Builtin.firstCells] using hl
   have hst:=run_storeCells_at P (ι k).1 0 elem (vs.take (rows.length*size)) 0 cur w h2 (by simp only [Mw] at hcl;omega) hone
   simp only [Kk,Jv] at hst
   have hnlen:(cur.toList.take 0++vs.take (rows.length*size)++cur.toList.drop (vs.take (rows.length*size)).length).length=cur.size:=by
    simp only [K0,M3,Tp,Mw] at hcl ⊢
    omega
   obtain ⟨ι',m1,m2⟩:=oC hm hk h2 hnlen (rows':=new.take rows.length++rows.drop new.length) (by simp;omega)
    (fun r hr=>by
     rcases Kf.1 hr with hr | hr
     ·exact hnl r (Mp hr)
     ·exact hrl r (List.mem_of_mem_drop hr))
    (vs:=vs.take (rows.length*size)++ws.drop (new.length*size))
    (by
     rw [Ta,tZ hnl,u0 (fun r hr=>hrl r hr)]
     exact (hvs.take _).append (hws.drop _))
    (fun j u hj=>by
     simp only [List.take_zero,Ke]
     rw [V7] at hj ⊢
     split
     ·rename_i hlt;rw [K1 hlt] at hj;exact hj
     ·rename_i hlt
      rw [Kc hlt,Mt] at hj
      have h8:=(K5.1 hj).1
      rw [hwl] at h8
      have h9:new.length*size < rows.length*size:=by omega
      have h10:(vs.take (rows.length*size)).length=new.length*size:=by rw [M3,hvl];omega
      rw [Mt,h10]
      rw [h10] at hj
      exact hwc _ u hj)
   refine ⟨goInt (Nat.min new.length rows.length),_,U,ι',?_,m1,m2,?_⟩
   ·simp [Builtin.copy_,run_underlying hu,Builtin.lenOf,cp hs,hload,hst]
   ·simp only []
    rw [show min rows.length new.length=Nat.min new.length rows.length from Nat.min_comm _ _]
    exact bB rfl
  ·simp [Q.run] at hr
 ·simp [Q.run] at hr
theorem nS (w:World) (o:Obj) {b:Nat} (hb:b < w.heap.size):(w.alloc o).heap[b]?=w.heap[b]?:=by
 show (w.heap.push o)[b]?=_
 rw [Vb,Kc (by omega)]
theorem vh (hm:Mem w U ι ob) (obj:Obj):Mem (w.alloc obj) (fun b=>U b∨b=w.heap.size) ι ob∧Evo w U ι ob (w.alloc obj) (fun b=>U b∨b=w.heap.size) ι ob:=by
 have e:Evo w U ι ob (w.alloc obj) (fun b=>U b∨b=w.heap.size) ι ob :=
  ⟨rfl,rfl,rfl,by simp,fun b hb=>nS w obj (hm.lt b hb),fun _ h=>.inl h,fun _ cells _ h=>⟨cells,h,rfl⟩,fun _ rows _ _ own h=>⟨rows,own,h,Kg _,fun _=>rfl⟩,fun _ _ keys vals own h=>⟨keys,vals,own,h,rfl⟩,fun _ keys vals h=>⟨keys,vals,h,rfl⟩,fun _ keys rows _ _ h=>⟨keys,rows,h,rfl,List.prefix_refl _⟩,
   fun b hb _=>nS w obj hb,fun k o h ho b hb=>.inr ⟨k,o,h,ho,hb⟩,fun b h=>h.elim .inl fun h=>.inr (.inl (by omega))⟩
 refine ⟨⟨fun b hb=>?_,fun k o hk=>?_,hm.inj,hm.one⟩,e⟩
 ·have:(w.alloc obj).heap.size=w.heap.size+1:=by simp
  rcases hb with hb | rfl
  ·have:=hm.lt b hb;omega
  ·omega
 ·exact OR.evo e rfl (fun b hb=>nS w obj (hm.foot hk hb)) (fun b hb=>⟨fun h=>h.resolve_right (Nat.ne_of_lt (hm.foot hk hb)),.inl⟩) (hm.obj k o hk)
theorem vr (hm:Mem w U ι ob) {t e s len:Nat} {zs:List Value} {ρ:Operand→V} {ρ':Operand→Value} {parts:Array (Nat×Operand)} {rows:List (List D)} {us:List (Nat×O)}
  (hρ:∀ x,VR w U ι ob (ρ x) (ρ' x)) (he:bY P t=some e) (hs:bj P e=some s) (hz:co P e=some zs) (hs0:0 < s) (hzl:zs.length=s) (hlen:len*s≤16777216)
  (hrows:(dx ρ s (List.replicate len (zs.map .lit)) parts.toList).run ob=some (rows,us)) :
  fy P w U ι ob (Instr.buildSlice t len (parts.map fun (i,x)=>(i,ρ' x))) (.one (.d (.sl s rows)),us):=by
 obtain ⟨U',arr',m1,m2,m4,m5,hrl,hasz,m7,hrun⟩:=kj hm hρ he hs hz hs0 hzl hlen hrows
 obtain ⟨n1,n2⟩:=vh m1 (.cells arr' e)
 refine ⟨_,w.alloc (.cells arr' e),_,ι,hrun,n1,m2.trans n2,?_⟩
 simp only [VR,LR,DR]
 have hle:len≤len*s:=Nat.le_mul_of_pos_right _ hs0
 refine ⟨⟨w.heap.size,0,none⟩,len,by rw [hrl],by omega,by simp [maxLen];omega,fun _=>⟨w.heap.size,0,rfl,.inr rfl,?_⟩⟩
 have hnew:(w.alloc (.cells arr' e)).heap[w.heap.size]?=some (.cells arr' e (0,0)):=heap_alloc_new w _
 exact ec.2 ⟨m5,arr'.toList,FR.mono n2.kept n2.sub _ _ m4,fun j u hu=>by rw [bC hnew,Jv];simpa using hu⟩
theorem Bv (hm:Mem w U ι ob) {x:V} {u:Value} {cs:List L} {e:Nat} {r:cn} (hx:VR w U ι ob x u) (hc:x.cells=some cs)
  (hr:((dJ cs).bind fun (ds,us)=>.ret (.one (.d (.dp ds 0)),us)).run ob=some r):fy P w U ι ob (Instr.box e u) r:=by
 obtain ⟨⟨ds,us⟩,hf,hr⟩:=aI hr
 simp only [Q.run,Jm] at hr
 subst hr
 have hl:=(VR.cells hx hc).1
 obtain ⟨U1,m1,e1,f1,_⟩:=iw hf (SameBut.refl ob) hm hl
 obtain ⟨m2,e2⟩:=vh m1 (.cells u.cells e)
 refine ⟨.pointer (some ⟨w.heap.size,0,none⟩),w.alloc (.cells u.cells e),_,ι,by simp [Instr.box,newVar,newRow],m2,e1.trans e2,?_⟩
 simp only [VR,LR,DR]
 refine ⟨w.heap.size,0,rfl,.inr rfl,?_⟩
 rw [lT]
 refine ⟨u.cells.toList,FR.mono e2.kept e2.sub _ _ f1,fun j v hj=>?_⟩
 have hh:(w.alloc (.cells u.cells e)).heap[w.heap.size]?=some (.cells u.cells e):=heap_alloc_new w _
 rw [bC hh]
 simpa using hj
end
end Go.VE
