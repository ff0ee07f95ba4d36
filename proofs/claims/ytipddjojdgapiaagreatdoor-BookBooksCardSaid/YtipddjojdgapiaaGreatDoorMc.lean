/- The evaluator with functions run in place and ranges over functions. -/
import Derived.Test.YtipddjojdgapiaaGreatDoorMb
import Derived.RangeFuncRecord
import Derived.OrdersIn
import Derived.LoopNIn
import Derived.TacticsIn
import Derived.RangeFuncSeq
namespace Go.VE
open Go.RowKit
structure Bd where
 nt:Nat
 res:List ResultVar
 code:Code
structure S2 where
 env:List (Nat×V)
 ob:List (Nat×O)
 ys:List Nat
 pend:Option Ex
structure Cf where
 C:Cs
 inl:Nat→Option Bd
 live:Nat→Nat→Option (List Nat)
 draw:Nat→Nat→Array Oper→List (Nat×Nat)
 sum:Nat→Nat→Option (S2→Option (Ex×S2))
structure Fr where
 f:Nat
 b:Nat
 nt:Nat
 rng:Bool
 pr:List Nat
 top:Bool
abbrev Hd (α:Type):=List V→List (Nat×O)→(Option Ex→List (Nat×O)→Option α)→Option α
def freeK (ob:List (Nat×O)):Nat→Nat→Nat
 | 0,k=>k
 | n+1,k=>if ob.all fun p=>p.1 != k&&(Nat.blt p.1 (1000*(k+1))||Nat.ble (1000*(k+2)) p.1) then k else freeK ob n (k+1000000000)
def kd (ob:List (Nat×O)) (b:Nat) (dst:Option Nat):Option Nat:=match dst with
 | some d=>some (freeK ob 8 (b*1000+d))
 | none=>none
def dedup (l acc:List Nat):List Nat:=match l with
 | []=>acc
 | x::xs=>if acc.contains x then dedup xs acc else dedup xs (x::acc)
def objKeys (ob:List (Nat×O)):List Nat→List Nat
 | []=>[]
 | k::ks=>match rawO ob k with
  | some o=>o.keysOf++objKeys ob ks
  | none=>objKeys ob ks
def reach (ob:List (Nat×O)):Nat→List Nat→List Nat
 | 0,ks=>ks
 | n+1,ks=>reach ob n (dedup (objKeys ob ks) ks)
def gcO (pr:List Nat) (vs:List V) (ob:List (Nat×O)):Option (List (Nat×O)) :=
 let ks:=reach ob 6 (dedup (V.keysF vs) pr)
 let ob':=keepO ob ks
 if (vs.all fun v=>v.keysOf.all fun k=>ks.contains k)&&(ob'.all fun p=>p.2.keysOf.all fun k=>ks.contains k) then some ob' else none
def packVs:List V→V
 | [x]=>x
 | xs=>.tup xs
def envV:List V→Nat→List (Nat×V)
 | [],_=>[]
 | x::xs,i=>(i,x)::envV xs (i+1)
def setYs (ys:List Nat):Option Nat→List Nat
 | some d=>ys.filter (· != d)
 | none=>ys
def yOf (ys:List Nat):Operand→Bool
 | .tmp t=>ys.contains t
 | _=>false
def keysO (ob:List (Nat×O)):List Nat:=ob.map (·.1)
structure Keep (w:World) (U:Nat→Prop) (ι:Pl) (ob:Ob) (w':World) (U':Nat→Prop) (ι':Pl) (ob':Ob):Prop where
 kept:∀ b,U b→w'.heap[b]?=w.heap[b]?
 sub:∀ b,U b→U' b
 box:∀ k cells elem,ob k=some (.box cells elem)→∃ cells',ob' k=some (.box cells' elem)∧(ι' k).1=(ι k).1
 arr:∀ k rows size elem own,ob k=some (.arr rows size elem own)→∃ rows' own',ob' k=some (.arr rows' size elem own')∧rows.length≤rows'.length∧(rows'.length=rows.length→ι' k=ι k)
 mp:∀ k agg keys vals own,ob k=some (.mp agg keys vals own)→∃ keys' vals' own',ob' k=some (.mp agg keys' vals' own')∧(ι' k).1=(ι k).1
 ml:∀ k keys vals,ob k=some (.ml keys vals)→∃ keys' vals',ob' k=some (.ml keys' vals')∧(ι' k).1=(ι k).1
 am:∀ k keys rows size elem,ob k=some (.am keys rows size elem)→∃ keys' rows',ob' k=some (.am keys' rows' size elem)∧(ι' k).1=(ι k).1∧(ι k).3 <+: (ι' k).3
section
variable {w w':World} {U U':Nat→Prop} {ι ι':Pl} {ob ob':Ob}
theorem Evo.keep (h:Evo w U ι ob w' U' ι' ob'):Keep w U ι ob w' U' ι' ob':=⟨h.kept,h.sub,h.box,h.arr,h.mp,h.ml,h.am⟩
theorem Keep.trans {w'':World} {U'':Nat→Prop} {ι'':Pl} {ob'':Ob} (h:Keep w U ι ob w' U' ι' ob') (k:Keep w' U' ι' ob' w'' U'' ι'' ob''):Keep w U ι ob w'' U'' ι'' ob'':=by
 refine ⟨fun b hb=>(k.kept b (h.sub b hb)).trans (h.kept b hb),fun b hb=>k.sub b (h.sub b hb),?_,?_,?_,?_,?_⟩
 ·intro q cells elem hq
  obtain ⟨c',h1,h2⟩:=h.box q cells elem hq
  obtain ⟨c'',h3,h4⟩:=k.box q c' elem h1
  exact ⟨c'',h3,h4.trans h2⟩
 ·intro q rows size elem own hq
  obtain ⟨r',o',h1,h2,h3⟩:=h.arr q rows size elem own hq
  obtain ⟨r'',o'',h4,h5,h6⟩:=k.arr q r' size elem o' h1
  exact ⟨r'',o'',h4,Nat.le_trans h2 h5,fun e=>(h6 (by omega)).trans (h3 (by omega))⟩
 ·intro q agg keys vals own hq
  obtain ⟨k1,v1,o1,h1,h2⟩:=h.mp q agg keys vals own hq
  obtain ⟨k2,v2,o2,h3,h4⟩:=k.mp q agg k1 v1 o1 h1
  exact ⟨k2,v2,o2,h3,h4.trans h2⟩
 ·intro q keys vals hq
  obtain ⟨k1,v1,h1,h2⟩:=h.ml q keys vals hq
  obtain ⟨k2,v2,h3,h4⟩:=k.ml q k1 v1 h1
  exact ⟨k2,v2,h3,h4.trans h2⟩
 ·intro q keys rows size elem hq
  obtain ⟨k1,v1,h1,h2,h2'⟩:=h.am q keys rows size elem hq
  obtain ⟨k2,v2,h3,h4,h4'⟩:=k.am q k1 v1 size elem h1
  exact ⟨k2,v2,h3,h4.trans h2,h2'.trans h4'⟩
end
mutual
theorem LR.keep {w w':World} {U U':Nat→Prop} {ι ι':Pl} {ob ob':Ob} (e:Keep w U ι ob w' U' ι' ob'):∀ (x:L) (v:Value),LR w U ι ob x v→LR w' U' ι' ob' x v
 | .d x,v,h=>by simp only [LR] at h ⊢;exact DR.mono e.kept e.sub x v h
 | .slk k off n c,v,h=>by
  simp only [LR] at h ⊢
  obtain ⟨rows,size,elem,own,h1,h2,h3,h4⟩:=h
  obtain ⟨r',o',h5,h6,h7⟩:=e.arr k rows size elem own h1
  exact ⟨r',size,elem,o',h5,by omega,fun hc=>by rw [h7 (by omega)];exact h3 (by omega),h4⟩
 | .pa k i off c,v,h=>by
  simp only [LR] at h ⊢
  obtain ⟨rows,size,elem,own,h1,h2,h3,h4⟩:=h
  obtain ⟨r',o',h5,h6,h7⟩:=e.arr k rows size elem own h1
  exact ⟨r',size,elem,o',h5,by omega,fun hc=>by rw [h7 (by omega)];exact h3 (by omega),h4⟩
 | .ptr k off,v,h=>by
  simp only [LR] at h ⊢
  obtain ⟨cells,elem,h1,h2⟩:=h
  obtain ⟨c',h3,h4⟩:=e.box k cells elem h1
  exact ⟨c',elem,h3,by rw [h4];exact h2⟩
 | .fn f caps,v,h=>by
  simp only [LR] at h ⊢
  obtain ⟨cs,e1,hr⟩:=h
  exact ⟨cs,e1,LF.keep e caps cs.toList hr⟩
 | .mk k,v,h=>by
  simp only [LR] at h ⊢
  obtain ⟨agg,keys,vals,own,h1,h2⟩:=h
  obtain ⟨k1,v1,o1,h3,h4⟩:=e.mp k agg keys vals own h1
  exact ⟨agg,k1,v1,o1,h3,by rw [h4];exact h2⟩
 | .mq k,v,h=>by
  simp only [LR] at h ⊢
  obtain ⟨h1 | ⟨keys,rows,size,elem,h1⟩,h2⟩:=h
  ·obtain ⟨keys,vals,h1⟩:=h1
   obtain ⟨k1,v1,h3,h4⟩:=e.ml k keys vals h1
   exact ⟨.inl ⟨k1,v1,h3⟩,by rw [h4];exact h2⟩
  ·obtain ⟨k1,v1,h3,h4,_⟩:=e.am k keys rows size elem h1
   exact ⟨.inr ⟨k1,v1,_,_,h3⟩,by rw [h4];exact h2⟩
 | .pb k j off,v,h=>by
  simp only [LR] at h ⊢
  obtain ⟨⟨keys,rows,size,elem,h1⟩,b,h2,h3⟩:=h
  obtain ⟨k1,v1,h4,_,h5⟩:=e.am k keys rows size elem h1
  obtain ⟨t,ht⟩:=h5
  exact ⟨⟨k1,v1,_,_,h4⟩,b,by rw [←ht,List.getElem?_append_left (List.getElem?_eq_some_iff.1 h2).1];exact h2,h3⟩
 | .sln k n,v,h=>by
  simp only [LR] at h ⊢
  refine h.imp id ?_
  rintro ⟨h0,rows,size,elem,own,h1,h2,h3,h4⟩
  obtain ⟨r',o',h5,h6,h7⟩:=e.arr k rows size elem own h1
  exact ⟨h0,r',size,elem,o',h5,by omega,fun hc=>by rw [h7 (by omega)];exact h3 (by omega),h4⟩
 | .undef,v,h=>by simp [LR]
theorem LF.keep {w w':World} {U U':Nat→Prop} {ι ι':Pl} {ob ob':Ob} (e:Keep w U ι ob w' U' ι' ob'):∀ (xs:List L) (vs:List Value),LF w U ι ob xs vs→LF w' U' ι' ob' xs vs
 | [],vs,h=>by simpa [LF] using h
 | x::xs,vs,h=>by
  simp only [LF] at h ⊢
  obtain ⟨v,vs',e1,h1,h2⟩:=h
  exact ⟨v,vs',e1,LR.keep e x v h1,LF.keep e xs vs' h2⟩
end
mutual
theorem VR.keep {w w':World} {U U':Nat→Prop} {ι ι':Pl} {ob ob':Ob} (e:Keep w U ι ob w' U' ι' ob'):∀ (x:V) (v:Value),VR w U ι ob x v→VR w' U' ι' ob' x v
 | .one x,v,h=>by simp only [VR] at h ⊢;exact LR.keep e x v h
 | .agg xs,v,h=>by
  simp only [VR] at h ⊢
  obtain ⟨cs,e1,hr⟩:=h
  exact ⟨cs,e1,LF.keep e xs cs.toList hr⟩
 | .tup xs,v,h=>by
  simp only [VR] at h ⊢
  obtain ⟨cs,e1,hr⟩:=h
  exact ⟨cs,e1,VF.keep e xs cs.toList hr⟩
theorem VF.keep {w w':World} {U U':Nat→Prop} {ι ι':Pl} {ob ob':Ob} (e:Keep w U ι ob w' U' ι' ob'):∀ (xs:List V) (vs:List Value),VF w U ι ob xs vs→VF w' U' ι' ob' xs vs
 | [],vs,h=>by simpa [VF] using h
 | x::xs,vs,h=>by
  simp only [VF] at h ⊢
  obtain ⟨v,vs',e1,h1,h2⟩:=h
  exact ⟨v,vs',e1,VR.keep e x v h1,VF.keep e xs vs' h2⟩
end
end Go.VE
namespace Go.VE
open Go.RowKit
variable {P:Program}
structure Base where
 w:World
 U:Nat→Prop
 ι:Pl
 ob:Ob
def Off (U:Nat→Prop) (ι:Pl) (ob:Ob) (z:Nat):Prop:=¬ U z∧∀ k o,ob k=some o→o.owned=true→z∉(ι k).foot
def Zs (w:World) (U:Nat→Prop) (ι:Pl) (ob:Ob) (zs:List (Nat×Obj)):Prop:=∀ p∈zs,w.heap[p.1]?=some p.2∧Off U ι ob p.1
section
variable {w w':World} {U U':Nat→Prop} {ι ι':Pl} {ob ob':Ob} {B:Base}
theorem Off.evo {z:Nat} (h:Off U ι ob z) (hz:z < w.heap.size) (e:Evo w U ι ob w' U' ι' ob'):Off U' ι' ob' z:=by
 refine ⟨fun hU=>?_,fun k o hk ho heq=>?_⟩
 ·rcases e.orig z hU with h1 | h1 | ⟨k,o,h1,h2,h3⟩
  ·exact h.1 h1
  ·omega
  ·exact h.2 k o h1 h2 h3
 ·rcases e.ownd k o hk ho z heq with h1 | ⟨k0,o0,h1,h2,h3⟩
  ·omega
  ·exact h.2 k0 o0 h1 h2 h3
theorem lt_of_get {l:Nat} {o:Obj} (h:w.heap[l]?=some o):l < w.heap.size:=(Array.getElem?_eq_some_iff.1 h).1
theorem Zs.evo {zs:List (Nat×Obj)} (h:Zs w U ι ob zs) (e:Evo w U ι ob w' U' ι' ob'):Zs w' U' ι' ob' zs:=fun p hp=>by
 obtain ⟨h1,h2⟩:=h p hp
 exact ⟨(e.same p.1 (lt_of_get h1) fun k o hk ho=>h2.2 k o hk ho).trans h1,h2.evo (lt_of_get h1) e⟩
structure Turn (w w':World) (X:Nat→Prop):Prop where
 os:w'.os=w.os
 tape:w'.tape=w.tape
 output:w'.output=w.output
 size:w.heap.size≤w'.heap.size
 same:∀ b,b < w.heap.size→¬ X b→w'.heap[b]?=w.heap[b]?
theorem Turn.refl (w:World) (X:Nat→Prop):Turn w w X:=⟨rfl,rfl,rfl,Nat.le_refl _,fun _ _ _=>rfl⟩
theorem Turn.drawn (w:World) (n:Nat) (X:Nat→Prop):Turn w { w with drawn:=n } X:=⟨rfl,rfl,rfl,Nat.le_refl _,fun _ _ _=>rfl⟩
theorem Turn.put (w:World) (l:Nat) (o:Obj):Turn w (w.putObj l o) (fun b=>b=l):=⟨rfl,rfl,rfl,by simp,fun b _ h=>World.putObj_heap_other h⟩
theorem Turn.alloc (w:World) (o:Obj) (X:Nat→Prop):Turn w (w.alloc o) X:=⟨rfl,rfl,rfl,by simp,fun b hb _=>Below.heap_alloc w o b hb⟩
theorem Turn.trans {w'':World} {X:Nat→Prop} (h:Turn w w' X) (k:Turn w' w'' X):Turn w w'' X :=
 ⟨k.os.trans h.os,k.tape.trans h.tape,k.output.trans h.output,Nat.le_trans h.size k.size,fun b hb hx=>(k.same b (Nat.lt_of_lt_of_le hb h.size) hx).trans (h.same b hb hx)⟩
theorem Turn.keep {X:Nat→Prop} (t:Turn w w' X) (hm:Mem w U ι ob) (hX:∀ b,X b→Off U ι ob b):Keep w U ι ob w' U ι ob :=
 ⟨fun b hb=>t.same b (hm.lt b hb) fun hx=>(hX b hx).1 hb,fun _ h=>h,fun _ cells _ h=>⟨cells,h,rfl⟩,fun _ rows _ _ own h=>⟨rows,own,h,Nat.le_refl _,fun _=>rfl⟩,fun _ _ keys vals own h=>⟨keys,vals,own,h,rfl⟩,fun _ keys vals h=>⟨keys,vals,h,rfl⟩,fun _ keys rows _ _ h=>⟨keys,rows,h,rfl,List.prefix_refl _⟩⟩
theorem ER.keep {w w':World} {U U':Nat→Prop} {ι ι':Pl} {ob ob':Ob} (e:Keep w U ι ob w' U' ι' ob'):∀ (ks:List Value) (xs:List L) (es:List MapEntry),ER w U ι ob ks xs es→ER w' U' ι' ob' ks xs es
 | [],[],[],_=>trivial
 | k::ks,x::xs,m::es,h=>by
  simp only [ER] at h ⊢
  exact ⟨h.1,h.2.1,LR.keep e x _ h.2.2.1,ER.keep e ks xs es h.2.2.2⟩
 | [],[],_::_,h=>by simp [ER] at h
 | [],_::_,_,h=>by simp [ER] at h
 | _::_,[],_,h=>by simp [ER] at h
 | _::_,_::_,[],h=>by simp [ER] at h
theorem Turn.mem {X:Nat→Prop} (t:Turn w w' X) (hm:Mem w U ι ob) (hX:∀ b,X b→Off U ι ob b):Mem w' U ι ob:=by
 have hk:=t.keep hm hX
 have hblk:∀ k o,ob k=some o→∀ b∈(ι k).foot,w'.heap[b]?=w.heap[b]?:=by
  intro k o hko b hbf
  refine t.same _ (hm.foot hko hbf) fun hx=>?_
  cases ho:o.owned with
  | true=>exact (hX _ hx).2 k o hko ho hbf
  | false=>exact (hX _ hx).1 (hm.footU' hko ho hbf)
 refine ⟨fun b hb=>Nat.lt_of_lt_of_le (hm.lt b hb) t.size,fun k o hko=>?_,hm.inj,hm.one,hm.lay.mono hk.kept hk.sub⟩
 have h0:=hm.obj k o hko
 have hbf:=hblk k o hko
 have hb:=hbf (ι k).1 (by simp [Pt.foot])
 cases o with
 | box cells elem =>
  obtain ⟨cur,a,b,c⟩:=h0
  exact ⟨cur,hb.trans a,LF.keep hk _ _ b,c⟩
 | arr rows size elem own =>
  obtain ⟨cur,a,b,c,d,e,f⟩:=h0
  exact ⟨cur,hb.trans a,b,c,d,RR.mono hk.kept (fun _ h=>h) _ hb _ _ _ e,f⟩
 | mp agg keys vals own =>
  obtain ⟨es,clock,a,b,c⟩:=h0
  exact ⟨es,clock,hb.trans a,KR.mono hk.kept (fun _ h=>h) _ _ _ _ b,c⟩
 | ml keys vals =>
  obtain ⟨es,clock,a,b,c⟩:=h0
  exact ⟨es,clock,hb.trans a,ER.keep hk _ _ _ b,c⟩
 | am keys rows size elem =>
  obtain ⟨es,clock,a,b,c,d⟩:=h0
  exact ⟨es,clock,hb.trans a,b,BR.evo hk.kept (fun _ h=>h) _ _ (fun x hx=>⟨hbf x (by simp [Pt.foot,hx]),(c.lt hx).2⟩) c,d⟩
 | nul=>exact h0.elim
theorem Turn.evo {X:Nat→Prop} (t:Turn w w' X) (hm:Mem w U ι ob) (hX:∀ b,X b→Off U ι ob b∧B.w.heap.size≤b) (e:Evo B.w B.U B.ι B.ob w U ι ob):Evo B.w B.U B.ι B.ob w' U ι ob:=by
 have hk:=t.keep hm (fun b h=>(hX b h).1)
 exact ⟨t.os.trans e.os,t.tape.trans e.tape,t.output.trans e.output,Nat.le_trans e.size t.size,fun b hb=>(hk.kept b (e.sub b hb)).trans (e.kept b hb),e.sub,e.box,e.arr,e.mp,e.ml,e.am,
  fun b hb hn=>(t.same b (Nat.lt_of_lt_of_le hb e.size) fun hx=>by have:=(hX b hx).2;omega).trans (e.same b hb hn),e.ownd,e.orig⟩
theorem Turn.zs {X:Nat→Prop} {zs:List (Nat×Obj)} (t:Turn w w' X) (h:Zs w U ι ob zs) (hX:∀ p∈zs,¬ X p.1):Zs w' U ι ob zs:=fun p hp=>by
 obtain ⟨h1,h2⟩:=h p hp
 exact ⟨(t.same _ (lt_of_get h1) (hX p hp)).trans h1,h2⟩
theorem sub_up {ob ob':Ob} (hs:∀ k,ob' k=ob k∨ob' k=none) {k:Nat} {o:O} (h:ob' k=some o):ob k=some o:=by
 rcases hs k with h1 | h1
 ·rw [h1] at h;exact h
 ·rw [h1] at h;cases h
theorem Mem.sub (hm:Mem w U ι ob) (hs:∀ k,ob' k=ob k∨ob' k=none) (hc:∀ k o,ob' k=some o→∀ j∈o.keysOf,ob' j=ob j):Mem w U ι ob':=by
 have up:∀ {k o},ob' k=some o→ob k=some o:=fun {k o} h=>by exact sub_up hs h
 exact ⟨hm.lt,fun k o hk=>OR.ofKeys (fun j hj=>hc k _ hk j hj) (hm.obj k o (up hk)),fun k k' o o' hk hk'=>hm.inj k k' o o' (up hk) (up hk'),fun k o hk=>hm.one k o (up hk),hm.lay⟩
theorem Evo.subO (e:Evo B.w B.U B.ι B.ob w U ι ob) (hs:∀ k,ob' k=ob k∨ob' k=none) (hb:∀ k,B.ob k≠none→ob' k=ob k):Evo B.w B.U B.ι B.ob w U ι ob':=by
 have up:∀ {k o},ob' k=some o→ob k=some o:=fun {k o} h=>by exact sub_up hs h
 refine ⟨e.os,e.tape,e.output,e.size,e.kept,e.sub,?_,?_,?_,?_,?_,e.same,fun k o hk=>e.ownd k o (up hk),e.orig⟩
 ·intro k cells elem hk;rw [hb k (by rw [hk];simp)];exact e.box k cells elem hk
 ·intro k rows size elem own hk;rw [hb k (by rw [hk];simp)];exact e.arr k rows size elem own hk
 ·intro k agg keys vals own hk;rw [hb k (by rw [hk];simp)];exact e.mp k agg keys vals own hk
 ·intro k keys vals hk;rw [hb k (by rw [hk];simp)];exact e.ml k keys vals hk
 ·intro k keys rows size elem hk;rw [hb k (by rw [hk];simp)];exact e.am k keys rows size elem hk
theorem Zs.sub {zs:List (Nat×Obj)} (h:Zs w U ι ob zs) (hs:∀ k,ob' k=ob k∨ob' k=none):Zs w U ι ob' zs:=fun p hp=>by
 obtain ⟨h1,h2,h3⟩:=h p hp
 refine ⟨h1,h2,fun k o hk=>h3 k o ?_⟩
 exact sub_up hs hk
end
theorem dedup_acc:∀ (l acc:List Nat) (k:Nat),k∈acc→k∈dedup l acc
 | [],acc,k,h=>h
 | x::xs,acc,k,h=>by
  simp only [dedup]
  split
  ·exact dedup_acc xs acc k h
  ·exact dedup_acc xs _ k (List.mem_cons_of_mem _ h)
theorem reach_acc (ob:List (Nat×O)):∀ (n:Nat) (ks:List Nat) (k:Nat),k∈ks→k∈reach ob n ks
 | 0,_,_,h=>h
 | n+1,_,k,h=>reach_acc ob n _ k (dedup_acc _ _ k h)
theorem gc_ok {pr:List Nat} {vs:List V} {ob ob':List (Nat×O)} (h:gcO pr vs ob=some ob') :
  (∀ k,getO ob' k=getO ob k∨getO ob' k=none)∧(∀ k∈pr,getO ob' k=getO ob k)∧(∀ v∈vs,∀ k∈v.keysOf,getO ob' k=getO ob k)∧∀ k o,getO ob' k=some o→∀ j∈o.keysOf,getO ob' j=getO ob j:=by
 unfold gcO at h
 simp only at h
 split at h
 ·rename_i hc
  cases h
  simp only [Bool.and_eq_true,List.all_eq_true,List.contains_iff_mem] at hc
  obtain ⟨h1,h2⟩:=hc
  have kp:∀ k,k∈reach ob 6 (dedup (V.keysF vs) pr)→getO (keepO ob (reach ob 6 (dedup (V.keysF vs) pr))) k=getO ob k:=fun k hk=>by rw [getO_keepO,if_pos hk]
  refine ⟨fun k=>?_,fun k hk=>kp k (reach_acc _ _ _ _ (dedup_acc _ _ _ hk)),fun v hv k hk=>kp k (h1 v hv k hk),fun k o hk j hj=>?_⟩
  ·rw [getO_keepO];split<;>simp
  ·rw [getO_keepO] at hk
   split at hk
   ·rename_i hkk
    exact kp j (h2 (k,o) (mem_keepO hkk hk) j hj)
   ·cases hk
 ·cases h
theorem mem_keysO:∀ {ob:List (Nat×O)} {k:Nat},getO ob k≠none→k∈keysO ob
 | [],k,h=>by simp [getO] at h
 | (j,o)::r,k,h=>by
  simp only [getO] at h
  simp only [keysO,List.map_cons,List.mem_cons]
  by_cases hk:k=j
  ·exact .inl hk
  ·rw [if_neg hk] at h;exact .inr (mem_keysO h)
def marks (ds:List Nat):List Deferred:=ds.map fun D=>{ target:=.collected D,args:=#[] }
def dzs (ds:List Nat):List (Nat×Obj):=ds.map fun D=>(D,.deferred (some []))
def Sim2 (B:Base) (zs:List (Nat×Obj)) (nt:Nat) (rng:Bool) (yv:Value) (env:Nat→V) (ob:Ob) (ys:List Nat) (a:Act) (w:World):Prop :=
 ∃ (U:Nat→Prop) (ι:Pl) (ds:List Nat),Mem w U ι ob∧Evo B.w B.U B.ι B.ob w U ι ob∧Zs w U ι ob (dzs ds++zs)∧a.defers=marks ds∧ds.Nodup∧(∀ D∈ds,B.w.heap.size≤D)∧(rng=false→ds=[]) ∧
  a.tmps.size=nt∧(∀ t,VR w U ι ob (env t) (a.tmps.getD t undef))∧∀ t∈ys,a.tmps.getD t undef=yv
theorem mem_setYs {ys:List Nat} {dst:Option Nat} {t:Nat} (h:t∈setYs ys dst):t∈ys∧dst≠some t:=by
 cases dst with
 | none=>exact ⟨h,by simp⟩
 | some d =>
  simp only [setYs,List.mem_filter,bne_iff_ne] at h
  exact ⟨h.1,by simpa using Ne.symm h.2⟩
theorem sim2_put {B:Base} {zs:List (Nat×Obj)} {nt:Nat} {rng:Bool} {yv:Value} {w w':World} {U U':Nat→Prop} {ι ι':Pl} {env:Nat→V} {ob ob':Ob} {ys:List Nat} {ds:List Nat} {a:Act} {dst:Option Nat} {v:V} {u:Value}
  (he0:Evo B.w B.U B.ι B.ob w U ι ob) (hz:Zs w U ι ob (dzs ds++zs)) (hdf:a.defers=marks ds) (hnd:ds.Nodup) (hds:∀ D∈ds,B.w.heap.size≤D) (hrg:rng=false→ds=[]) (hsz:a.tmps.size=nt) (hv:∀ t,VR w U ι ob (env t) (a.tmps.getD t undef)) (hy:∀ t∈ys,a.tmps.getD t undef=yv) (hd:dstOK nt dst=true)
  (hm:Mem w' U' ι' ob') (he:Evo w U ι ob w' U' ι' ob') (hu:VR w' U' ι' ob' v u):Sim2 B zs nt rng yv (putF dst v env) ob' (setYs ys dst) (a.put dst u) w':=by
 have hlt:∀ d,dst=some d→d < a.tmps.size:=fun d hdd=>by rw [hdd] at hd;rw [hsz];simpa [dstOK] using hd
 refine ⟨U',ι',ds,hm,he0.trans he,hz.evo he,by rw [put_defers,hdf],hnd,hds,hrg,by rw [put_size,hsz],fun t=>?_,fun t ht=>?_⟩
 ·rw [put_get a dst u t hlt]
  simp only [putF]
  split
  ·exact hu
  ·exact VR.evo he _ _ (hv t)
 ·obtain ⟨h1,h2⟩:=mem_setYs ht
  rw [put_get a dst u t hlt,if_neg h2]
  exact hy t h1
theorem sim2_skip {B:Base} {zs:List (Nat×Obj)} {nt:Nat} {rng:Bool} {yv:Value} {w:World} {env:Nat→V} {ob:Ob} {ys:List Nat} {a:Act} (hs:Sim2 B zs nt rng yv env ob ys a w) {dst:Option Nat} (hd:dstOK nt dst=true):Sim2 B zs nt rng yv (putF dst (.tup []) env) ob (setYs ys dst) (a.put dst undef) w:=by
 obtain ⟨U,ι,ds,hm,he0,hz,hdf,hnd,hds,hrg,hsz,hv,hy⟩:=hs
 exact sim2_put he0 hz hdf hnd hds hrg hsz hv hy hd hm (Evo.refl _ _ _ _) (by simp only [VR,VF];exact ⟨#[],rfl,rfl⟩)
theorem Sim2.turn {B:Base} {zs:List (Nat×Obj)} {nt:Nat} {rng:Bool} {yv:Value} {w:World} {env:Nat→V} {ob:Ob} {ys:List Nat} {a:Act} (hs:Sim2 B zs nt rng yv env ob ys a w) (n:Nat):Sim2 B zs nt rng yv env ob ys a { w with drawn:=n }:=by
 obtain ⟨U,ι,ds,hm,he0,hz,hdf,hnd,hds,hrg,hsz,hv,hy⟩:=hs
 have t:=Turn.drawn w n (fun _=>False)
 exact ⟨U,ι,ds,t.mem hm (fun _ h=>h.elim),t.evo hm (fun _ h=>h.elim) he0,t.zs hz (fun _ _ h=>h),hdf,hnd,hds,hrg,hsz,fun x=>VR.keep (t.keep hm (fun _ h=>h.elim)) _ _ (hv x),hy⟩
end Go.VE
namespace Go.VE
open Go.RowKit
variable {P:Program} {κ:Oper→Option Nat}
def FW (ro:Option Nat):Fence:={ Fence.wide with round:=ro }
@[simp] theorem FW_round (ro:Option Nat):(FW ro).round=ro:=rfl
theorem FW_fn (ro:Option Nat) (f:Nat):(FW ro).fn f:=trivial
theorem callsIn_FW {ro:Option Nat} {n:Nat} {f:Nat} {as:Array Value} {w:World} {R:Ending→World→Prop} (h:Calls P f as w R):CallsIn (FW ro) n P f as w R:=callsIn_wide.2 h
theorem opQ_defer {C:Cs} {dst:Option Nat} {ρ:Operand→V} {op:Op} {ob:Ob} {r:Res} (h:(opQ C P dst ρ op).run ob=some r):∀ c,op≠.defer c:=by
 rintro c rfl
 simp [opQ,calleeOf,invOf,aop,Q.run] at h
theorem opQ_wpIn {C:Cs} (hC:∀ f ds r,C f ds=some r→SC P f ds r) {B:Base} {zs:List (Nat×Obj)} {nt:Nat} {rng:Bool} {yv:Value} {w:World} {env:Nat→V} {ob:Ob} {ys:List Nat} {a:Act} {o:Oper} {key:Option Nat} {r:Res} (hs:Sim2 B zs nt rng yv env ob ys a w)
  (h:(opQ C P key (ev env) o.op).run ob=some r) (hd:dstOK nt o.dst=true) {ro:Option Nat} {m:Nat} {K:Act→World→Prop} {R:Exit→Act→World→Prop} (hK:∀ a' w',Sim2 B zs nt rng yv (putF o.dst r.1 env) (putO ob r.2) (setYs ys o.dst) a' w'→K a' w'):o.wpIn (FW ro) m P a w K R:=by
 obtain ⟨U,ι,ds,hm,he0,hz,hdf,hnd,hds,hrg,hsz,hv,hy⟩:=hs
 have hρ:=ev_VR hv
 have hsem:o.semAt (FW ro).round a.eval=execOp a.eval o:=Oper.semAt_eq _ _ _ (opQ_defer h)
 unfold Oper.wpIn
 refine ⟨fun f _=>FW_fn ro f,?_⟩
 rw [hsem]
 unfold opQ at h
 split at h
 ·rename_i fo args hc
  obtain ⟨as,ts,hop,rfl⟩:=calleeOf_some hc
  split at h
  ·rename_i f caps hf
   obtain ⟨d,op,ty,pos,after,guard⟩:=o
   simp only at hop h hd hK
   subst hop
   obtain ⟨vs,h1,h2⟩:=call_good hm hC hρ hf h d ty pos after guard
   rw [h1]
   refine ⟨fun hc=>(by cases hc),CallsIn.mono (callsIn_FW h2) fun e w' ⟨v,U',ι',he,m1,m2,m3⟩=>?_⟩
   subst he
   exact hK _ _ (sim2_put he0 hz hdf hnd hds hrg hsz hv hy hd m1 m2 m3)
  ·split at h
   ·rename_i f caps hf
    obtain ⟨d,op,ty,pos,after,guard⟩:=o
    simp only at hop h hd hK
    subst hop
    obtain ⟨vs,h1,h2⟩:=callB_good hm hC hρ hf h d ty pos after guard
    rw [h1]
    refine ⟨fun hc=>(by cases hc),CallsIn.mono (callsIn_FW h2) fun e w' ⟨v,U',ι',he,m1,m2,m3⟩=>?_⟩
    subst he
    exact hK _ _ (sim2_put he0 hz hdf hnd hds hrg hsz hv hy hd m1 m2 m3)
   ·simp [Q.run] at h
 split at h
 ·rename_i recv name hc
  obtain ⟨as,ts,hop,ha⟩:=invOf_some hc
  split at h
  ·rename_i f rvv hf
   obtain ⟨d,op,ty,pos,after,guard⟩:=o
   simp only at hop h hd hK
   subst hop
   obtain ⟨vs,h1,h2⟩:=inv_good hm hC hρ ha hf h d ty pos after guard
   rw [h1]
   refine ⟨fun hc=>(by cases hc),CallsIn.mono (callsIn_FW h2) fun e w' ⟨v,U',ι',he,m1,m2,m3⟩=>?_⟩
   subst he
   exact hK _ _ (sim2_put he0 hz hdf hnd hds hrg hsz hv hy hd m1 m2 m3)
  ·simp [Q.run] at h
 ·obtain ⟨nx,w',U',ι',h1,m1,m2,m3⟩:=aop_good (P:=P) hm hρ { o with dst:=key } h
  have h1':(execOp a.eval o).run P w=.ok nx w':=h1
  rw [h1']
  rcases m3 with ⟨v,rfl,m3⟩ | ⟨rfl,m3⟩
  ·exact hK _ _ (sim2_put he0 hz hdf hnd hds hrg hsz hv hy hd m1 m2 m3)
  ·exact hK _ _ (sim2_put he0 hz hdf hnd hds hrg hsz hv hy hd m1 m2 (by rw [m3];simp [VR,LR]))
abbrev SimE (B:Base) (zs:List (Nat×Obj)) (nt:Nat) (rng:Bool) (yv:Value) (env:Nat→V) (ob:Ob) (a:Act) (w:World):Prop:=Sim2 B zs nt rng yv env ob [] a w
theorem Sim2.skip0 {B:Base} {zs:List (Nat×Obj)} {nt:Nat} {rng:Bool} {yv:Value} {w:World} {env:Nat→V} {ob:Ob} {a:Act} (hs:Sim2 B zs nt rng yv env ob [] a w) (dst:Option Nat):Sim2 B zs nt rng yv (putF dst (.tup []) env) ob [] (a.put dst undef) w:=by
 obtain ⟨U,ι,ds,hm,he0,hz,hdf,hnd,hds,hrg,hsz,hv,hy⟩:=hs
 refine ⟨U,ι,ds,hm,he0,hz,by rw [put_defers,hdf],hnd,hds,hrg,by rw [put_size,hsz],fun t=>?_,fun t ht=>by cases ht⟩
 have und:VR w U ι ob (.tup []) undef:=by simp only [VR,VF];exact ⟨#[],rfl,rfl⟩
 simp only [putF]
 cases dst with
 | none=>simpa [Act.put] using hv t
 | some d =>
  simp only [Act.put,Option.some.injEq,Array.getD_eq_getD_getElem?,Array.getElem?_setIfInBounds]
  by_cases h:d=t
  ·subst h
   simp only [if_true]
   split<;>exact und
  ·have:=hv t
   rw [Array.getD_eq_getD_getElem?] at this
   simpa [h] using this
def Dd (o:Nat→Oper) (j i:Nat):Prop:=∃ e∈(o i).after.toList,Region.binds .any e=true∧e.on=j
def dirE (ops:Array Oper) (i:Nat):List Nat:=match ops[i]? with
 | some o=>(o.after.toList.filter fun e=>Region.binds .any e).map (·.on)
 | none=>[]
inductive Anc (ops:Array Oper):Nat→Nat→Prop where
 | one {j i:Nat}:j∈dirE ops i→Anc ops j i
 | step {j m i:Nat}:m∈dirE ops i→Anc ops j m→Anc ops j i
def ancs (ops:Array Oper):Nat→List (List Nat)
 | 0=>[]
 | n+1=>dedup (dirE ops n++(dirE ops n).flatMap fun e=>if e < n then (ancs ops n).getD (n - 1 - e) [] else []) []::ancs ops n
theorem dedup_mem:∀ {l acc:List Nat} {k:Nat},k∈dedup l acc→k∈l∨k∈acc
 | [],acc,k,h=>.inr h
 | x::xs,acc,k,h=>by
  simp only [dedup] at h
  split at h
  ·rcases dedup_mem h with h | h
   ·exact .inl (List.mem_cons_of_mem _ h)
   ·exact .inr h
  ·rcases dedup_mem h with h | h
   ·exact .inl (List.mem_cons_of_mem _ h)
   ·rcases List.mem_cons.1 h with rfl | h
    ·exact .inl (List.mem_cons_self ..)
    ·exact .inr h
theorem ancs_ok {ops:Array Oper}:∀ {n i j:Nat},i < n→j∈(ancs ops n).getD (n - 1 - i) []→Anc ops j i
 | n+1,i,j,hi,h=>by
  simp only [ancs] at h
  by_cases hin:i=n
  ·subst hin
   rw [show i+1 - 1 - i=0 by omega,List.getD_cons_zero] at h
   rcases dedup_mem h with h | h
   ·rcases List.mem_append.1 h with h | h
    ·exact .one h
    ·obtain ⟨e,he,h⟩:=List.mem_flatMap.1 h
     split at h
     ·rename_i hlt;exact .step he (ancs_ok hlt h)
     ·cases h
   ·cases h
  ·rw [show n+1 - 1 - i=(n - 1 - i)+1 by omega,List.getD_cons_succ] at h
   exact ancs_ok (by omega) h
def regOK2 (ops:Array Oper) (pairs:List (Nat×Nat)):Bool :=
 (List.range ops.size).all fun i=>match ops[i]? with
  | none=>true
  | some oi=>(oi.after.toList.all fun e=>!Region.binds .any e||decide (e.on < i)) &&
   (List.range i).all fun j=>match ops[j]? with
    | none=>true
    | some oj=>(((ancs ops ops.size).getD (ops.size - 1 - i) []).contains j)||(Oper.apart ops oj oi&&(memFree oj.op oi.op||pairs.contains (j,i)))
def drawsOK2 (dr:Nat→Array Oper→List (Nat×Nat)):Code→Bool
 | .region id ops true=>regOK2 ops (dr id ops)
 | .seq a b=>drawsOK2 dr a&&drawsOK2 dr b
 | .cond _ a b=>drawsOK2 dr a&&drawsOK2 dr b
 | .block _ c=>drawsOK2 dr c
 | .loop c=>drawsOK2 dr c
 | .rangeFunc _ _ a b=>drawsOK2 dr a&&drawsOK2 dr b
 | _=>true
theorem setYs_nil (dst:Option Nat):setYs [] dst=[]:=by cases dst<;>rfl
end Go.VE
namespace Go.VE
open Go.RowKit
variable {P:Program}
abbrev Zo:=Oper→X→Res→List Nat→Prop
structure ZAt (Z:Zo) (ops:Array Oper) (o:Oper) (x:X) (r:Option Res) (R:List Nat):Prop where
 gate:gateSt ops o x.1 r.isSome
 run:∀ q,r=some q→Z o x q R
 skip:r=none→R=[]
structure ZOK (P:Program) (nt:Nat) (ops:Array Oper) (Rp:Ob→Prop) (Z:Zo):Prop where
 agree:∀ {o:Oper} {x y:X} {q:Res} {R:List Nat},Z o x q R→(∀ t∈o.looksAt ops,y.1 t=x.1 t)→(∀ k∈R,y.2 k=x.2 k)→Z o y q R
 ng:∀ {o:Oper} {x:X} {q:Res} {R:List Nat},Z o x q R→clsOf o.op=0→q.2=[]∧R=[]
 nu:∀ {o:Oper} {x:X} {q:Res} {R:List Nat},Z o x q R→clsOf o.op=1→q.2=[]
 rep:∀ {o:Oper} {x:X} {q:Res} {R:List Nat},Z o x q R→Rp x.2→Rp (putO x.2 q.2)
 sound:∀ {o:Oper} {x:X} {q:Res} {R:List Nat} {B:Base} {zs:List (Nat×Obj)} {rng:Bool} {yv:Value} {a:Act} {w:World} {ro:Option Nat} {m:Nat} {K:Act→World→Prop} {RR:Exit→Act→World→Prop},
  Z o x q R→Rp x.2→SimE B zs nt rng yv x.1 x.2 a w→(∀ a' w',SimE B zs nt rng yv (putF o.dst q.1 x.1) (putO x.2 q.2) a' w'→K a' w')→o.wpIn (FW ro) m P a w K RR
section
variable {Z:Zo} {Rp:Ob→Prop} {nt:Nat} {ops:Array Oper}
theorem ZAt.agree (hZ:ZOK P nt ops Rp Z) {o:Oper} {x y:X} {r:Option Res} {R:List Nat} (h:ZAt Z ops o x r R) (h1:∀ t∈o.looksAt ops,y.1 t=x.1 t) (h2:∀ k∈R,y.2 k=x.2 k):ZAt Z ops o y r R:=by
 refine ⟨?_,fun q hq=>hZ.agree (h.run q hq) h1 h2,h.skip⟩
 have:=h.gate
 unfold gateSt at this ⊢
 split
 ·rename_i hg;rw [hg] at this;exact this
 ·rename_i j want hg
  rw [hg] at this
  obtain ⟨gt,h3,h4⟩:=this
  refine ⟨gt,h3,?_⟩
  have:y.1 gt=x.1 gt:=h1 gt (List.mem_append_right _ (by rw [hg];simp only [gateTmp] at h3;simp [h3]))
  rw [this]
  exact h4
theorem ZAt.mem_free (hZ:ZOK P nt ops Rp Z) {oi oj:Oper} {xi xj:X} {ri rj:Option Res} {Ri Rj:List Nat} (h:memFree oj.op oi.op=true) (hi:ZAt Z ops oi xi ri Ri) (hj:ZAt Z ops oj xj rj Rj) :
  (∀ k∈wr rj,k∉Ri)∧(∀ k∈wr rj,k∉wr ri)∧∀ k∈Rj,k∉wr ri:=by
 have c0:∀ {o:Oper} {x:X} {r:Option Res} {R:List Nat},ZAt Z ops o x r R→clsOf o.op=0→wr r=[]∧R=[]:=by
  intro o x r R h hc
  cases r with
  | none=>exact ⟨rfl,h.skip rfl⟩
  | some q =>
   obtain ⟨a,b⟩:=hZ.ng (h.run q rfl) hc
   exact ⟨by simp [wr,a],b⟩
 have c1:∀ {o:Oper} {x:X} {r:Option Res} {R:List Nat},ZAt Z ops o x r R→clsOf o.op=1→wr r=[]:=by
  intro o x r R h hc
  cases r with
  | none=>rfl
  | some q=>simp [wr,hZ.nu (h.run q rfl) hc]
 simp only [memFree,Bool.or_eq_true,Bool.and_eq_true,beq_iff_eq] at h
 rcases h with (h | h) | ⟨h,h'⟩
 ·obtain ⟨a,b⟩:=c0 hj h
  rw [a,b]
  simp
 ·obtain ⟨a,b⟩:=c0 hi h
  rw [a,b]
  simp
 ·rw [c1 hj h,c1 hi h']
  simp
end
def LexZ (Z:Zo) (ops:Array Oper):List Oper→X→List (Option Res×List Nat)→X→Prop
 | [],x,[],y=>x=y
 | o::rest,x,(r,R)::rs,y=>ZAt Z ops o x r R∧LexZ Z ops rest (app o r x) rs y
 | _,_,_,_=>False
def NotedZ (Z:Zo) (ops:Array Oper) (pairs:List (Nat×Nat)) (rest:List Oper) (i:Nat) (log:List (List Nat×List Nat)) (x y:X):Prop :=
 ∃ recs,LexZ Z ops rest x recs y∧∀ p∈pairs,∀ m q R,recs[m]?=some (some q,R)→p.2=i+m→∃ a,(log++recs.map rwOf)[p.1]?=some a∧disj a (R,wr (some q))
section
variable {Z:Zo} {ops:Array Oper} {pairs:List (Nat×Nat)}
theorem notedZ_run {o:Oper} {rest:List Oper} {i:Nat} {log:List (List Nat×List Nat)} {x y:X} {res:Res} {R:List Nat}
  (hok:ZAt Z ops o x (some res) R) (hc:∀ p∈pairs,p.2=i→∃ a,log[p.1]?=some a∧disj a (R,wr (some res)))
  (h:NotedZ Z ops pairs rest (i+1) (log++[(R,wr (some res))]) (app o (some res) x) y):NotedZ Z ops pairs (o::rest) i log x y:=by
 obtain ⟨recs,g1,g3⟩:=h
 refine ⟨(some res,R)::recs,⟨hok,g1⟩,?_⟩
 intro p hp m q R' hm hpm
 cases m with
 | zero =>
  simp only [List.getElem?_cons_zero,Option.some.injEq,Prod.mk.injEq] at hm
  obtain ⟨rfl,rfl⟩:=hm
  obtain ⟨a,h1,h2⟩:=hc p hp (by omega)
  refine ⟨a,?_,h2⟩
  rw [List.getElem?_append_left (List.getElem?_eq_some_iff.1 h1).1]
  exact h1
 | succ m =>
  obtain ⟨a,h1,h2⟩:=g3 p hp m q R' (by simpa using hm) (by omega)
  refine ⟨a,?_,h2⟩
  rw [List.append_assoc] at h1
  exact h1
theorem notedZ_skip {o:Oper} {rest:List Oper} {i:Nat} {log:List (List Nat×List Nat)} {x y:X}
  (hok:ZAt Z ops o x none []) (h:NotedZ Z ops pairs rest (i+1) (log++[([],[])]) (app o none x) y):NotedZ Z ops pairs (o::rest) i log x y:=by
 obtain ⟨recs,g1,g3⟩:=h
 refine ⟨(none,[])::recs,⟨hok,g1⟩,?_⟩
 intro p hp m q R' hm hpm
 cases m with
 | zero=>simp at hm
 | succ m =>
  obtain ⟨a,h1,h2⟩:=g3 p hp m q R' (by simpa using hm) (by omega)
  refine ⟨a,?_,h2⟩
  rw [List.append_assoc] at h1
  exact h1
theorem LexZ.index {d:Oper}:∀ {rest:List Oper} {x y:X} {recs:List (Option Res×List Nat)},LexZ Z ops rest x recs y→recs.length=rest.length ∧
  (∀ i,i < rest.length→ZAt Z ops (rest.getD i d) (T (fun i=>rest.getD i d) (fun i=>(recs.getD i (none,[])).1) (fun _=>true) x i) (recs.getD i (none,[])).1 (recs.getD i (none,[])).2) ∧
  y=T (fun i=>rest.getD i d) (fun i=>(recs.getD i (none,[])).1) (fun _=>true) x rest.length
 | [],x,y,[],h=>⟨rfl,fun i hi=>by simp at hi,h.symm⟩
 | o::rest,x,y,(r,R)::recs,h=>by
  obtain ⟨h1,h2⟩:=h
  obtain ⟨h3,h4,h5⟩:=LexZ.index (d:=d) h2
  have sh:∀ i,T (fun i=>(o::rest).getD i d) (fun i=>(((r,R)::recs).getD i (none,[])).1) (fun _=>true) x (i+1)=T (fun i=>rest.getD i d) (fun i=>(recs.getD i (none,[])).1) (fun _=>true) (app o r x) i:=by
   intro i
   induction i with
   | zero=>simp [T]
   | succ i ih=>rw [T,ih];simp [T]
  refine ⟨by simp [h3],fun i hi=>?_,?_⟩
  ·cases i with
   | zero=>simpa [T] using h1
   | succ i =>
    rw [sh]
    have:=h4 i (by simpa using hi)
    simpa using this
  ·rw [List.length_cons,sh];exact h5
 | [],_,_,_::_,h=>h.elim
 | _::_,_,_,[],h=>h.elim
end
theorem draw_mainZ {Z:Zo} {Rp:Ob→Prop} {nt:Nat} {ops:Array Oper} (hZ:ZOK P nt ops Rp Z) {B:Base} {zs:List (Nat×Obj)} {rng:Bool} {yv:Value} {ro:Option Nat} {m:Nat} {R:Exit→Act→World→Prop} {o:Nat→Oper} {rc:Nat→Option Res} {RR:Nat→List Nat} {E:Nat→Nat→Prop} {x0:X}
  (ho:∀ i,i < ops.size→ops[i]?=some (o i)) (hp:Plan ops ops.size o rc RR E) (hD:∀ i j,Dd o j i→E j i) (hE:∀ i j,E j i→Dd o j i∨∃ m,Dd o m i∧E j m)
  (hok:∀ i,i < ops.size→ZAt Z ops (o i) (T o rc (fun _=>true) x0 i) (rc i) (RR i))
  (hR:∀ a w,SimE B zs nt rng yv (T o rc (fun _=>true) x0 ops.size).1 (T o rc (fun _=>true) x0 ops.size).2 a w→R .normal a w) :
  ∀ (fuel:Nat) (L:Array Bool) (a:Act) (w:World),L.size=ops.size→cnt L ops.size≤fuel→(∀ j,j < ops.size→L.getD j true=true→∀ e,E e j→L.getD e true=true) →
   Rp (T o rc (fun i=>L.getD i true) x0 ops.size).2→SimE B zs nt rng yv (T o rc (fun i=>L.getD i true) x0 ops.size).1 (T o rc (fun i=>L.getD i true) x0 ops.size).2 a w→wpAnyIn (FW ro) m P .any ops R fuel L a w:=by
 have nil:∀ (L:Array Bool),L.size=ops.size→Region.ready .any ops L=[]→∀ i,i < ops.size→L.getD i true=true:=by
  intro L hL hr i
  induction i using Nat.strongRecOn with
  | ind i ih =>
   intro hi
   by_cases hl:L.getD i true=true
   ·exact hl
   ·exfalso
    have:i∈Region.ready .any ops L:=by
     unfold Region.ready
     refine List.mem_filter.2 ⟨List.mem_range.2 hi,?_⟩
     simp only [ho i hi,Option.map_some,Option.getD_some]
     simp only [Bool.not_eq_true] at hl
     rw [hl]
     simp only [Bool.not_false,Bool.true_and,Array.all_eq_true_iff_forall_mem,Bool.or_eq_true,Bool.not_eq_true']
     intro e he
     by_cases hb:Region.binds .any e=true
     ·right
      have hEe:E e.on i:=hD i e.on ⟨e,by simpa using he,hb,rfl⟩
      have hlt:=hp.lt _ _ hEe
      have:=ih e.on hlt (by omega)
      rw [Array.getD_eq_getD_getElem?,Array.getElem?_eq_getElem (by omega)] at this ⊢
      simpa using this
     ·left;simpa using hb
    rw [hr] at this
    cases this
 have fin:∀ (L:Array Bool),(∀ i,i < ops.size→L.getD i true=true)→∀ m,m≤ops.size→T o rc (fun i=>L.getD i true) x0 m=T o rc (fun _=>true) x0 m:=by
  intro L h m
  induction m with
  | zero=>intro _;rfl
  | succ m ih=>intro hm;simp only [T];rw [if_pos (h m (by omega)),if_pos True.intro,ih (by omega)]
 intro fuel
 induction fuel with
 | zero =>
  intro L a w hL hc hcl hrp hs
  have all:=cnt_zero (n:=ops.size) (L:=L) (by omega)
  refine ⟨?_,?_⟩
  ·unfold Region.ready
   refine List.filter_eq_nil_iff.2 fun i hi=>?_
   rw [all i (List.mem_range.1 hi)]
   simp
  ·rw [fin L all _ (Nat.le_refl _)] at hs
   exact hR a w hs
 | succ fuel ih =>
  intro L a w hL hc hcl hrp hs
  refine ⟨fun hr=>?_,fun i hi=>?_⟩
  ·rw [fin L (nil L hL hr) _ (Nat.le_refl _)] at hs
   exact hR a w hs
  ·unfold Region.ready at hi
   obtain ⟨hi1,hi2⟩:=List.mem_filter.1 hi
   have hin:=List.mem_range.1 hi1
   rw [ho i hin] at hi2
   simp only [Option.map_some,Option.getD_some,Bool.and_eq_true,Bool.not_eq_true',Array.all_eq_true_iff_forall_mem,Bool.or_eq_true] at hi2
   obtain ⟨hli,hed⟩:=hi2
   have hdir:∀ j,Dd o j i→L.getD j true=true:=by
    rintro j ⟨e,he,hb,rfl⟩
    rcases hed e (by simpa using he) with h | h
    ·rw [hb] at h;cases h
    ·have hlt:=hp.lt _ _ (hD i e.on ⟨e,he,hb,rfl⟩)
     rw [Array.getD_eq_getD_getElem?,Array.getElem?_eq_getElem (by omega)] at h ⊢
     simpa using h
   have hedges:∀ j,E j i→L.getD j true=true:=by
    intro j hj
    rcases hE i j hj with h | ⟨m,h1,h2⟩
    ·exact hdir j h
    ·exact hcl m (by have:=hp.lt _ _ (hD i m h1);omega) (hdir m h1) j h2
   have hag:=agree (x0:=x0) hp hin (L:=fun i=>L.getD i true) hli hedges hcl
   have hok':=(hok i hin).agree hZ hag.1 hag.2
   have hL':∀ j,j < ops.size→(L.setIfInBounds i true).getD j true=(L.getD j true||j==i):=by
    intro j hj
    by_cases hji:j=i
    ·subst hji;simp [Array.getD_eq_getD_getElem?,hL,hj]
    ·simp [Array.getD_eq_getD_getElem?,hji,Ne.symm hji]
   have hcl':∀ j,j < ops.size→(L.setIfInBounds i true).getD j true=true→∀ e,E e j→(L.setIfInBounds i true).getD e true=true:=by
    intro j hj hlj e he
    have hej:=hp.lt _ _ he
    rw [hL' e (by omega)]
    rw [hL' j hj] at hlj
    by_cases hji:j=i
    ·subst hji;simp [hedges e he]
    ·simp only [Bool.or_eq_true,beq_iff_eq,hji,or_false] at hlj
     simp [hcl j hj hlj e he]
   have hins:T o rc (fun j=>(L.setIfInBounds i true).getD j true) x0 ops.size=app (o i) (rc i) (T o rc (fun i=>L.getD i true) x0 ops.size):=by
    have h1:∀ m,m≤ops.size→T o rc (fun j=>(L.setIfInBounds i true).getD j true) x0 m=T o rc (fun j=>L.getD j true||j==i) x0 m:=by
     intro m
     induction m with
     | zero=>intro _;rfl
     | succ m ihm=>intro hm;simp only [T];simp only [hL' m (by omega),ihm (by omega)]
    rw [h1 _ (Nat.le_refl _),insert_last hp hin (L:=fun i=>L.getD i true) hli hcl (fun _=>rfl) _ (Nat.le_refl _),if_pos hin]
   have hrp':Rp (app (o i) (rc i) (T o rc (fun i=>L.getD i true) x0 ops.size)).2:=by
    cases hrc:rc i with
    | none=>exact hrp
    | some q=>exact hZ.rep (hok'.run q hrc) hrp
   have next:∀ a' w',SimE B zs nt rng yv (app (o i) (rc i) (T o rc (fun i=>L.getD i true) x0 ops.size)).1 (app (o i) (rc i) (T o rc (fun i=>L.getD i true) x0 ops.size)).2 a' w'→wpAnyIn (FW ro) m P .any ops R fuel (L.setIfInBounds i true) a' w':=by
    intro a' w' hs'
    refine ih _ a' w' (by simpa using hL) ?_ hcl' (by rw [hins];exact hrp') (by rw [hins];exact hs')
    have:=cnt_set hli ops.size
    rw [if_pos hin] at this
    omega
   unfold wpOpIn
   simp only [ho i hin]
   cases hrc:rc i with
   | some q =>
    have hw:Region.wanted (o i) (yielded ops a.tmps)=true:=by
     have hg:=hok'.gate
     rw [hrc] at hg
     unfold gateSt at hg
     split at hg
     ·rename_i hgd;simp [Region.wanted,hgd]
     ·rename_i j want hgd
      obtain ⟨gt,h1,h2⟩:=hg
      obtain ⟨U,ι,ds,hm,he0,hz,hdf,hnd,hds,hrg,hsz,hv,hy⟩:=hs
      rcases h2 with ⟨b,h2,h3⟩ | ⟨_,h3⟩
      ·have hb:b=want:=by simpa using h3
       simp [Region.wanted,hgd,yielded_bool hv h1 h2,hb]
      ·simp at h3
    rw [if_pos hw]
    refine hZ.sound (hok'.run q hrc) hrp hs fun a' w' hs'=>next a' w' ?_
    rw [hrc]
    exact hs'
   | none =>
    have hw:Region.wanted (o i) (yielded ops a.tmps)=false:=by
     have hg:=hok'.gate
     rw [hrc] at hg
     unfold gateSt at hg
     split at hg
     ·simp at hg
     ·rename_i j want hgd
      obtain ⟨gt,h1,h2⟩:=hg
      obtain ⟨U,ι,ds,hm,he0,hz,hdf,hnd,hds,hrg,hsz,hv,hy⟩:=hs
      rcases h2 with ⟨b,h2,h3⟩ | ⟨h2,_⟩
      ·have hb:b≠want:=by simpa using h3
       simp [Region.wanted,hgd,yielded_bool hv h1 h2,hb]
      ·simp [Region.wanted,hgd,yielded_none hv h1 h2]
    rw [if_neg (by rw [hw];simp)]
    refine ⟨fun f _=>FW_fn ro f,next _ _ ?_⟩
    rw [hrc]
    exact Sim2.skip0 hs _
theorem draw_soundZ {Z:Zo} {Rp:Ob→Prop} {nt:Nat} {ops:Array Oper} (hZ:ZOK P nt ops Rp Z) {pairs:List (Nat×Nat)} {B:Base} {zs:List (Nat×Obj)} {rng:Bool} {yv:Value} {ro:Option Nat} {m:Nat} {R:Exit→Act→World→Prop} {x y:X} {a:Act} {w:World}
  (hok:regOK2 ops pairs=true) (h:NotedZ Z ops pairs ops.toList 0 [] x y) (hrp:Rp x.2) (hs:SimE B zs nt rng yv x.1 x.2 a w) (hR:∀ a' w',SimE B zs nt rng yv y.1 y.2 a' w'→R .normal a' w'):wpAnyIn (FW ro) m P .any ops R ops.size (Array.replicate ops.size false) a { w with drawn:=w.drawn+1 }:=by
 obtain ⟨recs,g1,g3⟩:=h
 let d:Oper:=⟨none,.move (.const undef),0,default,#[],none⟩
 obtain ⟨hlen,hind,hfin⟩:=g1.index (d:=d)
 have ho:∀ i,i < ops.size→ops[i]?=some (ops.toList.getD i d):=by
  intro i hi
  rw [List.getD_eq_getElem?_getD,Array.getElem?_toList,Array.getElem?_eq_getElem hi]
  rfl
 have hlen':recs.length=ops.size:=by simpa using hlen
 let E:Nat→Nat→Prop:=Anc ops
 have hreg:∀ i,i < ops.size→(∀ e∈(ops.toList.getD i d).after.toList,Region.binds .any e=true→e.on < i)∧∀ j,j < i→E j i∨(Oper.apart ops (ops.toList.getD j d) (ops.toList.getD i d)=true∧(memFree (ops.toList.getD j d).op (ops.toList.getD i d).op=true∨(j,i)∈pairs)):=by
  intro i hi
  unfold regOK2 at hok
  have h1:=List.all_eq_true.1 hok i (List.mem_range.2 hi)
  rw [ho i hi] at h1
  simp only [Bool.and_eq_true,List.all_eq_true] at h1
  refine ⟨fun e he hb=>by have:=h1.1 e he;simpa [hb] using this,fun j hj=>?_⟩
  have h2:=h1.2 j (List.mem_range.2 hj)
  rw [ho j (by omega)] at h2
  simp only [Bool.or_eq_true,Bool.and_eq_true,List.contains_iff_mem] at h2
  rcases h2 with h2 | ⟨h2,h3⟩
  ·exact .inl (ancs_ok hi h2)
  ·exact .inr ⟨h2,h3⟩
 have hdir:∀ i j,j∈dirE ops i↔Dd (fun i=>ops.toList.getD i d) j i:=by
  intro i j
  unfold dirE Dd
  by_cases hi:i < ops.size
  ·rw [ho i hi]
   simp only [List.mem_map,List.mem_filter]
   exact ⟨fun ⟨e,⟨h1,h2⟩,h3⟩=>⟨e,h1,h2,h3⟩,fun ⟨e,h1,h2,h3⟩=>⟨e,⟨h1,h2⟩,h3⟩⟩
  ·have h1:ops[i]?=none:=by simp;omega
   have h2:ops.toList.getD i d=d:=by rw [List.getD_eq_getElem?_getD,List.getElem?_eq_none (by simpa using hi)];rfl
   rw [h1]
   show j∈[]↔∃ e∈(ops.toList.getD i d).after.toList,Region.binds .any e=true∧e.on=j
   rw [h2]
   simp [d]
 have hltE:∀ j i,Anc ops j i→j < i:=by
  intro j i h
  have one:∀ j i,j∈dirE ops i→j < i:=by
   intro j i h
   obtain ⟨e,he,hb,rfl⟩:=(hdir i j).1 h
   by_cases hi:i < ops.size
   ·exact (hreg i hi).1 e he hb
   ·have:ops.toList.getD i d=d:=by rw [List.getD_eq_getElem?_getD,List.getElem?_eq_none (by simpa using hi)];rfl
    simp only [this] at he
    cases he
  induction h with
  | one h=>exact one _ _ h
  | step h _ ih=>exact Nat.lt_trans ih (one _ _ h)
 have hplan:Plan ops ops.size (fun i=>ops.toList.getD i d) (fun i=>(recs.getD i (none,[])).1) (fun i=>(recs.getD i (none,[])).2) E:=by
  refine ⟨?_,?_⟩
  ·exact hltE
  ·intro j i hj hi hE
   rcases (hreg i hi).2 j hj with h | ⟨hap,hm⟩
   ·exact absurd h hE
   ·obtain ⟨a1,a2,a3⟩:=Oper.apart_spec hap
    have hi':=hind i (by simpa using hi)
    have hj':=hind j (by simp;omega)
    have mem:(∀ k∈wr (recs.getD j (none,[])).1,k∉(recs.getD i (none,[])).2)∧(∀ k∈wr (recs.getD j (none,[])).1,k∉wr (recs.getD i (none,[])).1)∧∀ k∈(recs.getD j (none,[])).2,k∉wr (recs.getD i (none,[])).1:=by
     rcases hm with hm | hm
     ·exact ZAt.mem_free hZ hm hi' hj'
     ·cases hri:(recs.getD i (none,[])).1 with
      | none=>rw [hi'.skip hri];simp [wr]
      | some q =>
       have e1:recs[i]?=some (some q,(recs.getD i (none,[])).2):=by
        rw [List.getElem?_eq_getElem (by omega)]
        rw [List.getD_eq_getElem?_getD,List.getElem?_eq_getElem (by omega)] at hri ⊢
        simp only [Option.getD_some] at hri ⊢
        rw [←hri]
       obtain ⟨a,h1,h2,h3⟩:=g3 (j,i) hm i q _ e1 (by simp)
       simp only [List.nil_append,List.getElem?_map] at h1
       rw [List.getElem?_eq_getElem (by omega)] at h1
       simp only [Option.map_some,Option.some.injEq] at h1
       have e2:recs.getD j (none,[])=recs[j]'(by omega):=by rw [List.getD_eq_getElem?_getD,List.getElem?_eq_getElem (by omega)];rfl
       rw [e2]
       subst h1
       exact ⟨fun k hk=>(h2 k hk).1,fun k hk=>(h2 k hk).2,fun k hk=>h3 k hk⟩
    exact ⟨a1,a2,a3,mem.1,mem.2.1,mem.2.2⟩
 refine draw_mainZ (B:=B) (zs:=zs) (rng:=rng) (yv:=yv) hZ ho hplan (fun i j h=>.one ((hdir i j).2 h)) (fun i j h=>by cases h with | one h=>exact .inl ((hdir i j).1 h) | step h1 h2=>exact .inr ⟨_,(hdir i _).1 h1,h2⟩) (x0:=x) (fun i hi=>hind i (by simpa using hi)) ?_ ops.size (Array.replicate ops.size false) a _ (by simp) (cnt_le _ _) ?_ ?_ ?_
 ·intro a' w' hs'
  refine hR a' w' ?_
  have e:ops.toList.length=ops.size:=by simp
  rw [e] at hfin
  rw [←hfin] at hs'
  exact hs'
 ·intro j hj hl
  simp [Array.getD_eq_getD_getElem?,hj] at hl
 ·have:∀ m,m≤ops.size→T (fun i=>ops.toList.getD i d) (fun i=>(recs.getD i (none,[])).1) (fun i=>(Array.replicate ops.size false).getD i true) x m=x:=by
   intro m
   induction m with
   | zero=>intro _;rfl
   | succ m ih =>
    intro hm
    simp only [T]
    rw [if_neg,ih (by omega)]
    simp only [Array.getD_eq_getD_getElem?]
    rw [Array.getElem?_eq_getElem (by simp;omega)]
    simp
  rw [this _ (Nat.le_refl _)]
  exact hrp
 ·have:∀ m,m≤ops.size→T (fun i=>ops.toList.getD i d) (fun i=>(recs.getD i (none,[])).1) (fun i=>(Array.replicate ops.size false).getD i true) x m=x:=by
   intro m
   induction m with
   | zero=>intro _;rfl
   | succ m ih =>
    intro hm
    simp only [T]
    rw [if_neg,ih (by omega)]
    simp only [Array.getD_eq_getD_getElem?]
    rw [Array.getElem?_eq_getElem (by simp;omega)]
    simp
  rw [this _ (Nat.le_refl _)]
  exact Sim2.turn hs _
end Go.VE
namespace Go.VE
open Go.RowKit
variable {P:Program}
structure InlOK (P:Program) (cfg:Cf) (f:Nat) (bd:Bd) (fn:Func):Prop where
 hfn:P.funcs[f]?=some fn
 body:fn.body=some bd.code
 nt:fn.ntmps=bd.nt
 res:fn.results.toList=bd.res
 call:∀ (as:Array Value) (w:World),(callFunc f as).run P w=.ok (.enter f as) w
 draws:drawsOK2 (cfg.draw f) bd.code=true
def HdOK {α:Type} (P:Program) (hd:Option (Hd α)) (B:Base) (zsOf:Option Ex→List (Nat×Obj)) (yv:Value) (r:α):Prop :=
 ∀ h,hd=some h→∃ l,yv=.func (.yield l) #[] #[]∧∀ (vals:List V) (ob:List (Nat×O)) (k:Option Ex→List (Nat×O)→Option α),h vals ob k=some r →
  ∀ (m:Nat) (w:World) (U:Nat→Prop) (ι:Pl) (as:Array Value),Mem w U ι (getO ob)→Evo B.w B.U B.ι B.ob w U ι (getO ob)→Zs w U ι (getO ob) (zsOf none)→VF w U ι (getO ob) vals as.toList →
   YieldAt (FW none) m P l as w fun e w'=>∃ p ob' U' ι',e=.returned (.bool p.isNone)∧k p ob'=some r∧Mem w' U' ι' (getO ob')∧Keep w U ι (getO ob) w' U' ι' (getO ob')∧Evo B.w B.U B.ι B.ob w' U' ι' (getO ob')∧Zs w' U' ι' (getO ob') (zsOf p)
abbrev SimT (B:Base) (zsOf:Option Ex→List (Nat×Obj)) (fr:Fr) (yv:Value) (st:S2) (a:Act) (w:World):Prop:=Sim2 B (zsOf st.pend) fr.nt fr.rng yv (getE st.env) (getO st.ob) st.ys a w
theorem yOf_true {ys:List Nat} {x:Operand} (h:yOf ys x=true):∃ u,x=.tmp u∧u∈ys:=by
 unfold yOf at h
 split at h
 ·exact ⟨_,rfl,by simpa using h⟩
 ·cases h
theorem LF_VF {w:World} {U:Nat→Prop} {ι:Pl} {ob:Ob}:∀ {caps:List L} {vs:List Value},LF w U ι ob caps vs→VF w U ι ob (caps.map .one) vs
 | [],vs,h=>by simpa [VF,LF] using h
 | x::xs,vs,h=>by
  simp only [LF] at h
  obtain ⟨v,vs',rfl,h1,h2⟩:=h
  simp only [List.map_cons,VF]
  exact ⟨v,vs',rfl,by simpa only [VR] using h1,LF_VF h2⟩
theorem VF_append {w:World} {U:Nat→Prop} {ι:Pl} {ob:Ob}:∀ {xs ys:List V} {us vs:List Value},VF w U ι ob xs us→VF w U ι ob ys vs→VF w U ι ob (xs++ys) (us++vs)
 | [],ys,us,vs,h,k=>by simp only [VF] at h;subst h;exact k
 | x::xs,ys,us,vs,h,k=>by
  simp only [VF] at h
  obtain ⟨v,vs',rfl,h1,h2⟩:=h
  simp only [List.cons_append,VF]
  exact ⟨v,vs'++vs,rfl,h1,VF_append h2 k⟩
end Go.VE
namespace Go.VE
open Go.RowKit
variable {P:Program}
def codeOf:Ex→Code
 | .normal=>.skip
 | .ret=>.ret
 | .exit id=>.exit id
theorem leaves_marks {fn:Func} {tmps:Array Value} {R:Ending→World→Prop} {B:Base} {U:Nat→Prop} {ι:Pl} {ob:Ob} {ro:Option Nat} {m:Nat}:∀ (ds:List Nat) (w:World),Mem w U ι ob→Evo B.w B.U B.ι B.ob w U ι ob→Zs w U ι ob (dzs ds)→ds.Nodup→(∀ D∈ds,B.w.heap.size≤D) →
  (∀ w',Mem w' U ι ob→Evo B.w B.U B.ι B.ob w' U ι ob→Keep w U ι ob w' U ι ob→∃ v,(results fn tmps).run P w'=.ok v w'∧R (.returned v) w')→LeavesInM (FW ro) m P fn tmps R (marks ds) .returning w
 | [],w,hm,he,hz,hn,hb,h=>h w hm he (Evo.refl _ _ _ _).keep
 | D::ds,w,hm,he,hz,hn,hb,h=>by
  obtain ⟨hc,hoff⟩:=hz (D,.deferred (some [])) (by simp [dzs])
  refine ⟨by simp,.inl ⟨D,_,rfl,run_takeDeferred hc,?_⟩⟩
  have t:=Turn.put w D (.deferred none)
  have hX:∀ b,b=D→Off U ι ob b:=fun b e=>e ▸ hoff
  have hk:=t.keep hm hX
  rw [List.nodup_cons] at hn
  refine leaves_marks ds _ (t.mem hm hX) (t.evo hm (fun b e=>⟨hX b e,e ▸ hb D (by simp)⟩) he) (t.zs (fun p hp=>hz p (by simp only [dzs,List.map_cons,List.mem_cons];exact .inr hp)) ?_) hn.2 (fun D' h'=>hb D' (by simp [h'])) fun w' h1 h2 h3=>h w' h1 h2 (hk.trans h3)
  intro p hp e
  simp only [dzs,List.mem_map] at hp
  obtain ⟨D',hD',rfl⟩:=hp
  exact hn.1 (by simp only at e;rwa [←e])
theorem envV_VR {w:World} {U:Nat→Prop} {ι:Pl} {ob:Ob}:∀ {xs:List V} {vs:List Value} {i:Nat},VF w U ι ob xs vs→∀ t,VR w U ι ob (getE (envV xs i) t) (if t < i then undef else vs.getD (t - i) undef)∨getE (envV xs i) t=.one .undef
 | [],vs,i,h,t=>.inr rfl
 | x::xs,vs,i,h,t=>by
  simp only [VF] at h
  obtain ⟨v,vs',rfl,h1,h2⟩:=h
  simp only [envV,getE]
  by_cases ht:t=i
  ·subst ht
   left
   simp only [if_true,Nat.lt_irrefl,if_false,Nat.sub_self,List.getD_cons_zero]
   exact h1
  ·simp only [if_neg ht]
   rcases envV_VR (i:=i+1) h2 t with h3 | h3
   ·left
    by_cases hlt:t < i
    ·rw [if_pos hlt];rwa [if_pos (by omega)] at h3
    ·rw [if_neg hlt]
     rw [if_neg (by omega)] at h3
     rw [show t - i=(t - (i+1))+1 by omega,List.getD_cons_succ]
     exact h3
   ·exact .inr h3
theorem VF.len {w:World} {U:Nat→Prop} {ι:Pl} {ob:Ob}:∀ {xs:List V} {vs:List Value},VF w U ι ob xs vs→vs.length=xs.length
 | [],vs,h=>by simp only [VF] at h;simp [h]
 | x::xs,vs,h=>by simp only [VF] at h;obtain ⟨v,vs',rfl,_,h2⟩:=h;simp [h2.len]
theorem tmps_get {as:Array Value} {n t:Nat}:(as++Array.replicate n undef).getD t undef=as.toList.getD t undef:=by
 rw [Array.getD_eq_getD_getElem?,List.getD_eq_getElem?_getD,Array.getElem?_append]
 split
 ·simp
 ·rename_i hge
  rw [List.getElem?_eq_none (by simpa using hge)]
  simp only [Array.getElem?_replicate]
  split<;>rfl
theorem frame_VR {w:World} {U:Nat→Prop} {ι:Pl} {ob:Ob} {xs:List V} {as:Array Value} {n:Nat} (h:VF w U ι ob xs as.toList) (t:Nat):VR w U ι ob (getE (envV xs 0) t) ((as++Array.replicate n undef).getD t undef):=by
 rw [tmps_get]
 rcases envV_VR (i:=0) h t with h3 | h3
 ·simpa using h3
 ·rw [h3];simp [VR,LR]
theorem start_sim {w:World} {U:Nat→Prop} {ι:Pl} {ob:Ob} {xs:List V} {as:Array Value} {nt:Nat} {rng:Bool} {yv:Value} {zs:List (Nat×Obj)} (hm:Mem w U ι ob) (h:VF w U ι ob xs as.toList) (hn:xs.length≤nt) (hz:Zs w U ι ob zs) (ys:List Nat) (hy:∀ t∈ys,as.toList.getD t undef=yv) {B:Base} (he:Evo B.w B.U B.ι B.ob w U ι ob) :
  Sim2 B zs nt rng yv (getE (envV xs 0)) ob ys { tmps:=as++Array.replicate (nt - as.size) undef,defers:=[] } w:=by
 have hl:=h.len
 simp only [Array.length_toList] at hl
 exact ⟨U,ι,[],hm,he,by simpa [dzs] using hz,rfl,by simp,by simp,fun _=>rfl,by simp;omega,frame_VR h,fun t ht=>by rw [tmps_get];exact hy t ht⟩
theorem par_size:∀ (ps:List Nat) (as:List Value) (tmps:Array Value),((ps.zip as).foldl (fun t (p,v)=>t.setIfInBounds p v) tmps).size=tmps.size
 | [],as,tmps=>by simp
 | p::ps,[],tmps=>by simp
 | p::ps,v::as,tmps=>by simp only [List.zip_cons_cons,List.foldl_cons];rw [par_size ps as];simp
theorem par_VR {w:World} {U:Nat→Prop} {ι:Pl} {ob:Ob}:∀ {ps:List Nat} {vals:List V} {as:List Value} {tmps:Array Value} {env:List (Nat×V)},VF w U ι ob vals as→(∀ p∈ps,p < tmps.size)→(∀ t,VR w U ι ob (getE env t) (tmps.getD t undef)) →
  ∀ t,VR w U ι ob (getE ((ps.zip vals).reverse++env) t) (((ps.zip as).foldl (fun t (p,v)=>t.setIfInBounds p v) tmps).getD t undef)
 | [],vals,as,tmps,env,h,hp,hv,t=>by simpa using hv t
 | p::ps,[],as,tmps,env,h,hp,hv,t=>by simp only [VF] at h;subst h;simpa using hv t
 | p::ps,x::vals,as,tmps,env,h,hp,hv,t=>by
  simp only [VF] at h
  obtain ⟨v,as',rfl,h1,h2⟩:=h
  simp only [List.zip_cons_cons,List.reverse_cons,List.append_assoc,List.singleton_append,List.foldl_cons]
  refine par_VR (env:=(p,x)::env) h2 (fun q hq=>by rw [Array.size_setIfInBounds];exact hp q (List.mem_cons_of_mem _ hq)) (fun u=>?_) t
  simp only [getE,Array.getD_eq_getD_getElem?,Array.getElem?_setIfInBounds]
  have hlt:=hp p (by simp)
  by_cases hu:u=p
  ·subst hu;simpa [hlt] using h1
  ·have:=hv u
   rw [Array.getD_eq_getD_getElem?] at this
   rw [if_neg hu,if_neg (Ne.symm hu)]
   exact this
theorem Keep.subO {w w':World} {U U':Nat→Prop} {ι ι':Pl} {ob ob' ob'':Ob} (e:Keep w U ι ob w' U' ι' ob') (hb:∀ k,ob k≠none→ob'' k=ob' k):Keep w U ι ob w' U' ι' ob'':=by
 refine ⟨e.kept,e.sub,?_,?_,?_,?_,?_⟩
 ·intro k cells elem hk;rw [hb k (by rw [hk];simp)];exact e.box k cells elem hk
 ·intro k rows size elem own hk;rw [hb k (by rw [hk];simp)];exact e.arr k rows size elem own hk
 ·intro k agg keys vals own hk;rw [hb k (by rw [hk];simp)];exact e.mp k agg keys vals own hk
 ·intro k keys vals hk;rw [hb k (by rw [hk];simp)];exact e.ml k keys vals hk
 ·intro k keys rows size elem hk;rw [hb k (by rw [hk];simp)];exact e.am k keys rows size elem hk
theorem packVs_VR {w:World} {U:Nat→Prop} {ι:Pl} {ob:Ob} {vs:List V} {us:List Value} (h:VF w U ι ob vs us):VR w U ι ob (packVs vs) (packV us):=by
 match vs,h with
 | [],h=>simp only [VF] at h;subst h;simp only [packVs,packV,VR,VF];exact ⟨#[],rfl,rfl⟩
 | [x],h =>
  simp only [VF] at h
  obtain ⟨v,vs',rfl,h1,rfl⟩:=h
  exact h1
 | x::y::r,h =>
  have h':=h
  simp only [VF] at h
  obtain ⟨v,vs',rfl,h1,v2,vs2,rfl,_⟩:=h
  simp only [packVs,packV,VR]
  exact ⟨_,rfl,h'⟩
theorem VF.keysO {w:World} {U:Nat→Prop} {ι:Pl} {ob ob':Ob}:∀ {xs:List V} {vs:List Value},(∀ x∈xs,∀ k∈x.keysOf,ob' k=ob k)→VF w U ι ob xs vs→VF w U ι ob' xs vs
 | [],vs,hk,h=>by simpa [VF] using h
 | x::xs,vs,hk,h=>by
  simp only [VF] at h ⊢
  obtain ⟨v,vs',e1,h1,h2⟩:=h
  exact ⟨v,vs',e1,VR.keys x v (hk x (by simp)) h1,VF.keysO (fun y hy=>hk y (by simp [hy])) h2⟩
end Go.VE
namespace Go.VE
open Go.RowKit
variable {P:Program}
theorem HdOK.none' {α:Type} {B:Base} {zsOf:Option Ex→List (Nat×Obj)} {yv:Value} {r:α}:HdOK P (none:Option (Hd α)) B zsOf yv r:=fun h hh=>by cases hh
end Go.VE
namespace Go.VE
open Go.RowKit
variable {P:Program}
end Go.VE
