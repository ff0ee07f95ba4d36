/- The data that a Go value reads as, and the relation between such data and the model's memory. -/
import Derived.WalkKit
import Derived.Maps.AppendAt
import Derived.Deep.Draws
import Derived.Laws.MakeOwn
import Derived.Laws.Slices
import Derived.Laws.StructEq
namespace Go.VE
section
inductive D where
 | lit (v:Value)
 | sl (size:Nat) (rows:List (List D))
 | dp (row:List D) (off:Nat)
 | fn (f:Nat) (caps:List D)
 | mp (agg:Bool) (keys:List Value) (vals:List (List D))
 | ifc (t:Nat) (agg:Bool) (row:List D)
def q38 (agg:Bool) (cs:List Value):Value:=if agg then .agg cs.toArray else cs.headD (.tuple #[])
instance:Inhabited D:=⟨.lit .nilFunc⟩
def plain:Value→Bool
 | .bool _ | .int _ _ | .string _ | .pointer none | .slice none 0 0 | .map none | .nilFunc | .nilIface=>true
 | _=>false
def q6a (f:Nat) (cs:Array Value):Value:=if f < 2000000 then .func (.func f) #[] cs else .func (.func (f - 2000000)) cs #[]
mutual
def DR (w:World) (U:Nat→Prop):D→Value→Prop
 | .lit v,v'=>v'=v∧plain v=true
 | .sl size rows,v'=>∃ a cap,v'=.slice (some a) rows.length cap∧rows.length≤cap∧cap≤maxLen∧(0 < rows.length→∃ b o,a=⟨b,o,none⟩∧U b∧RR w U b o size rows)
 | .dp row off,v'=>∃ b o,v'=.pointer (some ⟨b,o+off,none⟩)∧U b∧CR w U b o row
 | .fn f caps,v'=>∃ cs,v'=q6a f cs∧FR w U caps cs.toList
 | .mp agg keys vals,v'=>∃ r es clock,v'=.map (some r)∧U r∧w.heap[r]?=some (.map es clock)∧KR w U agg keys es.toList vals
 | .ifc t agg row,v'=>∃ cs,v'=.iface t (q38 agg cs)∧(agg=false→cs.length=1)∧FR w U row cs
def CR (w:World) (U:Nat→Prop) (b:Nat):Nat→List D→Prop
 | _,[]=>True
 | o,x::xs=>(∃ u,w.cell? ⟨b,o,none⟩=some u∧DR w U x u)∧CR w U b (o+1) xs
def RR (w:World) (U:Nat→Prop) (b:Nat):Nat→Nat→List (List D)→Prop
 | _,_,[]=>True
 | o,size,r::rs=>r.length=size∧CR w U b o r∧RR w U b (o+size) size rs
def FR (w:World) (U:Nat→Prop):List D→List Value→Prop
 | [],vs=>vs=[]
 | x::xs,vs=>∃ v vs',vs=v::vs'∧DR w U x v∧FR w U xs vs'
def KR (w:World) (U:Nat→Prop) (agg:Bool) (keys:List Value) (es:List MapEntry):List (List D)→Prop
 | []=>keys=[]∧es=[]
 | r::rs=>∃ k ks e es' cs,keys=k::ks∧es=e::es'∧e.key=k∧plain k=true∧e.val=q38 agg cs∧(agg=false→cs.length=1)∧FR w U r cs∧KR w U agg ks es' rs
end
mutual
theorem DR.mono {w w':World} {U U':Nat→Prop} (hb:∀ b,U b→w'.heap[b]?=w.heap[b]?) (hU:∀ b,U b→U' b):∀ (x:D) (v:Value),DR w U x v→DR w' U' x v
 | .lit v,v',h=>by simpa [DR] using h
 | .sl size rows,v',h=>by
  simp only [DR] at h ⊢
  obtain ⟨a,cap,h1,h2,h2',h3⟩:=h
  refine ⟨a,cap,h1,h2,h2',fun hn=>?_⟩
  obtain ⟨b,o,e,hu,hr⟩:=h3 hn
  exact ⟨b,o,e,hU b hu,RR.mono hb hU b (hb b hu) rows o size hr⟩
 | .dp row off,v',h=>by
  simp only [DR] at h ⊢
  obtain ⟨b,o,e,hu,hr⟩:=h
  exact ⟨b,o,e,hU b hu,CR.mono hb hU b (hb b hu) row o hr⟩
 | .fn f caps,v',h=>by
  simp only [DR] at h ⊢
  obtain ⟨cs,e,hr⟩:=h
  exact ⟨cs,e,FR.mono hb hU caps cs.toList hr⟩
 | .mp agg keys vals,v',h=>by
  simp only [DR] at h ⊢
  obtain ⟨r,es,clock,e,hu,hh,hk⟩:=h
  exact ⟨r,es,clock,e,hU r hu,(hb r hu).trans hh,KR.mono hb hU vals agg keys es.toList hk⟩
 | .ifc t agg row,v',h=>by
  simp only [DR] at h ⊢
  obtain ⟨cs,e,hl,hr⟩:=h
  exact ⟨cs,e,hl,FR.mono hb hU row cs hr⟩
theorem CR.mono {w w':World} {U U':Nat→Prop} (hb:∀ b,U b→w'.heap[b]?=w.heap[b]?) (hU:∀ b,U b→U' b) (b:Nat) (hu:w'.heap[b]?=w.heap[b]?):∀ (xs:List D) (o:Nat),CR w U b o xs→CR w' U' b o xs
 | [],o,h=>by simp [CR]
 | x::xs,o,h=>by
  simp only [CR] at h ⊢
  obtain ⟨⟨u,hc,hd⟩,hr⟩:=h
  exact ⟨⟨u,(World.cell?_of_block hu).trans hc,DR.mono hb hU x u hd⟩,CR.mono hb hU b hu xs (o+1) hr⟩
theorem RR.mono {w w':World} {U U':Nat→Prop} (hb:∀ b,U b→w'.heap[b]?=w.heap[b]?) (hU:∀ b,U b→U' b) (b:Nat) (hu:w'.heap[b]?=w.heap[b]?):∀ (rs:List (List D)) (o size:Nat),RR w U b o size rs→RR w' U' b o size rs
 | [],o,size,h=>by simp [RR]
 | r::rs,o,size,h=>by
  simp only [RR] at h ⊢
  exact ⟨h.1,CR.mono hb hU b hu r o h.2.1,RR.mono hb hU b hu rs (o+size) size h.2.2⟩
theorem FR.mono {w w':World} {U U':Nat→Prop} (hb:∀ b,U b→w'.heap[b]?=w.heap[b]?) (hU:∀ b,U b→U' b):∀ (xs:List D) (vs:List Value),FR w U xs vs→FR w' U' xs vs
 | [],vs,h=>by simpa [FR] using h
 | x::xs,vs,h=>by
  simp only [FR] at h ⊢
  obtain ⟨v,vs',e,h1,h2⟩:=h
  exact ⟨v,vs',e,DR.mono hb hU x v h1,FR.mono hb hU xs vs' h2⟩
theorem KR.mono {w w':World} {U U':Nat→Prop} (hb:∀ b,U b→w'.heap[b]?=w.heap[b]?) (hU:∀ b,U b→U' b):∀ (rs:List (List D)) (agg:Bool) (keys:List Value) (es:List MapEntry),KR w U agg keys es rs→KR w' U' agg keys es rs
 | [],agg,keys,es,h=>by simpa [KR] using h
 | r::rs,agg,keys,es,h=>by
  simp only [KR] at h ⊢
  obtain ⟨k,ks,e,es',cs,h1,h2,h3,h4,h5,h6,h7,h8⟩:=h
  exact ⟨k,ks,e,es',cs,h1,h2,h3,h4,h5,h6,FR.mono hb hU r cs h7,KR.mono hb hU rs agg ks es' h8⟩
end
theorem CR.at_ {w:World} {U:Nat→Prop} {b:Nat}:∀ {xs:List D} {o:Nat},CR w U b o xs→∀ {j:Nat} {x:D},xs[j]?=some x→∃ u,w.cell? ⟨b,o+j,none⟩=some u∧DR w U x u
 | [],_,_,j,x,hj=>by simp at hj
 | y::ys,o,h,0,x,hj=>by simp at hj;subst hj;simp only [CR] at h;simpa using h.1
 | y::ys,o,h,j+1,x,hj=>by
  simp only [CR] at h
  have:=CR.at_ h.2 (j:=j) (x:=x) (by simpa using hj)
  rw [show o+1+j=o+(j+1) by omega] at this
  exact this
theorem CR.mk {w:World} {U:Nat→Prop} {b:Nat}:∀ {xs:List D} {o:Nat},(∀ (j:Nat) (x:D),xs[j]?=some x→∃ u,w.cell? ⟨b,o+j,none⟩=some u∧DR w U x u)→CR w U b o xs
 | [],o,_=>by simp [CR]
 | y::ys,o,h=>by
  simp only [CR]
  refine ⟨by simpa using h 0 y rfl,CR.mk fun j x hj=>?_⟩
  have:=h (j+1) x (by simpa using hj)
  rwa [show o+(j+1)=o+1+j by omega] at this
theorem RR.at_ {w:World} {U:Nat→Prop} {b:Nat}:∀ {rs:List (List D)} {o size:Nat},RR w U b o size rs→∀ {i:Nat} {r:List D},rs[i]?=some r→r.length=size∧CR w U b (o+i*size) r
 | [],_,_,_,i,r,hi=>by simp at hi
 | y::ys,o,size,h,0,r,hi=>by simp at hi;subst hi;simp only [RR] at h;simpa using ⟨h.1,h.2.1⟩
 | y::ys,o,size,h,i+1,r,hi=>by
  simp only [RR] at h
  have:=RR.at_ h.2.2 (i:=i) (r:=r) (by simpa using hi)
  rw [show o+size+i*size=o+(i+1)*size by rw [Nat.add_mul];omega] at this
  exact this
theorem RR.mk {w:World} {U:Nat→Prop} {b:Nat}:∀ {rs:List (List D)} {o size:Nat},(∀ (i:Nat) (r:List D),rs[i]?=some r→r.length=size∧CR w U b (o+i*size) r)→RR w U b o size rs
 | [],o,size,_=>by simp [RR]
 | y::ys,o,size,h=>by
  simp only [RR]
  have h0:=h 0 y rfl
  refine ⟨h0.1,by simpa using h0.2,RR.mk fun i r hi=>?_⟩
  have:=h (i+1) r (by simpa using hi)
  rw [show o+(i+1)*size=o+size+i*size by rw [Nat.add_mul];omega] at this
  exact this
theorem RR.drop {w:World} {U:Nat→Prop} {b o size:Nat} {rs:List (List D)} (h:RR w U b o size rs) (k:Nat):RR w U b (o+k*size) size (rs.drop k) :=
 RR.mk fun i r hi=>by
  have:=h.at_ (i:=k+i) (r:=r) (by rwa [List.getElem?_drop] at hi)
  rw [show o+(k+i)*size=o+k*size+i*size by rw [Nat.add_mul];omega] at this
  exact this
theorem RR.take {w:World} {U:Nat→Prop} {b o size:Nat} {rs:List (List D)} (h:RR w U b o size rs) (k:Nat):RR w U b o size (rs.take k) :=
 RR.mk fun i r hi=>by
  rw [List.getElem?_take] at hi
  split at hi
  ·exact h.at_ hi
  ·cases hi
inductive L where
 | d (x:D)
 | slk (k off n c:Nat)
 | pa (k i off c:Nat)
 | ptr (k off:Nat)
 | fn (f:Nat) (caps:List L)
 | mk (k:Nat)
 | undef
instance:Inhabited L:=⟨.undef⟩
inductive V where
 | one (x:L)
 | agg (xs:List L)
 | tup (xs:List V)
instance:Inhabited V:=⟨.one .undef⟩
inductive O where
 | box (cells:List L) (elem:Nat)
 | arr (rows:List (List D)) (size:Nat) (elem:Nat) (own:Bool)
 | mp (agg:Bool) (keys:List Value) (vals:List (List D)) (own:Bool)
abbrev Pl:=Nat→Nat×Nat
abbrev Ob:=Nat→Option O
mutual
def LR (w:World) (U:Nat→Prop) (ι:Pl) (ob:Ob):L→Value→Prop
 | .d x,v=>DR w U x v
 | .slk k off n c,v=>∃ rows size elem own,ob k=some (.arr rows size elem own)∧c≤rows.length∧(c=rows.length→off+n≤c∧v=.slice (some ⟨(ι k).1,off*size,none⟩) n ((ι k).2 - off))∧∃ a c',v=.slice a n c'∧n≤c'∧c'≤maxLen
 | .pa k i off c,v=>∃ rows size elem own,ob k=some (.arr rows size elem own)∧c≤rows.length∧(c=rows.length→i < c∧v=.pointer (some ⟨(ι k).1,i*size+off,none⟩))∧∃ a,v=.pointer (some a)
 | .ptr k off,v=>∃ cells elem,ob k=some (.box cells elem)∧v=.pointer (some ⟨(ι k).1,off,none⟩)
 | .fn f caps,v=>∃ cs,v=q6a f cs∧LF w U ι ob caps cs.toList
 | .mk k,v=>∃ agg keys vals own,ob k=some (.mp agg keys vals own)∧v=.map (some (ι k).1)
 | .undef,_=>True
def LF (w:World) (U:Nat→Prop) (ι:Pl) (ob:Ob):List L→List Value→Prop
 | [],vs=>vs=[]
 | x::xs,vs=>∃ v vs',vs=v::vs'∧LR w U ι ob x v∧LF w U ι ob xs vs'
end
mutual
def VR (w:World) (U:Nat→Prop) (ι:Pl) (ob:Ob):V→Value→Prop
 | .one x,v=>LR w U ι ob x v
 | .agg xs,v=>∃ cs,v=.agg cs∧LF w U ι ob xs cs.toList
 | .tup xs,v=>∃ vs,v=.tuple vs∧VF w U ι ob xs vs.toList
def VF (w:World) (U:Nat→Prop) (ι:Pl) (ob:Ob):List V→List Value→Prop
 | [],vs=>vs=[]
 | x::xs,vs=>∃ v vs',vs=v::vs'∧VR w U ι ob x v∧VF w U ι ob xs vs'
end
def OR (w:World) (U:Nat→Prop) (ι:Pl) (ob:Ob) (k:Nat):O→Prop
 | .box cells elem=>∃ cur,w.heap[(ι k).1]?=some (.cells cur elem (0,0))∧LF w U ι ob cells cur.toList∧¬ U (ι k).1
 | .arr rows size elem own=>∃ cur,w.heap[(ι k).1]?=some (.cells cur elem (0,0))∧rows.length≤(ι k).2∧(ι k).2≤maxLen∧cur.size=(ι k).2*size∧RR w U (ι k).1 0 size rows∧(if own then ¬ U (ι k).1 else U (ι k).1)
 | .mp agg keys vals own=>∃ es clock,w.heap[(ι k).1]?=some (.map es clock)∧KR w U agg keys es.toList vals∧(if own then ¬ U (ι k).1 else U (ι k).1)
def O.owned:O→Bool
 | .box ..=>true
 | .arr _ _ _ own=>own
 | .mp _ _ _ own=>own
structure Mem (w:World) (U:Nat→Prop) (ι:Pl) (ob:Ob):Prop where
 lt:∀ b,U b→b < w.heap.size
 obj:∀ k o,ob k=some o→OR w U ι ob k o
 inj:∀ k k' o o',ob k=some o→ob k'=some o'→o.owned=true→o'.owned=true→k≠k'→(ι k).1≠(ι k').1
structure Evo (w:World) (U:Nat→Prop) (ι:Pl) (ob:Ob) (w':World) (U':Nat→Prop) (ι':Pl) (ob':Ob):Prop where
 os:w'.os=w.os
 tape:w'.tape=w.tape
 output:w'.output=w.output
 size:w.heap.size≤w'.heap.size
 kept:∀ b,U b→w'.heap[b]?=w.heap[b]?
 sub:∀ b,U b→U' b
 box:∀ k cells elem,ob k=some (.box cells elem)→∃ cells',ob' k=some (.box cells' elem)∧(ι' k).1=(ι k).1
 arr:∀ k rows size elem own,ob k=some (.arr rows size elem own)→∃ rows' own',ob' k=some (.arr rows' size elem own')∧rows.length≤rows'.length∧(rows'.length=rows.length→ι' k=ι k)
 mp:∀ k agg keys vals own,ob k=some (.mp agg keys vals own)→∃ keys' vals' own',ob' k=some (.mp agg keys' vals' own')∧(ι' k).1=(ι k).1
 same:∀ b,b < w.heap.size→(∀ k o,ob k=some o→o.owned=true→(ι k).1≠b)→w'.heap[b]?=w.heap[b]?
 ownd:∀ k o,ob' k=some o→o.owned=true→w.heap.size≤(ι' k).1∨∃ k0 o0,ob k0=some o0∧o0.owned=true∧(ι' k).1=(ι k0).1
 orig:∀ b,U' b→U b∨w.heap.size≤b∨∃ k o,ob k=some o∧o.owned=true∧(ι k).1=b
theorem Evo.refl (w:World) (U:Nat→Prop) (ι:Pl) (ob:Ob):Evo w U ι ob w U ι ob :=
 ⟨rfl,rfl,rfl,Nat.le_refl _,fun _ _=>rfl,fun _ h=>h,fun _ cells _ h=>⟨cells,h,rfl⟩,fun _ rows _ _ own h=>⟨rows,own,h,Nat.le_refl _,fun _=>rfl⟩,fun _ _ keys vals own h=>⟨keys,vals,own,h,rfl⟩,fun _ _ _=>rfl,fun k o h ho=>.inr ⟨k,o,h,ho,rfl⟩,fun _ h=>.inl h⟩
theorem Evo.trans {w w' w'':World} {U U' U'':Nat→Prop} {ι ι' ι'':Pl} {ob ob' ob'':Ob} (h:Evo w U ι ob w' U' ι' ob') (k:Evo w' U' ι' ob' w'' U'' ι'' ob''):Evo w U ι ob w'' U'' ι'' ob'':=by
 refine ⟨k.os.trans h.os,k.tape.trans h.tape,k.output.trans h.output,Nat.le_trans h.size k.size,fun b hb=>(k.kept b (h.sub b hb)).trans (h.kept b hb),fun b hb=>k.sub b (h.sub b hb),?_,?_,?_,?_,?_,?_⟩
 ·intro q cells elem hq
  obtain ⟨c',h1,h2⟩:=h.box q cells elem hq
  obtain ⟨c'',h3,h4⟩:=k.box q c' elem h1
  exact ⟨c'',h3,h4.trans h2⟩
 ·intro q rows size elem own hq
  obtain ⟨r',o',h1,h2,h3⟩:=h.arr q rows size elem own hq
  obtain ⟨r'',o'',h4,h5,h6⟩:=k.arr q r' size elem o' h1
  exact ⟨r'',o'',h4,Nat.le_trans h2 h5,fun e=>(h6 (by omega)).trans (h3 (by omega))⟩
 ·intro q agg keys vals own hq
  obtain ⟨k1,v1,o1,h1,h2⟩:=h.mp q agg keys vals own hq
  obtain ⟨k2,v2,o2,h3,h4⟩:=k.mp q agg k1 v1 o1 h1
  exact ⟨k2,v2,o2,h3,h4.trans h2⟩
 ·intro b hb hno
  refine (k.same b (Nat.lt_of_lt_of_le hb h.size) fun q o hq ho heq=>?_).trans (h.same b hb hno)
  rcases h.ownd q o hq ho with h1 | ⟨k0,o0,h1,h2,h3⟩
  ·omega
  ·exact hno k0 o0 h1 h2 (h3.symm.trans heq)
 ·intro q o hq ho
  rcases k.ownd q o hq ho with h1 | ⟨k0,o0,h1,h2,h3⟩
  ·exact .inl (Nat.le_trans h.size h1)
  ·rcases h.ownd k0 o0 h1 h2 with h4 | ⟨k1,o1,h4,h5,h6⟩
   ·exact .inl (by omega)
   ·exact .inr ⟨k1,o1,h4,h5,h3.trans h6⟩
 ·intro b hb
  rcases k.orig b hb with h1 | h1 | ⟨q,o,h1,h2,h3⟩
  ·exact h.orig b h1
  ·exact .inr (.inl (Nat.le_trans h.size h1))
  ·rcases h.ownd q o h1 h2 with h4 | ⟨k1,o1,h4,h5,h6⟩
   ·exact .inr (.inl (by omega))
   ·exact .inr (.inr ⟨k1,o1,h4,h5,h6.symm.trans h3⟩)
mutual
theorem LR.evo {w w':World} {U U':Nat→Prop} {ι ι':Pl} {ob ob':Ob} (e:Evo w U ι ob w' U' ι' ob'):∀ (x:L) (v:Value),LR w U ι ob x v→LR w' U' ι' ob' x v
 | .d x,v,h=>by simp only [LR] at h ⊢;exact DR.mono e.kept e.sub x v h
 | .slk k off n c,v,h=>by
  simp only [LR] at h ⊢
  obtain ⟨rows,size,elem,own,h1,h2,h3,h4⟩:=h
  obtain ⟨r',o',h5,h6,h7⟩:=e.arr k rows size elem own h1
  exact ⟨r',size,elem,o',h5,by omega,fun hc=>by rw [h7 (by omega)];exact h3 (by omega),h4⟩
 | .pa k i off c,v,h=>by
  simp only [LR] at h ⊢
  obtain ⟨rows,size,elem,own,h1,h2,h3,h4⟩:=h
  obtain ⟨r',o',h5,h6,h7⟩:=e.arr k rows size elem own h1
  exact ⟨r',size,elem,o',h5,by omega,fun hc=>by rw [h7 (by omega)];exact h3 (by omega),h4⟩
 | .ptr k off,v,h=>by
  simp only [LR] at h ⊢
  obtain ⟨cells,elem,h1,h2⟩:=h
  obtain ⟨c',h3,h4⟩:=e.box k cells elem h1
  exact ⟨c',elem,h3,by rw [h4];exact h2⟩
 | .fn f caps,v,h=>by
  simp only [LR] at h ⊢
  obtain ⟨cs,e1,hr⟩:=h
  exact ⟨cs,e1,LF.evo e caps cs.toList hr⟩
 | .mk k,v,h=>by
  simp only [LR] at h ⊢
  obtain ⟨agg,keys,vals,own,h1,h2⟩:=h
  obtain ⟨k1,v1,o1,h3,h4⟩:=e.mp k agg keys vals own h1
  exact ⟨agg,k1,v1,o1,h3,by rw [h4];exact h2⟩
 | .undef,v,h=>by simp [LR]
theorem LF.evo {w w':World} {U U':Nat→Prop} {ι ι':Pl} {ob ob':Ob} (e:Evo w U ι ob w' U' ι' ob'):∀ (xs:List L) (vs:List Value),LF w U ι ob xs vs→LF w' U' ι' ob' xs vs
 | [],vs,h=>by simpa [LF] using h
 | x::xs,vs,h=>by
  simp only [LF] at h ⊢
  obtain ⟨v,vs',e1,h1,h2⟩:=h
  exact ⟨v,vs',e1,LR.evo e x v h1,LF.evo e xs vs' h2⟩
end
mutual
theorem VR.evo {w w':World} {U U':Nat→Prop} {ι ι':Pl} {ob ob':Ob} (e:Evo w U ι ob w' U' ι' ob'):∀ (x:V) (v:Value),VR w U ι ob x v→VR w' U' ι' ob' x v
 | .one x,v,h=>by simp only [VR] at h ⊢;exact LR.evo e x v h
 | .agg xs,v,h=>by
  simp only [VR] at h ⊢
  obtain ⟨cs,e1,hr⟩:=h
  exact ⟨cs,e1,LF.evo e xs cs.toList hr⟩
 | .tup xs,v,h=>by
  simp only [VR] at h ⊢
  obtain ⟨cs,e1,hr⟩:=h
  exact ⟨cs,e1,VF.evo e xs cs.toList hr⟩
theorem VF.evo {w w':World} {U U':Nat→Prop} {ι ι':Pl} {ob ob':Ob} (e:Evo w U ι ob w' U' ι' ob'):∀ (xs:List V) (vs:List Value),VF w U ι ob xs vs→VF w' U' ι' ob' xs vs
 | [],vs,h=>by simpa [VF] using h
 | x::xs,vs,h=>by
  simp only [VF] at h ⊢
  obtain ⟨v,vs',e1,h1,h2⟩:=h
  exact ⟨v,vs',e1,VR.evo e x v h1,VF.evo e xs vs' h2⟩
end
end
section
inductive Q (α:Type) where
 | ret (a:α)
 | get (k:Nat) (f:Option O→Q α)
 | fail
def Q.bind {α β:Type}:Q α→(α→Q β)→Q β
 | .ret a,f=>f a
 | .get k g,f=>.get k fun o=>(g o).bind f
 | .fail,_=>.fail
def Q.run {α:Type} (ob:Ob):Q α→Option α
 | .ret a=>some a
 | .get k f=>(f (ob k)).run ob
 | .fail=>none
def Q.reads {α:Type} (ob:Ob):Q α→List Nat
 | .ret _=>[]
 | .get k f=>k::(f (ob k)).reads ob
 | .fail=>[]
def Q.mapM {α β:Type} (f:α→Q β):List α→Q (List β)
 | []=>.ret []
 | x::xs=>(f x).bind fun y=>(Q.mapM f xs).bind fun ys=>.ret (y::ys)
def Q.opt {α:Type}:Option α→Q α
 | some a=>.ret a
 | none=>.fail
def Q.guard {α:Type} (b:Bool) (q:Q α):Q α:=match b with | true=>q | false=>.fail
theorem Q.run_bind {α β:Type} (ob:Ob) (q:Q α) (f:α→Q β):(q.bind f).run ob=(q.run ob).bind fun a=>(f a).run ob:=by
 induction q with
 | ret a=>rfl
 | get k g ih=>simp only [Q.bind,Q.run];exact ih _
 | fail=>rfl
theorem Q.run_guard {α:Type} (ob:Ob) (b:Bool) (q:Q α):(Q.guard b q).run ob=if b=true then q.run ob else none:=by cases b<;>simp [Q.guard,Q.run]
theorem Q.run_opt {α:Type} (ob:Ob) (o:Option α):(Q.opt o).run ob=o:=by cases o<;>rfl
theorem Q.run_agree {α:Type} {ob ob':Ob}:∀ (q:Q α),(∀ k∈q.reads ob,ob' k=ob k)→q.run ob'=q.run ob∧q.reads ob'=q.reads ob
 | .ret a,_=>⟨rfl,rfl⟩
 | .get k f,h=>by
  have hk:ob' k=ob k:=h k (by simp [Q.reads])
  have:=Q.run_agree (f (ob k)) (fun j hj=>h j (by simp [Q.reads,hj]))
  simp only [Q.run,Q.reads,hk]
  exact ⟨this.1,by rw [this.2]⟩
 | .fail,_=>⟨rfl,rfl⟩
def q1b (P:Program) (t:Nat):Option Nat:=(P.info? t).map (·.size)
def q4U (P:Program) (t:Nat):Option Nat:=(P.info? t).map (·.bytes)
def q25 (P:Program) (t:Nat):Option (List Value):=(P.info? t).bind fun i=>i.zero.bind fun z=>if z.cells.toList.all plain then some z.cells.toList else none
def q5j:TypeDesc→Bool | .struct _ | .array _ _=>true | _=>false
def q45 (P:Program) (t:Nat):Option Bool:=(P.underlying t).map q5j
def q1Y (P:Program) (t:Nat):Option Nat:=match P.underlying t with | some (.slice e)=>some e | _=>none
def qjr (P:Program) (t:Nat):Option (Nat×Nat):=match P.underlying t with | some (.array n e)=>some (n,e) | _=>none
def q6d (P:Program) (t f:Nat):Option (Nat×Nat×Bool):=match P.underlying t with
 | some (.struct fs)=>match fs[f]? with
  | some fd=>match q1b P fd.type,q45 P fd.type with
   | some s,some g=>if s=0 then none else some (fd.offset,s,g)
   | _,_=>none
  | none=>none
 | _=>none
def qhQ (P:Program) (t:Nat):Option IntKind:=match P.underlying t with | some (.int k)=>some k | _=>none
def L.isDef:L→Bool | .undef=>false | _=>true
def V.cells:V→Option (List L)
 | .one x=>if x.isDef then some [x] else none
 | .agg xs=>if xs.all L.isDef then some xs else none
 | .tup _=>none
def q5e (vs:List Value):List L:=vs.map fun v=>.d (.lit v)
def mkV (agg:Bool) (xs:List L):Option V:=match agg,xs with
 | true,xs=>some (.agg xs)
 | false,[x]=>some (.one x)
 | false,_=>none
def toD:Nat→L→Q D
 | _,.d x=>.ret x
 | _,.slk k off n c=>.get k fun
  | some (.arr rows size _ _)=>Q.guard (decide (c=rows.length)) (.ret (.sl size ((rows.drop off).take n)))
  | _=>.fail
 | _,.pa k i off c=>.get k fun
  | some (.arr rows _ _ _)=>Q.guard (decide (c=rows.length)) ((Q.opt rows[i]?).bind fun r=>.ret (.dp r off))
  | _=>.fail
 | n+1,.ptr k off=>.get k fun
  | some (.box cells _)=>(Q.mapM (toD n) cells).bind fun ds=>.ret (.dp ds off)
  | _=>.fail
 | n+1,.fn f caps=>(Q.mapM (toD n) caps).bind fun ds=>.ret (.fn f ds)
 | _,.mk k=>.get k fun
  | some (.mp agg keys vals _)=>.ret (.mp agg keys vals)
  | _=>.fail
 | _,_=>.fail
def frz:L→Q (D×List (Nat×O))
 | .d x=>.ret (x,[])
 | .slk k off n c=>.get k fun
  | some (.arr rows size elem _)=>Q.guard (decide (c=rows.length)) (.ret (.sl size ((rows.drop off).take n),[(k,.arr rows size elem false)]))
  | _=>.fail
 | .mk k=>.get k fun
  | some (.mp agg keys vals _)=>.ret (.mp agg keys vals,[(k,.mp agg keys vals false)])
  | _=>.fail
 | _=>.fail
abbrev Res:=V×List (Nat×O)
def fresh (dst:Option Nat) (o:O) (v:Nat→V):Q Res:=match dst with
 | some k=>.get k fun
  | none=>.ret (v k,[(k,o)])
  | some _=>.fail
 | none=>.fail
def q0E (o:Option V):Q Res:=(Q.opt o).bind fun v=>.ret (v,[])
def aBin (op:BinOp) (k:IntKind) (a:Int) (k':IntKind) (b:Int):Option Value:=match op with
 | .shl=>if b < 0 then none else some (.int k (k.wrap (a*2 ^ (min b.toNat k.bits))))
 | .shr=>if b < 0 then none else some (.int k (a.fdiv (2 ^ (min b.toNat k.bits))))
 | _=>if k=k' then match op with
   | .add=>some (.int k (k.wrap (a+b)))
   | .sub=>some (.int k (k.wrap (a - b)))
   | .mul=>some (.int k (k.wrap (a*b)))
   | .quo=>if b=0 then none else some (.int k (k.wrap (a.tdiv b)))
   | .rem=>if b=0 then none else some (.int k (a.tmod b))
   | .eql=>some (.bool (a==b))
   | .neq=>some (.bool (a != b))
   | .lss=>some (.bool (a < b))
   | .leq=>some (.bool (a≤b))
   | .gtr=>some (.bool (a > b))
   | .geq=>some (.bool (a≥b))
   | .and=>some (.int k (k.wrap (BitVec.ofInt k.bits a &&& BitVec.ofInt k.bits b).toNat))
   | .or=>some (.int k (k.wrap (BitVec.ofInt k.bits a ||| BitVec.ofInt k.bits b).toNat))
   | .xor=>some (.int k (k.wrap (BitVec.ofInt k.bits a ^^^ BitVec.ofInt k.bits b).toNat))
   | .andNot=>some (.int k (k.wrap (BitVec.ofInt k.bits a &&& ~~~(BitVec.ofInt k.bits b)).toNat))
   | _=>none
  else none
def aStr (op:BinOp) (a b:ByteArray):Option Value:=match op with
 | .add=>if ((a.size+b.size:Nat):Int) > IntKind.i64.max then none else some (.string (a++b))
 | .eql=>some (.bool (a.toList==b.toList))
 | .neq=>some (.bool !(a.toList==b.toList))
 | .lss=>some (.bool (Op.bytesLess a.toList b.toList))
 | .leq=>some (.bool (Op.bytesLess a.toList b.toList||a.toList==b.toList))
 | .gtr=>some (.bool !(Op.bytesLess a.toList b.toList||a.toList==b.toList))
 | .geq=>some (.bool !(Op.bytesLess a.toList b.toList))
 | _=>none
def V.lit?:V→Option Value
 | .one (.d (.lit v))=>some v
 | _=>none
def q3q (v:Value):V:=.one (.d (.lit v))
def vInt?:V→Option (IntKind×Int)
 | .one (.d (.lit (.int k n)))=>some (k,n)
 | _=>none
def vBool?:V→Option Bool
 | .one (.d (.lit (.bool b)))=>some b
 | _=>none
end
section
def q93:Value→V
 | .agg cs=>if cs.toList.all plain then .agg (q5e cs.toList) else .one .undef
 | v=>if plain v then .one (.d (.lit v)) else .one .undef
def ev (env:Nat→V):Operand→V
 | .tmp t=>env t
 | .const v=>q93 v
 | .global _=>.one .undef
 | .func f=>if f < 2000000 then .one (.fn f []) else .one .undef
def q2S (ob:Ob) (k:Nat) (o:O):Ob:=fun j=>if j=k then some o else ob j
def q1k (ob:Ob):List (Nat×O)→Ob
 | []=>ob
 | (k,o)::r=>q1k (q2S ob k o) r
def q6M (place:Nat→Option (Nat×Nat)) (cells:List L):List (Nat×V)→Option (List L)
 | []=>some cells
 | (i,v)::rest=>match place i,v.cells with
  | some (off,size),some cs=>if cs.length=size∧off+size≤cells.length then q6M place (cells.take off++cs++cells.drop (off+size)) rest else none
  | _,_=>none
def q70 (P:Program) (t:Nat) (i:Nat):Option (Nat×Nat):=match qjr P t with
 | some (_,e)=>(q1b P e).map fun s=>(i*s,s)
 | none=>(q6d P t i).map fun (o,s,_)=>(o,s)
def q1q (agg:Bool) (s off:Nat) (cells:List L):Option V :=
 if agg then (if off+s≤cells.length then some (.agg ((cells.drop off).take s)) else none)
 else cells[off]?.map .one
def layC (P:Program) (t:Nat):Bool:=match P.underlying t with
 | some (.struct fs)=>fs.toList.all fun f=>(q1b P f.type).isSome
 | some (.array _ e)=>(q1b P e).isSome
 | _=>false
def q6y (agg:Bool) (s:Nat):V→Q Res
 | .one (.ptr k off)=>.get k fun
  | some (.box cells _)=>q0E (q1q agg s off cells)
  | _=>.fail
 | .one (.pa k i off c)=>.get k fun
  | some (.arr rows _ _ _)=>Q.guard (decide (c=rows.length)) ((Q.opt rows[i]?).bind fun r=>q0E (q1q agg s off (r.map .d)))
  | _=>.fail
 | .one (.d (.dp r off))=>q0E (q1q agg s off (r.map .d))
 | _=>.fail
def q5l:List L→Q (List D×List (Nat×O))
 | []=>.ret ([],[])
 | x::xs=>(frz x).bind fun (d,u)=>(q5l xs).bind fun (ds,us)=>.ret (d::ds,u++us)
def q6U:V→List L→Q Res
 | .one (.ptr k off),cs=>.get k fun
  | some (.box cells elem)=>Q.guard (decide (off+cs.length≤cells.length)) (.ret (.one .undef,[(k,.box (cells.take off++cs++cells.drop (off+cs.length)) elem)]))
  | _=>.fail
 | .one (.pa k i off c),cs=>.get k fun
  | some (.arr rows size elem own)=>Q.guard (own&&decide (c=rows.length)) ((Q.opt rows[i]?).bind fun r =>
    (q5l cs).bind fun (ds,us)=>Q.guard (decide (off+ds.length≤r.length)&&us.isEmpty) (.ret (.one .undef,[(k,.arr (rows.set i (r.take off++ds++r.drop (off+ds.length))) size elem own)])))
  | _=>.fail
 | _,_=>.fail
def q3o (n:Nat):V→Option V
 | .one (.ptr k off)=>some (.one (.ptr k (off+n)))
 | .one (.pa k i off c)=>some (.one (.pa k i (off+n) c))
 | .one (.d (.dp r off))=>some (.one (.d (.dp r (off+n))))
 | _=>none
def q2V (arr:Option (Nat×Nat)) (es:Nat) (x:V) (i:Int):Q Res:=match arr with
 | some (n,_)=>q0E (if 0≤i∧i < n then q3o (i.toNat*es) x else none)
 | none=>match x with
  | .one (.slk k off n c)=>.get k fun
   | some (.arr rows size _ _)=>Q.guard (decide (c=rows.length∧size=es)) (q0E (if 0≤i∧i < n then some (.one (.pa k (off+i.toNat) 0 c)) else none))
   | _=>.fail
  | .one (.d (.sl size rows))=>Q.guard (decide (size=es)) (q0E (if 0≤i then rows[i.toNat]?.map fun r=>.one (.d (.dp r 0)) else none))
  | _=>.fail
def qaO (es:Nat) (x:V) (l h:Option Int):Q Res:=match x with
 | .one (.slk k off n c)=>.get k fun
  | some (.arr rows size _ _)=>Q.guard (decide (c=rows.length∧size=es)) (q0E (
    if 0≤l.getD 0∧l.getD 0≤h.getD n∧h.getD n≤n then
     (if l.getD 0=0∨l.getD 0 < h.getD n then some (.one (.slk k (off+(l.getD 0).toNat) (h.getD n - l.getD 0).toNat c)) else some (.one (.d (.sl es []))))
    else none))
  | _=>.fail
 | .one (.d (.sl size rows))=>Q.guard (decide (size=es)) (q0E (
   if 0≤l.getD 0∧l.getD 0≤h.getD rows.length∧h.getD rows.length≤rows.length then some (.one (.d (.sl size ((rows.drop (l.getD 0).toNat).take (h.getD rows.length - l.getD 0).toNat)))) else none))
 | .one (.d (.lit (.slice none 0 0)))=>q0E (if l.getD 0=0∧h.getD 0=0 then some x else none)
 | _=>.fail
def lenQ:V→Option Nat
 | .one (.slk _ _ n _)=>some n
 | .one (.d (.sl _ rows))=>some rows.length
 | .one (.d (.lit (.slice none 0 0)))=>some 0
 | _=>none
def q3i:V→Bool | .agg _=>true | _=>false
def strC (P:Program) (t:Nat):Bool:=match P.underlying t with | some .string=>true | _=>false
def qfn:V→Option Nat
 | .one (.d (.lit (.string s)))=>some s.size
 | _=>none
def qf2 (ρ:Operand→V):Option Operand→Option (Option Int)
 | none=>some none
 | some x=>(vInt? (ρ x)).map fun p=>some p.2
def mm2 (mx:Bool) (a b:V):Option V:=match vInt? a,vInt? b with
 | some p,some q=>if p.1=q.1 then some (q3q (.int p.1 (if mx then max p.2 q.2 else min p.2 q.2))) else none
 | _,_=>none
def mmF (mx:Bool):V→List V→Option V
 | a,[]=>some a
 | a,y::r=>(mm2 mx a y).bind fun z=>mmF mx z r
def q7M (mx:Bool):List V→Option V
 | []=>none
 | x::r=>mmF mx x r
def q1O:List V→Option (List L)
 | []=>some []
 | .one x::r=>if x.isDef then (q1O r).map (x::·) else none
 | _::_=>none
def q2g (ρ:Operand→V) (size:Nat) (rows:List (List D)):List (Nat×Operand)→Q (List (List D)×List (Nat×O))
 | []=>.ret (rows,[])
 | (i,x)::rest=>(Q.opt (ρ x).cells).bind fun cs=>Q.guard (decide (cs.length=size∧i < rows.length)) ((q5l cs).bind fun (ds,us) =>
   (q2g ρ size (rows.set i ds) rest).bind fun (rows',us')=>.ret (rows',us++us'))
def q2e (es:Nat):V→Q (List (List D))
 | .one (.d (.lit (.slice none 0 0)))=>.ret []
 | .one (.d (.sl size rows))=>Q.guard (decide (size=es)) (.ret rows)
 | .one (.slk k off n c)=>.get k fun
  | some (.arr rows size _ _)=>Q.guard (decide (c=rows.length∧size=es)) (.ret ((rows.drop off).take n))
  | _=>.fail
 | _=>.fail
def q2F (dst:Option Nat) (elem size bytes:Nat) (s:V) (new:List (List D)):Q Res:=match s with
 | .one (.d (.lit (.slice none 0 0))) =>
  if new=[] then .ret (s,[]) else Q.guard (decide (new.length*bytes≤140737488355328∧new.length≤maxLen)) (fresh dst (.arr new size elem true) fun k=>.one (.slk k 0 new.length new.length))
 | .one (.slk k 0 n c)=>.get k fun
  | some (.arr rows size' elem' own)=>Q.guard (own&&decide (c=rows.length∧n=rows.length∧size'=size∧elem'=elem∧(n+new.length)*bytes≤140737488355328∧n+new.length≤maxLen))
    (.ret (.one (.slk k 0 (n+new.length) (n+new.length)),[(k,.arr (rows++new) size elem true)]))
  | _=>.fail
 | _=>.fail
def qcm (P:Program) (t:Nat) (g:Bool):Bool:=match (P.info? t).bind (·.zero) with
 | some (.agg _)=>g
 | some _=>!g
 | none=>false
def qle:TypeDesc→Option Nat
 | .int _=>some 0
 | .string=>some 1
 | .bool=>some 2
 | _=>none
def qhP (P:Program) (t:Nat):Option Nat:=match P.underlying t with
 | some (.map k _)=>(P.underlying k).bind qle
 | _=>none
def q66 (P:Program) (t:Nat):Option Nat:=match P.underlying t with
 | some (.map _ e)=>some e
 | _=>none
def kEq:Nat→Value→Value→Option Bool
 | 0,.int k a,.int k' b=>if k=k' then some (a==b) else none
 | 1,.string a,.string b=>some (a==b)
 | 2,.bool a,.bool b=>some (a==b)
 | _,_,_=>none
def q3f (kd:Nat) (k:Value):List Value→Nat→Option (Option Nat)
 | [],_=>some none
 | x::xs,i=>match kEq kd k x with
  | some true=>some (some i)
  | some false=>q3f kd k xs (i+1)
  | none=>none
def qep (agg:Bool) (zs:List Value) (vals:List (List D)):Option Nat→Option (V×Bool)
 | some j=>vals[j]?.bind fun r=>(mkV agg (r.map .d)).map fun v=>(v,true)
 | none=>(mkV agg (q5e zs)).map fun v=>(v,false)
def q7S (kd:Nat) (agg ok:Bool) (zs:List Value) (x:V) (k:Value):Q Res :=
 (match x with
  | .one (.d (.mp agg' keys vals))=>Q.guard (agg==agg') (Q.opt ((q3f kd k keys 0).bind (qep agg zs vals)))
  | .one (.mk key)=>Q.get key fun
   | some (.mp agg' keys vals _)=>Q.guard (agg==agg') (Q.opt ((q3f kd k keys 0).bind (qep agg zs vals)))
   | _=>.fail
  | .one (.d (.lit (.map none)))=>Q.opt (qep agg zs [] none)
  | _=>.fail).bind fun p=>.ret (if ok then .tup [p.1,q3q (.bool p.2)] else p.1,[])
def q6E:Nat→Value→Bool
 | 0,.int _ _=>true
 | 1,.string _=>true
 | 2,.bool _=>true
 | _,_=>false
def qjH (kd:Nat) (agg:Bool) (x:V) (k:Value) (v:V):Q Res:=match x with
 | .one (.mk key)=>.get key fun
  | some (.mp agg' keys vals own)=>Q.guard (own&&agg==agg'&&q3i v==agg&&q6E kd k) ((Q.opt v.cells).bind fun cs=>(q5l cs).bind fun (ds,us)=>Q.guard us.isEmpty ((Q.opt (q3f kd k keys 0)).bind fun
    | some j=>.ret (.one .undef,[(key,.mp agg keys (vals.set j ds) true)])
    | none=>.ret (.one .undef,[(key,.mp agg (keys++[k]) (vals++[ds]) true)])))
  | _=>.fail
 | _=>.fail
def conC (P:Program) (t:Nat):Bool:=match P.underlying t with | some (.interface _)=>false | some _=>true | none=>false
def qkX (P:Program) (t:Nat) (name:String):Option Nat:=match P.info? t with
 | some i=>match i.methods.find? (fun m=>m.name==name) with
  | some m=>match m.path.toList,m.func,P.underlying t with
   | [],some (_,false),some (.pointer _)=>none
   | [],some (f,false),some _=>some f
   | _,_,_=>none
  | none=>none
 | none=>none
def qbC (P:Program) (name:String):V→Option (Nat×V)
 | .one (.d (.ifc t true row))=>(qkX P t name).map fun f=>(f,.agg (row.map .d))
 | .one (.d (.ifc t false [x]))=>(qkX P t name).map fun f=>(f,.one (.d x))
 | _=>none
def qjq (P:Program) (t:Nat):Bool:=match P.underlying t with | some .bool=>true | _=>false
def qgC (rec:Nat→Option (List Bool)) (P:Program):Nat→List Field→Option (List Bool)
 | _,[]=>some []
 | off,f::fs=>match rec f.type with
  | some ks=>if f.offset=off∧f.name ≠ "_" ∧ q1b P f.type=some ks.length∧0 < ks.length then (qgC rec P (off+ks.length) fs).map (ks++·) else none
  | none=>none
def q84 (P:Program):Nat→Nat→Option (List Bool)
 | 0,_=>none
 | d+1,t=>match P.underlying t with
  | some (.int _)=>some [true]
  | some .bool=>some [false]
  | some (.struct fs)=>if P.stoodInHeld t=true∨P.eqGuardType P.depth t=true then none else qgC (q84 P d) P 0 fs.toList
  | _=>none
def q8A:Bool→Value→Value→Option Bool
 | true,.int k a,.int k' b=>if k=k' then some (a==b) else none
 | false,.bool a,.bool b=>some (a==b)
 | _,_,_=>none
def q1x:List Bool→List L→List L→Option Bool
 | [],[],[]=>some true
 | k::ks,.d (.lit u)::xs,.d (.lit v)::ys=>match q8A k u v,q1x ks xs ys with
  | some b,some c=>some (b&&c)
  | _,_=>none
 | _,_,_=>none
def nilQ (op:BinOp):V→V→Option V
 | .one (.d (.sl _ _)),.one (.d (.lit (.slice none 0 0)))=>match op with
  | .eql=>some (q3q (.bool false))
  | .neq=>some (q3q (.bool true))
  | _=>none
 | .one (.d (.lit (.slice none 0 0))),.one (.d (.lit (.slice none 0 0)))=>match op with
  | .eql=>some (q3q (.bool true))
  | .neq=>some (q3q (.bool false))
  | _=>none
 | _,_=>none
def qaQ (P:Program) (op:BinOp) (t:Nat) (x y:V):Option V:=match x,y with
 | .one (.d (.lit (.int k a))),.one (.d (.lit (.int k' b)))=>(aBin op k a k' b).map q3q
 | .one (.d (.lit (.bool a))),.one (.d (.lit (.bool b)))=>if qjq P t=true then (match op with
   | .eql=>some (q3q (.bool (a==b)))
   | .neq=>some (q3q (.bool (a != b)))
   | _=>none) else none
 | .one (.d (.lit (.string a))),.one (.d (.lit (.string b)))=>(aStr op a b).map q3q
 | .agg xs,.agg ys=>match q84 P 8 t with
  | some ks=>if q45 P t=some true then (match op,q1x ks xs ys with
   | .eql,some b=>some (q3q (.bool b))
   | .neq,some b=>some (q3q (.bool !b))
   | _,_=>none) else none
  | none=>none
 | x,y=>if (q1Y P t).isSome=true then nilQ op x y else none
def q2o (zs:List Value):V→Q Res
 | .one (.d (.lit (.slice none 0 0)))=>.ret (.tup [],[])
 | .one (.slk key off n c)=>.get key fun
  | some (.arr rows size elem own)=>Q.guard (own&&decide (c=rows.length∧size=zs.length∧off+n=rows.length)) (.ret (.tup [],[(key,.arr (rows.take off++List.replicate n (zs.map .lit)) size elem true)]))
  | _=>.fail
 | _=>.fail
def q7T (dst:Option Nat) (rows:List (List D)) (s e len:Nat):Q Res:=match dst with
 | some _=>fresh dst (.arr rows s e true) fun k=>.one (.slk k 0 len len)
 | none=>.ret (.one (.d (.sl s rows)),[])
def aop (P:Program) (dst:Option Nat) (ρ:Operand→V):Op→Q Res
 | .move x | .assign x=>.ret (ρ x,[])
 | .pick c a b=>q0E ((vBool? (ρ c)).map fun t=>if t=true then ρ a else ρ b)
 | .box elem x=>(Q.opt (ρ x).cells).bind fun cs=>match dst with
  | some _=>fresh dst (.box cs elem) fun k=>.one (.ptr k 0)
  | none=>(q5l cs).bind fun (ds,us)=>.ret (.one (.d (.dp ds 0)),us)
 | .alloc elem=>(Q.opt (q25 P elem)).bind fun zs=>fresh dst (.box (q5e zs) elem) fun k=>.one (.ptr k 0)
 | .build t parts=>(Q.opt (q25 P t)).bind fun zs=>Q.guard (q45 P t==some true&&layC P t) (q0E ((q6M (q70 P t) (q5e zs) (parts.toList.map fun p=>(p.1,ρ p.2))).map .agg))
 | .buildSlice t len parts=>(Q.opt (q1Y P t)).bind fun e=>(Q.opt (q1b P e)).bind fun s=>(Q.opt (q25 P e)).bind fun zs =>
   Q.guard (decide (0 < s∧zs.length=s∧len*s≤16777216)) ((q2g ρ s (List.replicate len (zs.map .lit)) parts.toList).bind fun (rows,us) =>
    (q7T dst rows s e len).bind fun (v,u)=>.ret (v,us++u))
 | .load t a=>(Q.opt (q45 P t)).bind fun g=>(Q.opt (q1b P t)).bind fun s=>q6y g s (ρ a)
 | .store t a x=>(Q.opt (ρ x).cells).bind fun cs=>Q.guard (q1b P t==some cs.length) (q6U (ρ a) cs)
 | .nilCheck x=>match ρ x with
  | .one (.ptr ..) | .one (.pa ..) | .one (.d (.dp ..))=>.ret (ρ x,[])
  | _=>.fail
 | .binOp op t x y _=>q0E (qaQ P op t (ρ x) (ρ y))
 | .unOp op _ x=>q0E (match op,(ρ x).lit? with
  | .not,some (.bool b)=>some (q3q (.bool !b))
  | .neg,some (.int k n)=>some (q3q (.int k (k.wrap (0 - n))))
  | _,_=>none)
 | .makeFunc fn first captured=>match fn,q1O (first.toList.map ρ),q1O (captured.toList.map ρ) with
  | .func f,some [],some caps=>if f < 2000000 then .ret (.one (.fn f caps),[]) else .fail
  | .func f,some (c::cs),some []=>.ret (.one (.fn (f+2000000) (c::cs)),[])
  | _,_,_=>.fail
 | .makeInterface t x=>Q.guard (conC P t&&q45 P t==some (q3i (ρ x))) ((Q.opt (ρ x).cells).bind fun cs=>(q5l cs).bind fun (ds,us)=>match us with
   | []=>.ret (.one (.d (.ifc t (q3i (ρ x)) ds)),[])
   | _=>.fail)
 | .makeSlice t l c=>(Q.opt (q1Y P t)).bind fun e=>(Q.opt (q1b P e)).bind fun s=>(Q.opt (q25 P e)).bind fun zs=>(Q.opt (q4U P e)).bind fun bs =>
   (Q.opt (vInt? (ρ l))).bind fun n=>(Q.opt (vInt? (ρ c))).bind fun m=>Q.guard (decide (0 < s∧zs.length=s∧n=m∧0≤n.2∧bs*n.2≤140737488355328∧n.2≤9223372036854775807))
    (fresh dst (.arr (List.replicate n.2.toNat (zs.map .lit)) s e true) fun k=>.one (.slk k 0 n.2.toNat n.2.toNat))
 | .slice t x lo hi mx=>Q.guard ((q1Y P t).isSome&&mx.isNone) ((Q.opt (qf2 ρ lo)).bind fun l=>(Q.opt (qf2 ρ hi)).bind fun h=>(Q.opt (q1Y P t)).bind fun e=>(Q.opt (q1b P e)).bind fun s=>qaO s (ρ x) l h)
 | .fieldAddr s x f=>(Q.opt (q6d P s f)).bind fun p=>q0E (q3o p.1 (ρ x))
 | .field s x f=>(Q.opt (q6d P s f)).bind fun p=>match ρ x with
  | .agg cs=>q0E (q1q p.2.2 p.2.1 p.1 cs)
  | _=>.fail
 | .indexAddr t x ix=>(Q.opt (vInt? (ρ ix))).bind fun i=>match qjr P t,q1Y P t with
  | some (n,e),_=>(Q.opt (q1b P e)).bind fun s=>q2V (some (n,e)) s (ρ x) i.2
  | none,some e=>(Q.opt (q1b P e)).bind fun s=>q2V none s (ρ x) i.2
  | none,none=>.fail
 | .index t x ix=>(Q.opt (vInt? (ρ ix))).bind fun i=>(Q.opt (qjr P t)).bind fun p=>(Q.opt (q1b P p.2)).bind fun s=>(Q.opt (q45 P p.2)).bind fun g=>match ρ x with
  | .agg cs=>Q.guard (decide (0≤i.2∧i.2 < p.1)) (q0E (q1q g s (i.2.toNat*s) cs))
  | _=>.fail
 | .convert src dst x=>(Q.opt (qhQ P src)).bind fun _=>(Q.opt (qhQ P dst)).bind fun k=>(Q.opt (vInt? (ρ x))).bind fun n=>.ret (q3q (.int k (k.wrap n.2)),[])
 | .makeMap t none=>Q.guard ((qhP P t).isSome) ((Q.opt ((q66 P t).bind (q45 P))).bind fun g=>fresh dst (.mp g [] [] true) fun k=>.one (.mk k))
 | .lookup t x ix ok=>(Q.opt (qhP P t)).bind fun kd=>(Q.opt (q66 P t)).bind fun e=>(Q.opt (q45 P e)).bind fun g=>(Q.opt (q25 P e)).bind fun zs=>(Q.opt (ρ ix).lit?).bind fun k=>Q.guard (q6E kd k&&qcm P e g) (q7S kd g ok zs (ρ x) k)
 | .mapUpdate t m k v=>(Q.opt (qhP P t)).bind fun kd=>(Q.opt (q66 P t)).bind fun e=>(Q.opt (q45 P e)).bind fun g=>(Q.opt (ρ k).lit?).bind fun kv=>qjH kd g (ρ m) kv (ρ v)
 | .extract t i=>match ρ t with
  | .tup vs=>q0E vs[i]?
  | _=>.fail
 | .call c=>match c.callee with
  | .builtin .len=>match c.args.toList with
   | [x]=>match c.argTypes.toList with
    | [t]=>match q1Y P t with
     | some _=>q0E ((lenQ (ρ x)).map fun (n:Nat)=>q3q (.int .i64 (n:Int)))
     | none=>Q.guard (strC P t) (q0E ((qfn (ρ x)).map fun (n:Nat)=>q3q (.int .i64 (n:Int))))
    | _=>.fail
   | _=>.fail
  | .builtin .cap=>match c.args.toList,c.argTypes.toList with
   | [x],[t]=>match ρ x with
    | .one (.d (.lit (.slice none 0 0)))=>Q.guard (q1Y P t).isSome (.ret (q3q (.int .i64 0),[]))
    | _=>.fail
   | _,_=>.fail
  | .builtin .clear=>match c.args.toList,c.argTypes.toList with
   | [x],[t]=>(Q.opt (q1Y P t)).bind fun e=>(Q.opt (q25 P e)).bind fun zs=>Q.guard (decide (0 < zs.length)) (q2o zs (ρ x))
   | _,_=>.fail
  | .builtin .min=>q0E (q7M false (c.args.toList.map ρ))
  | .builtin .max=>q0E (q7M true (c.args.toList.map ρ))
  | .builtin .append=>match c.args.toList,c.argTypes.toList with
   | [s,x],[t,t']=>match qhQ P t' with
    | some _=>match ρ s with
     | .one (.d (.lit (.slice none 0 0)))=>(Q.opt (q1Y P t)).bind fun e=>(Q.opt (q1b P e)).bind fun sz=>(Q.opt (q4U P e)).bind fun bs=>(Q.opt (q25 P e)).bind fun zs=>(Q.opt (vInt? (ρ x))).bind fun n =>
      Q.guard (decide (0 < sz∧zs.length=sz∧0 < n.2∧bs*n.2≤140737488355328∧n.2≤9223372036854775807)) (fresh dst (.arr (List.replicate n.2.toNat (zs.map .lit)) sz e true) fun k=>.one (.slk k 0 n.2.toNat n.2.toNat))
     | _=>.fail
    | none=>(Q.opt (q1Y P t)).bind fun e=>(Q.opt (q1b P e)).bind fun sz=>(Q.opt (q4U P e)).bind fun bs=>(Q.opt (q25 P e)).bind fun zs=>Q.guard (decide (t=t'∧0 < sz∧0 < bs∧zs.length=sz)) ((q2e sz (ρ x)).bind fun new=>q2F dst e sz bs (ρ s) new)
   | _,_=>.fail
  | _=>.fail
 | _=>.fail
end
section
variable {P:Program} {w:World} {U:Nat→Prop} {ι:Pl} {ob:Ob}
def q75 (ι:Pl) (k:Nat) (p:Nat×Nat):Pl:=fun j=>if j=k then p else ι j
theorem q0t (ob:Ob) (k:Nat) (o:O):q2S ob k o k=some o:=by simp [q2S]
theorem q0f (ob:Ob) {k j:Nat} (o:O) (h:j≠k):q2S ob k o j=ob j:=by simp [q2S,h]
theorem q09 (ι:Pl) (k:Nat) (p:Nat×Nat):q75 ι k p k=p:=by simp [q75]
theorem q0l (ι:Pl) {k j:Nat} (p:Nat×Nat) (h:j≠k):q75 ι k p j=ι j:=by simp [q75,h]
theorem Mem.block {k:Nat} {o:O} (hm:Mem w U ι ob) (h:ob k=some o):(ι k).1 < w.heap.size:=by
 have:=hm.obj k o h
 cases o with
 | box cells elem=>obtain ⟨cur,h1,_⟩:=this;exact (Array.getElem?_eq_some_iff.1 h1).1
 | arr rows size elem own=>obtain ⟨cur,h1,_⟩:=this;exact (Array.getElem?_eq_some_iff.1 h1).1
 | mp agg keys vals own=>obtain ⟨es,clock,h1,_⟩:=this;exact (Array.getElem?_eq_some_iff.1 h1).1
theorem Mem.notU {k:Nat} {o:O} (hm:Mem w U ι ob) (h:ob k=some o) (ho:o.owned=true):¬ U (ι k).1:=by
 have:=hm.obj k o h
 cases o with
 | box cells elem=>obtain ⟨cur,_,_,h1⟩:=this;exact h1
 | arr rows size elem own =>
  obtain ⟨cur,_,_,_,_,_,h1⟩:=this
  simp [O.owned] at ho
  simpa [ho] using h1
 | mp agg keys vals own =>
  obtain ⟨es,clock,_,_,h1⟩:=this
  simp [O.owned] at ho
  simpa [ho] using h1
theorem OR.evo {w':World} {U':Nat→Prop} {ι':Pl} {ob':Ob} {k:Nat} {o:O} (e:Evo w U ι ob w' U' ι' ob') (hι:ι' k=ι k) (hb:w'.heap[(ι k).1]?=w.heap[(ι k).1]?) (hU:U' (ι k).1↔U (ι k).1)
  (h:OR w U ι ob k o):OR w' U' ι' ob' k o:=by
 cases o with
 | box cells elem =>
  obtain ⟨cur,h1,h2,h3⟩:=h
  exact ⟨cur,by rw [hι,hb];exact h1,LF.evo e _ _ h2,by rw [hι,hU];exact h3⟩
 | arr rows size elem own =>
  obtain ⟨cur,h1,h2,h3,h4,h5,h6⟩:=h
  refine ⟨cur,by rw [hι,hb];exact h1,by rw [hι];exact h2,by rw [hι];exact h3,by rw [hι];exact h4,by rw [hι];exact RR.mono e.kept e.sub _ hb rows 0 size h5,?_⟩
  rw [hι]
  cases own
  ·simpa [hU] using h6
  ·simpa [hU] using h6
 | mp agg keys vals own =>
  obtain ⟨es,clock,h1,h2,h3⟩:=h
  refine ⟨es,clock,by rw [hι,hb];exact h1,KR.mono e.kept e.sub vals agg keys es.toList h2,?_⟩
  rw [hι]
  cases own
  ·simpa [hU] using h3
  ·simpa [hU] using h3
def qhT (o new:O) (p q:Nat×Nat):Prop:=match o,new with
 | .box _ elem,.box _ elem'=>elem'=elem∧q.1=p.1
 | .arr rows size elem _,.arr rows' size' elem' _=>size'=size∧elem'=elem∧rows.length≤rows'.length∧(rows'.length=rows.length→q=p)
 | .mp agg _ _ _,.mp agg' _ _ _=>agg'=agg∧q.1=p.1
 | _,_=>False
theorem q2Z {w':World} (hm:Mem w U ι ob) (k:Nat) (new:O) (p:Nat×Nat)
  (os:w'.os=w.os) (tape:w'.tape=w.tape) (output:w'.output=w.output) (size:w.heap.size≤w'.heap.size)
  (hold:∀ b,b < w.heap.size→(ob k=none∨b≠(ι k).1)→w'.heap[b]?=w.heap[b]?)
  (hown:∀ o,ob k=some o→o.owned=true∧qhT o new (ι k) p)
  (hp:w.heap.size≤p.1∨(ob k≠none∧p.1=(ι k).1)) (hnew:new.owned=true)
  (hor:Evo w U ι ob w' U (q75 ι k p) (q2S ob k new)→OR w' U (q75 ι k p) (q2S ob k new) k new) :
  Mem w' U (q75 ι k p) (q2S ob k new)∧Evo w U ι ob w' U (q75 ι k p) (q2S ob k new):=by
 have keptU:∀ b,U b→w'.heap[b]?=w.heap[b]?:=fun b hb=>hold b (hm.lt b hb) (by
  cases hk:ob k with
  | none=>exact .inl rfl
  | some o =>
   refine .inr fun e=>?_
   exact hm.notU hk (hown o hk).1 (e ▸ hb))
 have e:Evo w U ι ob w' U (q75 ι k p) (q2S ob k new):=by
  refine ⟨os,tape,output,size,keptU,fun _ h=>h,?_,?_,?_,?_,?_,fun _ h=>.inl h⟩
  ·intro j cells elem hj
   by_cases hjk:j=k
   ·subst hjk
    have:=(hown _ hj).2
    cases new with
    | box c' e'=>simp [qhT] at this;exact ⟨c',by rw [q0t,this.1],by rw [q09];exact this.2⟩
    | arr _ _ _ _=>simp [qhT] at this
    | mp _ _ _ _=>simp [qhT] at this
   ·exact ⟨cells,by rw [q0f _ _ hjk];exact hj,by rw [q0l _ _ hjk]⟩
  ·intro j rows sz elem own hj
   by_cases hjk:j=k
   ·subst hjk
    have:=(hown _ hj).2
    cases new with
    | box c' e'=>simp [qhT] at this
    | arr r' s' e' o' =>
     simp [qhT] at this
     obtain ⟨h1,h2,h3,h4⟩:=this
     exact ⟨r',o',by rw [q0t,h1,h2],h3,by rw [q09];exact h4⟩
    | mp _ _ _ _=>simp [qhT] at this
   ·exact ⟨rows,own,by rw [q0f _ _ hjk];exact hj,Nat.le_refl _,fun _=>by rw [q0l _ _ hjk]⟩
  ·intro j agg keys vals own hj
   by_cases hjk:j=k
   ·subst hjk
    have:=(hown _ hj).2
    cases new with
    | box c' e'=>simp [qhT] at this
    | arr r' s' e' o'=>simp [qhT] at this
    | mp a' k' v' o' =>
     simp [qhT] at this
     obtain ⟨rfl,h2⟩:=this
     exact ⟨k',v',o',q0t _ _ _,by rw [q09];exact h2⟩
   ·exact ⟨keys,vals,own,by rw [q0f _ _ hjk];exact hj,by rw [q0l _ _ hjk]⟩
  ·intro b hb hno
   refine hold b hb ?_
   cases hk:ob k with
   | none=>exact .inl rfl
   | some o=>exact .inr fun e=>hno k o hk (hown o hk).1 e.symm
  ·intro j o hj ho
   by_cases hjk:j=k
   ·subst hjk
    rw [q09]
    rcases hp with h | ⟨h,h'⟩
    ·exact .inl h
    ·cases hk:ob j with
     | none=>exact absurd hk h
     | some o0=>exact .inr ⟨j,o0,hk,(hown _ hk).1,h'⟩
   ·rw [q0f _ _ hjk] at hj
    exact .inr ⟨j,o,hj,ho,by rw [q0l _ _ hjk]⟩
 refine ⟨⟨fun b hb=>Nat.lt_of_lt_of_le (hm.lt b hb) size,?_,?_⟩,e⟩
 ·intro j o hj
  by_cases hjk:j=k
  ·subst hjk
   rw [q0t] at hj
   cases hj
   exact hor e
  ·rw [q0f _ _ hjk] at hj
   refine OR.evo e (q0l _ _ hjk) (hold _ (hm.block hj) ?_) Iff.rfl (hm.obj j o hj)
   cases hk:ob k with
   | none=>exact .inl rfl
   | some ok =>
    refine .inr fun heq=>?_
    cases ho:o.owned with
    | true=>exact hm.inj j k o ok hj hk ho (hown _ hk).1 hjk heq
    | false =>
     have h1:=hm.obj j o hj
     cases o with
     | box=>simp [O.owned] at ho
     | arr rows sz elem own =>
      simp [O.owned] at ho
      subst ho
      obtain ⟨_,_,_,_,_,_,h2⟩:=h1
      simp at h2
      exact hm.notU hk (hown _ hk).1 (heq ▸ h2)
     | mp agg keys vals own =>
      simp [O.owned] at ho
      subst ho
      obtain ⟨_,_,_,_,h2⟩:=h1
      simp at h2
      exact hm.notU hk (hown _ hk).1 (heq ▸ h2)
 ·intro j j' o o' hj hj' ho ho' hne
  have far:∀ i oi,ob i=some oi→oi.owned=true→i≠k→(ι i).1≠p.1:=by
   intro i oi hi hoi hik heq
   rcases hp with hp | ⟨hk,hp⟩
   ·have:=hm.block hi;omega
   ·cases hk':ob k with
    | none=>exact hk hk'
    | some ok=>exact hm.inj i k oi ok hi hk' hoi (hown _ hk').1 hik (by rw [heq,hp])
  by_cases hjk:j=k
  ·subst hjk
   have hj'k:j'≠j:=fun e=>hne e.symm
   rw [q0f _ _ hj'k] at hj'
   rw [q09,q0l _ _ hj'k]
   exact (far j' o' hj' ho' hj'k).symm
  ·rw [q0f _ _ hjk] at hj
   rw [q0l _ _ hjk]
   by_cases hj'k:j'=k
   ·subst hj'k
    rw [q09]
    exact far j o hj ho hjk
   ·rw [q0f _ _ hj'k] at hj'
    rw [q0l _ _ hj'k]
    exact hm.inj j j' o o' hj hj' ho ho' hne
theorem qkZ {w':World} {U':Nat→Prop} {ι1:Pl} {ob1:Ob} (hm:Mem w' U' ι1 ob1) (e:Evo w U ι ob w' U' ι1 ob1) (k:Nat) (new:O) (p:Nat×Nat) (hk:ob1 k=none)
  (hp:w.heap.size≤p.1) (_:p.1 < w'.heap.size) (_:¬ U' p.1) (hfar:∀ i oi,ob1 i=some oi→oi.owned=true→(ι1 i).1≠p.1)
  (hor:OR w' U' (q75 ι1 k p) (q2S ob1 k new) k new) :
  Mem w' U' (q75 ι1 k p) (q2S ob1 k new)∧Evo w U ι ob w' U' (q75 ι1 k p) (q2S ob1 k new)∧(∀ x v,LR w' U' ι1 ob1 x v→LR w' U' (q75 ι1 k p) (q2S ob1 k new) x v):=by
 have nk:∀ j o,ob1 j=some o→j≠k:=by rintro j o hj rfl;rw [hk] at hj;cases hj
 have mono:∀ x v,LR w' U' ι1 ob1 x v→LR w' U' (q75 ι1 k p) (q2S ob1 k new) x v:=by
  have both:(∀ x:L,∀ v,LR w' U' ι1 ob1 x v→LR w' U' (q75 ι1 k p) (q2S ob1 k new) x v):=by
   intro x
   refine L.rec (motive_1:=fun x=>∀ v,LR w' U' ι1 ob1 x v→LR w' U' (q75 ι1 k p) (q2S ob1 k new) x v)
    (motive_2:=fun xs=>∀ vs,LF w' U' ι1 ob1 xs vs→LF w' U' (q75 ι1 k p) (q2S ob1 k new) xs vs) ?_ ?_ ?_ ?_ ?_ ?_ ?_ ?_ ?_ x
   ·intro x v h;simpa only [LR] using h
   ·intro k0 off n c v h
    simp only [LR] at h ⊢
    obtain ⟨rows,size,elem,own,h1,h2,h3,h4⟩:=h
    have:=nk _ _ h1
    exact ⟨rows,size,elem,own,by rw [q0f _ _ this];exact h1,h2,by rw [q0l _ _ this];exact h3,h4⟩
   ·intro k0 i off c v h
    simp only [LR] at h ⊢
    obtain ⟨rows,size,elem,own,h1,h2,h3,h4⟩:=h
    have:=nk _ _ h1
    exact ⟨rows,size,elem,own,by rw [q0f _ _ this];exact h1,h2,by rw [q0l _ _ this];exact h3,h4⟩
   ·intro k0 off v h
    simp only [LR] at h ⊢
    obtain ⟨cells,elem,h1,h2⟩:=h
    have:=nk _ _ h1
    exact ⟨cells,elem,by rw [q0f _ _ this];exact h1,by rw [q0l _ _ this];exact h2⟩
   ·intro f caps ih v h
    simp only [LR] at h ⊢
    obtain ⟨cs,h1,h2⟩:=h
    exact ⟨cs,h1,ih _ h2⟩
   ·intro k0 v h
    simp only [LR] at h ⊢
    obtain ⟨agg,keys,vals,own,h1,h2⟩:=h
    have:=nk _ _ h1
    exact ⟨agg,keys,vals,own,by rw [q0f _ _ this];exact h1,by rw [q0l _ _ this];exact h2⟩
   ·intro v h;simp [LR]
   ·intro vs h;simpa [LF] using h
   ·intro x xs ih1 ih2 vs h
    simp only [LF] at h ⊢
    obtain ⟨v,vs',h1,h2,h3⟩:=h
    exact ⟨v,vs',h1,ih1 _ h2,ih2 _ h3⟩
  exact both
 have monoF:∀ xs vs,LF w' U' ι1 ob1 xs vs→LF w' U' (q75 ι1 k p) (q2S ob1 k new) xs vs:=by
  intro xs
  induction xs with
  | nil=>intro vs h;simpa [LF] using h
  | cons x xs ih=>intro vs h;simp only [LF] at h ⊢;obtain ⟨v,vs',h1,h2,h3⟩:=h;exact ⟨v,vs',h1,mono _ _ h2,ih _ h3⟩
 refine ⟨⟨hm.lt,?_,?_⟩,⟨e.os,e.tape,e.output,e.size,e.kept,e.sub,?_,?_,?_,e.same,?_,e.orig⟩,mono⟩
 ·intro j o hj
  by_cases hjk:j=k
  ·subst hjk
   rw [q0t] at hj
   cases hj
   exact hor
  ·rw [q0f _ _ hjk] at hj
   have h:=hm.obj j o hj
   cases o with
   | box cells elem=>obtain ⟨cur,h1,h2,h3⟩:=h;exact ⟨cur,by rw [q0l _ _ hjk];exact h1,monoF _ _ h2,by rw [q0l _ _ hjk];exact h3⟩
   | arr rows size elem own=>obtain ⟨cur,h1,h2,h3,h4,h5,h6⟩:=h;exact ⟨cur,by rw [q0l _ _ hjk];exact h1,by rw [q0l _ _ hjk];exact h2,by rw [q0l _ _ hjk];exact h3,by rw [q0l _ _ hjk];exact h4,by rw [q0l _ _ hjk];exact h5,by rw [q0l _ _ hjk];exact h6⟩
   | mp agg keys vals own=>obtain ⟨es,clock,h1,h2,h3⟩:=h;exact ⟨es,clock,by rw [q0l _ _ hjk];exact h1,h2,by rw [q0l _ _ hjk];exact h3⟩
 ·intro j j' o o' hj hj' ho ho' hne
  by_cases hjk:j=k
  ·subst hjk
   have hj'k:j'≠j:=fun e=>hne e.symm
   rw [q0f _ _ hj'k] at hj'
   rw [q09,q0l _ _ hj'k]
   exact (hfar j' o' hj' ho').symm
  ·rw [q0f _ _ hjk] at hj
   rw [q0l _ _ hjk]
   by_cases hj'k:j'=k
   ·subst hj'k
    rw [q09]
    exact hfar j o hj ho
   ·rw [q0f _ _ hj'k] at hj'
    rw [q0l _ _ hj'k]
    exact hm.inj j j' o o' hj hj' ho ho' hne
 ·intro j cells elem hj
  obtain ⟨c',h1,h2⟩:=e.box j cells elem hj
  have:=nk _ _ h1
  exact ⟨c',by rw [q0f _ _ this];exact h1,by rw [q0l _ _ this];exact h2⟩
 ·intro j rows size elem own hj
  obtain ⟨r',o',h1,h2,h3⟩:=e.arr j rows size elem own hj
  have:=nk _ _ h1
  exact ⟨r',o',by rw [q0f _ _ this];exact h1,h2,by rw [q0l _ _ this];exact h3⟩
 ·intro j agg keys vals own hj
  obtain ⟨k',v',o',h1,h2⟩:=e.mp j agg keys vals own hj
  have:=nk _ _ h1
  exact ⟨k',v',o',by rw [q0f _ _ this];exact h1,by rw [q0l _ _ this];exact h2⟩
 ·intro j o hj ho
  by_cases hjk:j=k
  ·subst hjk;rw [q09];exact .inl hp
  ·rw [q0f _ _ hjk] at hj
   rw [q0l _ _ hjk]
   exact e.ownd j o hj ho
def O.shut:O→O
 | .arr rows size elem _=>.arr rows size elem false
 | .mp agg keys vals _=>.mp agg keys vals false
 | o=>o
def O.isBox:O→Bool
 | .box ..=>true
 | _=>false
theorem q8S (hm:Mem w U ι ob) {k:Nat} {ok:O} (hk:ob k=some ok) (hnb:ok.isBox=false) :
  Mem w (fun b=>U b∨b=(ι k).1) ι (q2S ob k ok.shut)∧Evo w U ι ob w (fun b=>U b∨b=(ι k).1) ι (q2S ob k ok.shut):=by
 have e:Evo w U ι ob w (fun b=>U b∨b=(ι k).1) ι (q2S ob k ok.shut):=by
  refine ⟨rfl,rfl,rfl,Nat.le_refl _,fun _ _=>rfl,fun _ h=>.inl h,?_,?_,?_,fun _ _ _=>rfl,?_,?_⟩
  ·intro j cells el hj
   have hjk:j≠k:=by rintro rfl;rw [hk] at hj;cases hj;simp [O.isBox] at hnb
   exact ⟨cells,by rw [q0f _ _ hjk];exact hj,rfl⟩
  ·intro j r s el o hj
   by_cases hjk:j=k
   ·subst hjk
    rw [hk] at hj
    cases hj
    exact ⟨r,false,q0t _ _ _,Nat.le_refl _,fun _=>rfl⟩
   ·exact ⟨r,o,by rw [q0f _ _ hjk];exact hj,Nat.le_refl _,fun _=>rfl⟩
  ·intro j agg keys vals o hj
   by_cases hjk:j=k
   ·subst hjk
    rw [hk] at hj
    cases hj
    exact ⟨keys,vals,false,q0t _ _ _,rfl⟩
   ·exact ⟨keys,vals,o,by rw [q0f _ _ hjk];exact hj,rfl⟩
  ·intro j o hj ho
   by_cases hjk:j=k
   ·subst hjk
    rw [q0t] at hj
    cases hj
    cases ok<;>simp_all [O.shut,O.owned,O.isBox]
   ·rw [q0f _ _ hjk] at hj
    exact .inr ⟨j,o,hj,ho,rfl⟩
  ·rintro b (hb | rfl)
   ·exact .inl hb
   ·cases hok:ok.owned with
    | true=>exact .inr (.inr ⟨k,ok,hk,hok,rfl⟩)
    | false =>
     have h0:=hm.obj _ _ hk
     left
     cases ok with
     | box=>simp [O.owned] at hok
     | arr rows size elem own=>simp [O.owned] at hok;subst hok;obtain ⟨_,_,_,_,_,_,h6⟩:=h0;simpa using h6
     | mp agg keys vals own=>simp [O.owned] at hok;subst hok;obtain ⟨_,_,_,_,h6⟩:=h0;simpa using h6
 refine ⟨⟨?_,?_,?_⟩,e⟩
 ·rintro b (hb | rfl)
  ·exact hm.lt b hb
  ·exact hm.block hk
 ·intro j o hj
  by_cases hjk:j=k
  ·subst hjk
   rw [q0t] at hj
   cases hj
   have h0:=hm.obj _ _ hk
   cases ok with
   | box=>simp [O.isBox] at hnb
   | arr rows size elem own =>
    obtain ⟨cur,h1,h2,h3,h4,h5,h6⟩:=h0
    exact ⟨cur,h1,h2,h3,h4,RR.mono e.kept e.sub _ rfl rows 0 size h5,by simp⟩
   | mp agg keys vals own =>
    obtain ⟨es,clock,h1,h2,h3⟩:=h0
    exact ⟨es,clock,h1,KR.mono e.kept e.sub _ _ _ _ h2,by simp⟩
  ·rw [q0f _ _ hjk] at hj
   have h1:=hm.obj j o hj
   have hne:o.owned=true→(ι j).1≠(ι k).1:=fun ho heq=>by
    cases hok:ok.owned with
    | true=>exact hm.inj j k o _ hj hk ho hok hjk heq
    | false =>
     have h0:=hm.obj _ _ hk
     have hUk:U (ι k).1:=by
      cases ok with
      | box=>simp [O.owned] at hok
      | arr rows size elem own=>simp [O.owned] at hok;subst hok;obtain ⟨_,_,_,_,_,_,h6⟩:=h0;simpa using h6
      | mp agg keys vals own=>simp [O.owned] at hok;subst hok;obtain ⟨_,_,_,_,h6⟩:=h0;simpa using h6
     exact hm.notU hj ho (heq ▸ hUk)
   cases o with
   | box cells el =>
    obtain ⟨cur,h2,h3,h4⟩:=h1
    exact ⟨cur,h2,LF.evo e _ _ h3,fun h=>h.elim h4 (hne rfl)⟩
   | arr r s el o =>
    obtain ⟨cur,h2,h3,h4,h5,h6,h7⟩:=h1
    refine ⟨cur,h2,h3,h4,h5,RR.mono e.kept e.sub _ rfl r 0 s h6,?_⟩
    cases o with
    | true=>simp at h7 ⊢;exact ⟨h7,hne rfl⟩
    | false=>simp at h7 ⊢;exact .inl h7
   | mp agg keys vals o =>
    obtain ⟨es,clock,h2,h3,h7⟩:=h1
    refine ⟨es,clock,h2,KR.mono e.kept e.sub _ _ _ _ h3,?_⟩
    cases o with
    | true=>simp at h7 ⊢;exact ⟨h7,hne rfl⟩
    | false=>simp at h7 ⊢;exact .inl h7
 ·intro j j' o o' hj hj' ho ho' hne
  have hsh:ok.shut.owned=false:=by cases ok<;>simp_all [O.shut,O.owned,O.isBox]
  have hj1:j≠k:=by rintro rfl;rw [q0t] at hj;cases hj;rw [hsh] at ho;cases ho
  have hj2:j'≠k:=by rintro rfl;rw [q0t] at hj';cases hj';rw [hsh] at ho';cases ho'
  rw [q0f _ _ hj1] at hj
  rw [q0f _ _ hj2] at hj'
  exact hm.inj j j' o o' hj hj' ho ho' hne
def q8t (P:Program) (w:World) (U:Nat→Prop) (ι:Pl) (ob:Ob) (s:Sem Value) (r:Res):Prop :=
 ∃ v w' U' ι',s.run P w=.ok v w'∧Mem w' U' ι' (q1k ob r.2)∧Evo w U ι ob w' U' ι' (q1k ob r.2)∧VR w' U' ι' (q1k ob r.2) r.1 v
theorem q0k (hm:Mem w U ι ob) {s:Sem Value} {v:V} {u:Value} (h:s.run P w=.ok u w) (hv:VR w U ι ob v u):q8t P w U ι ob s (v,[]) :=
 ⟨u,w,U,ι,h,hm,Evo.refl _ _ _ _,hv⟩
theorem LF.len {xs:List L} {vs:List Value} (h:LF w U ι ob xs vs):vs.length=xs.length:=by
 induction xs generalizing vs with
 | nil=>simp only [LF] at h;simp [h]
 | cons x xs ih=>simp only [LF] at h;obtain ⟨v,vs',rfl,_,h2⟩:=h;simp [ih h2]
theorem LF.at_ {xs:List L} {vs:List Value} (h:LF w U ι ob xs vs):∀ {j:Nat} {x:L},xs[j]?=some x→∃ v,vs[j]?=some v∧LR w U ι ob x v:=by
 induction xs generalizing vs with
 | nil=>intro j x hj;simp at hj
 | cons y ys ih =>
  simp only [LF] at h
  obtain ⟨v,vs',rfl,h1,h2⟩:=h
  intro j x hj
  cases j with
  | zero=>simp at hj;subst hj;exact ⟨v,rfl,h1⟩
  | succ j=>simpa using ih h2 (by simpa using hj)
theorem LF.mk {xs:List L} {vs:List Value} (hl:vs.length=xs.length) (h:∀ (j:Nat) (x:L) (v:Value),xs[j]?=some x→vs[j]?=some v→LR w U ι ob x v):LF w U ι ob xs vs:=by
 induction xs generalizing vs with
 | nil=>simp only [LF];exact List.eq_nil_of_length_eq_zero hl
 | cons y ys ih =>
  cases vs with
  | nil=>simp at hl
  | cons v vs =>
   simp only [LF]
   exact ⟨v,vs,rfl,h 0 y v rfl rfl,ih (by simpa using hl) fun j x u hx hu=>h (j+1) x u (by simpa using hx) (by simpa using hu)⟩
theorem LF.append {xs ys:List L} {vs us:List Value} (h:LF w U ι ob xs vs) (k:LF w U ι ob ys us):LF w U ι ob (xs++ys) (vs++us):=by
 induction xs generalizing vs with
 | nil=>simp only [LF] at h;simpa [h] using k
 | cons x xs ih=>simp only [LF] at h;obtain ⟨v,vs',rfl,h1,h2⟩:=h;simp only [List.cons_append,LF];exact ⟨v,_,rfl,h1,ih h2⟩
theorem LF.take {xs:List L} {vs:List Value} (h:LF w U ι ob xs vs) (n:Nat):LF w U ι ob (xs.take n) (vs.take n):=by
 induction xs generalizing vs n with
 | nil=>simp only [LF] at h;simp [h,LF]
 | cons x xs ih =>
  simp only [LF] at h;obtain ⟨v,vs',rfl,h1,h2⟩:=h
  cases n with
  | zero=>simp [LF]
  | succ n=>simp only [List.take_succ_cons,LF];exact ⟨v,_,rfl,h1,ih h2 n⟩
theorem LF.drop {xs:List L} {vs:List Value} (h:LF w U ι ob xs vs) (n:Nat):LF w U ι ob (xs.drop n) (vs.drop n):=by
 induction xs generalizing vs n with
 | nil=>simp only [LF] at h;simp [h,LF]
 | cons x xs ih =>
  simp only [LF] at h;obtain ⟨v,vs',rfl,h1,h2⟩:=h
  cases n with
  | zero=>simp only [List.drop_zero,LF];exact ⟨v,_,rfl,h1,h2⟩
  | succ n=>simpa using ih h2 n
theorem VF.at_ {xs:List V} {vs:List Value} (h:VF w U ι ob xs vs):∀ {j:Nat} {x:V},xs[j]?=some x→∃ v,vs[j]?=some v∧VR w U ι ob x v:=by
 induction xs generalizing vs with
 | nil=>intro j x hj;simp at hj
 | cons y ys ih =>
  simp only [VF] at h
  obtain ⟨v,vs',rfl,h1,h2⟩:=h
  intro j x hj
  cases j with
  | zero=>simp at hj;subst hj;exact ⟨v,rfl,h1⟩
  | succ j=>simpa using ih h2 (by simpa using hj)
theorem qbq {v:Value} (h:plain v=true):v.cells=#[v]:=by cases v<;>simp_all [plain,Value.cells]
theorem qaj {v:Value} (h:plain v=true):v.oneCell'=true:=by cases v<;>simp_all [plain,Value.oneCell']
theorem q83 (f:Nat) (a:Array Value):(q6a f a).cells=#[q6a f a]∧(q6a f a).oneCell'=true:=by unfold q6a;split<;>exact ⟨rfl,rfl⟩
theorem DR.cells {x:D} {v:Value} (h:DR w U x v):v.cells=#[v]∧v.oneCell'=true:=by
 cases x with
 | lit u=>simp only [DR] at h;obtain ⟨rfl,h⟩:=h;exact ⟨qbq h,qaj h⟩
 | sl size rows=>simp only [DR] at h;obtain ⟨a,cap,rfl,_⟩:=h;exact ⟨rfl,rfl⟩
 | dp row off=>simp only [DR] at h;obtain ⟨a,cap,rfl,_⟩:=h;exact ⟨rfl,rfl⟩
 | fn f caps=>simp only [DR] at h;obtain ⟨a,rfl,_⟩:=h;exact q83 f a
 | mp agg keys vals=>simp only [DR] at h;obtain ⟨_,_,_,rfl,_⟩:=h;exact ⟨rfl,rfl⟩
 | ifc t agg row=>simp only [DR] at h;obtain ⟨_,rfl,_⟩:=h;exact ⟨rfl,rfl⟩
theorem LR.cells {x:L} {v:Value} (h:LR w U ι ob x v) (hx:x.isDef=true):v.cells=#[v]∧v.oneCell'=true:=by
 cases x with
 | d x=>simp only [LR] at h;exact DR.cells h
 | slk k off n c=>simp only [LR] at h;obtain ⟨_,_,_,_,_,_,_,a,c',rfl,_⟩:=h;exact ⟨rfl,rfl⟩
 | pa k i off c=>simp only [LR] at h;obtain ⟨_,_,_,_,_,_,_,a,rfl⟩:=h;exact ⟨rfl,rfl⟩
 | ptr k off=>simp only [LR] at h;obtain ⟨_,_,_,rfl⟩:=h;exact ⟨rfl,rfl⟩
 | fn f caps=>simp only [LR] at h;obtain ⟨a,rfl,_⟩:=h;exact q83 f a
 | mk k=>simp only [LR] at h;obtain ⟨_,_,_,_,_,rfl⟩:=h;exact ⟨rfl,rfl⟩
 | undef=>simp [L.isDef] at hx
theorem VR.cells {x:V} {v:Value} {cs:List L} (h:VR w U ι ob x v) (hc:x.cells=some cs):LF w U ι ob cs v.cells.toList∧(∀ u∈v.cells.toList,u.oneCell'=true):=by
 cases x with
 | one x =>
  simp only [V.cells] at hc
  split at hc
  ·cases hc
   simp only [VR] at h
   have:=LR.cells h ‹_›
   rw [this.1]
   exact ⟨by simp only [LF];exact ⟨v,[],rfl,h,rfl⟩,by simpa using this.2⟩
  ·cases hc
 | agg xs =>
  simp only [V.cells] at hc
  split at hc
  ·rename_i hd
   cases hc
   simp only [VR] at h
   obtain ⟨vs,rfl,hl⟩:=h
   refine ⟨hl,fun u hu=>?_⟩
   simp only [Value.cells] at hu
   obtain ⟨j,hj,rfl⟩:=List.mem_iff_getElem.1 hu
   have hjl:j < cs.length:=by rw [←hl.len];exact hj
   obtain ⟨v',hv',hr⟩:=hl.at_ (List.getElem?_eq_getElem hjl)
   rw [List.getElem?_eq_getElem hj] at hv'
   cases hv'
   exact (LR.cells hr (by simpa using List.all_eq_true.1 hd _ (List.getElem_mem hjl))).2
  ·cases hc
 | tup xs=>simp [V.cells] at hc
theorem q67 {zs:List Value} (h:zs.all plain=true):LF w U ι ob (q5e zs) zs:=by
 induction zs with
 | nil=>simp [q5e,LF]
 | cons z zs ih =>
  simp at h
  simp only [q5e,List.map_cons,LF]
  exact ⟨z,zs,rfl,by simp [LR,DR,h.1],ih (by simpa using h.2)⟩
theorem DR_lit {v:Value} (h:plain v=true):DR w U (.lit v) v:=by simp [DR,h]
theorem q33 {t:Nat} {zs:List Value} (h:q25 P t=some zs):∃ i z,P.info? t=some i∧i.zero=some z∧z.cells.toList=zs∧zs.all plain=true:=by
 simp only [q25,Option.bind_eq_some_iff] at h
 obtain ⟨i,hi,z,hz,h⟩:=h
 split at h
 ·cases h;exact ⟨i,z,hi,hz,rfl,‹_›⟩
 ·cases h
theorem q6H (hm:Mem w U ι ob) {dst:Option Nat} {o:O} {f:Nat→V} {r:Res} (hr:(fresh dst o f).run ob=some r) {s:Sem Value} {u:Value} {obj:Obj} {c:Nat}
  (hrun:s.run P w=.ok u (w.alloc obj)) (ho:o.owned=true)
  (hor:∀ k ι' ob',ob' k=some o→(ι' k)=(w.heap.size,c)→Evo w U ι ob (w.alloc obj) U ι' ob'→OR (w.alloc obj) U ι' ob' k o)
  (hv:∀ k ι' ob',ob' k=some o→(ι' k)=(w.heap.size,c)→VR (w.alloc obj) U ι' ob' (f k) u):q8t P w U ι ob s r:=by
 unfold fresh at hr
 cases dst with
 | none=>simp [Q.run] at hr
 | some k =>
  simp only [Q.run] at hr
  cases hk:ob k with
  | some o=>simp [hk,Q.run] at hr
  | none =>
   simp only [hk,Q.run,Option.some.injEq] at hr
   subst hr
   obtain ⟨h1,h2⟩:=q2Z (w':=w.alloc obj) hm k o (w.heap.size,c) rfl rfl rfl (by simp) (fun b hb _=>by
    show (w.heap.push obj)[b]?=_
    rw [Array.getElem?_push,if_neg (by omega)]) (fun o' h=>by rw [hk] at h;cases h) (.inl (Nat.le_refl _)) ho (fun e=>hor k _ _ (q0t _ _ _) (q09 _ _ _) e)
   exact ⟨u,w.alloc obj,U,_,hrun,h1,h2,hv k _ _ (q0t _ _ _) (q09 _ _ _)⟩
end
section
open Go.RowKit
variable {P:Program} {w:World} {U:Nat→Prop} {ι:Pl} {ob:Ob}
theorem FR.len {xs:List D} {vs:List Value} (h:FR w U xs vs):vs.length=xs.length:=by
 induction xs generalizing vs with
 | nil=>simp only [FR] at h;simp [h]
 | cons x xs ih=>simp only [FR] at h;obtain ⟨v,vs',rfl,_,h2⟩:=h;simp [ih h2]
theorem FR.at_ {xs:List D} {vs:List Value} (h:FR w U xs vs):∀ {j:Nat} {x:D},xs[j]?=some x→∃ v,vs[j]?=some v∧DR w U x v:=by
 induction xs generalizing vs with
 | nil=>intro j x hj;simp at hj
 | cons y ys ih =>
  simp only [FR] at h
  obtain ⟨v,vs',rfl,h1,h2⟩:=h
  intro j x hj
  cases j with
  | zero=>simp at hj;subst hj;exact ⟨v,rfl,h1⟩
  | succ j=>simpa using ih h2 (by simpa using hj)
theorem FR.append {xs ys:List D} {vs us:List Value} (h:FR w U xs vs) (k:FR w U ys us):FR w U (xs++ys) (vs++us):=by
 induction xs generalizing vs with
 | nil=>simp only [FR] at h;simpa [h] using k
 | cons x xs ih=>simp only [FR] at h;obtain ⟨v,vs',rfl,h1,h2⟩:=h;simp only [List.cons_append,FR];exact ⟨v,_,rfl,h1,ih h2⟩
theorem FR.one {xs:List D} {vs:List Value} (h:FR w U xs vs):∀ u∈vs,u.oneCell'=true:=by
 induction xs generalizing vs with
 | nil=>simp only [FR] at h;simp [h]
 | cons x xs ih =>
  simp only [FR] at h;obtain ⟨v,vs',rfl,h1,h2⟩:=h
  intro u hu
  rcases List.mem_cons.1 hu with rfl | hu
  ·exact h1.cells.2
  ·exact ih h2 u hu
theorem q9h {b:Nat}:∀ {xs:List D} {o:Nat},CR w U b o xs↔∃ vs,FR w U xs vs∧∀ j u,vs[j]?=some u→w.cell? ⟨b,o+j,none⟩=some u
 | [],o=>by simp [CR,FR]
 | x::xs,o=>by
  simp only [CR,FR]
  constructor
  ·rintro ⟨⟨u,hc,hd⟩,hr⟩
   obtain ⟨vs,h1,h2⟩:=q9h.1 hr
   refine ⟨u::vs,⟨u,vs,rfl,hd,h1⟩,fun j v hv=>?_⟩
   cases j with
   | zero=>simp at hv;subst hv;simpa using hc
   | succ j=>have:=h2 j v (by simpa using hv);rwa [show o+1+j=o+(j+1) by omega] at this
  ·rintro ⟨_,⟨u,vs,rfl,hd,h1⟩,h2⟩
   refine ⟨⟨u,by simpa using h2 0 u rfl,hd⟩,q9h.2 ⟨vs,h1,fun j v hv=>?_⟩⟩
   have:=h2 (j+1) v (by simpa using hv)
   rwa [show o+(j+1)=o+1+j by omega] at this
theorem q2W {b:Nat}:∀ {rs:List (List D)} {o size:Nat},RR w U b o size rs↔(∀ r∈rs,r.length=size)∧∃ vs,FR w U rs.flatten vs∧∀ j u,vs[j]?=some u→w.cell? ⟨b,o+j,none⟩=some u
 | [],o,size=>by simp [RR,FR]
 | r::rs,o,size=>by
  simp only [RR,List.flatten_cons]
  constructor
  ·rintro ⟨hl,hc,hr⟩
   obtain ⟨vs,h1,h2⟩:=q9h.1 hc
   obtain ⟨h3,us,h4,h5⟩:=q2W.1 hr
   refine ⟨by simpa [hl] using h3,vs++us,h1.append h4,fun j u hu=>?_⟩
   have hvl:vs.length=size:=by rw [h1.len,hl]
   rw [List.getElem?_append] at hu
   split at hu
   ·exact h2 j u hu
   ·have:=h5 _ u hu
    rw [hvl] at this
    rwa [show o+size+(j - size)=o+j by omega] at this
  ·rintro ⟨hl,vs,h1,h2⟩
   have hrl:r.length=size:=hl r (by simp)
   refine ⟨hrl,?_,?_⟩
   ·refine CR.mk fun j x hj=>?_
    obtain ⟨v,hv,hd⟩:=h1.at_ (j:=j) (x:=x) (by rw [List.getElem?_append_left (List.getElem?_eq_some_iff.1 hj).1];exact hj)
    exact ⟨v,h2 j v hv,hd⟩
   ·have key:∀ {xs ys:List D} {vs:List Value},FR w U (xs++ys) vs→FR w U ys (vs.drop xs.length):=by
     intro xs
     induction xs with
     | nil=>intro ys vs h;simpa using h
     | cons x xs ih=>intro ys vs h;simp only [List.cons_append,FR] at h;obtain ⟨v,vs',rfl,_,h⟩:=h;simpa using ih h
    refine q2W.2 ⟨fun r hr=>hl r (by simp [hr]),vs.drop size,by rw [←hrl];exact key h1,fun j u hu=>?_⟩
    rw [List.getElem?_drop] at hu
    have:=h2 _ u hu
    rwa [show o+(size+j)=o+size+j by omega] at this
theorem q1s {rs:List (List D)} {size:Nat} (h:∀ r∈rs,r.length=size):rs.flatten.length=rs.length*size:=by
 induction rs with
 | nil=>simp
 | cons r rs ih=>simp [h r (by simp),ih (fun x hx=>h x (by simp [hx])),Nat.add_mul,Nat.add_comm]
theorem q4Y {t:Nat} {i:TypeInfo} (h:P.info? t=some i):(typeInfo t).run P w=.ok i w:=by simp [typeInfo,h]
theorem q1B {t s:Nat} (h:q1b P t=some s):(sizeOf t).run P w=.ok s w:=by
 simp only [q1b,Option.map_eq_some_iff] at h
 obtain ⟨i,hi,rfl⟩:=h
 simp [sizeOf,q4Y hi]
theorem q4d {t:Nat} {g:Bool} (h:q45 P t=some g):(isAgg t).run P w=.ok g w:=by
 simp only [q45,Option.map_eq_some_iff] at h
 obtain ⟨d,hd,rfl⟩:=h
 simp only [isAgg,Sem.run_bind,run_underlying hd,Result.andThen_ok]
 cases d<;>rfl
theorem qcV {t:Nat} {zs:List Value} (h:q25 P t=some zs):∃ z,(zeroValue t).run P w=.ok z w∧z.cells.toList=zs∧zs.all plain=true:=by
 obtain ⟨i,z,hi,hz,h1,h2⟩:=q33 h
 exact ⟨z,by simp [zeroValue,q4Y hi,hz],h1,h2⟩
theorem q2R {t e:Nat} (h:q1Y P t=some e):P.underlying t=some (.slice e):=by
 unfold q1Y at h
 split at h
 ·cases h;assumption
 ·cases h
theorem q0F {b:Nat} {cur:Array Value} {e:Nat} {fz:Nat×Nat} (h:w.heap[b]?=some (.cells cur e fz)) (j:Nat):w.cell? ⟨b,j,none⟩=cur[j]?:=by simp [World.cell?,h]
theorem add_lit (b o n:Nat):Addr.add ⟨b,o,none⟩ n=⟨b,o+n,none⟩:=Addr.add_lit b o n
theorem qj8 (hm:Mem w U ι ob) {dst:Option Nat} {x:V} {u:Value} {cs:List L} {e:Nat} {r:Res} (hx:VR w U ι ob x u) (hc:x.cells=some cs)
  (hr:(fresh dst (.box cs e) fun k=>.one (.ptr k 0)).run ob=some r):q8t P w U ι ob (Instr.box e u) r:=by
 have hl:=(VR.cells hx hc).1
 refine q6H hm hr (u:=.pointer (some ⟨w.heap.size,0,none⟩)) (obj:=.cells u.cells e) (c:=0) (by simp [Instr.box,newVar,newRow]) rfl ?_ ?_
 ·intro k ι' ob' _ hι e'
  exact ⟨u.cells,by rw [hι];exact heap_alloc_new w _,LF.evo e' _ _ hl,by rw [hι];intro h;exact absurd (hm.lt _ h) (by simp)⟩
 ·intro k ι' ob' ho hι
  simp only [VR,LR]
  exact ⟨cs,e,ho,by rw [hι]⟩
theorem qex (hm:Mem w U ι ob) {dst:Option Nat} {zs:List Value} {e:Nat} {r:Res} (hz:q25 P e=some zs)
  (hr:(fresh dst (.box (q5e zs) e) fun k=>.one (.ptr k 0)).run ob=some r):q8t P w U ι ob (Instr.alloc e true (.tuple #[])) r:=by
 obtain ⟨z,h1,h2,h3⟩:=qcV (w:=w) hz
 refine q6H hm hr (u:=.pointer (some ⟨w.heap.size,0,none⟩)) (obj:=.cells z.cells e) (c:=0) (by simp [Instr.alloc,h1,newVar,newRow]) rfl ?_ ?_
 ·intro k ι' ob' _ hι e'
  exact ⟨z.cells,by rw [hι];exact heap_alloc_new w _,by rw [h2];exact q67 h3,by rw [hι];intro h;exact absurd (hm.lt _ h) (by simp)⟩
 ·intro k ι' ob' ho hι
  simp only [VR,LR]
  exact ⟨_,e,ho,by rw [hι]⟩
theorem qbJ {g:Bool} {s off:Nat} {cells:List L} {cur:List Value} {v:V} (h:q1q g s off cells=some v) (hl:LF w U ι ob cells (cur.take cells.length)) (hcl:cells.length≤cur.length)
  {b:Nat} {e:Nat} {fz:Nat×Nat} {o:Nat} {arr:Array Value} (hb:w.heap[b]?=some (.cells arr e fz)) (ho:∀ j u,cur[j]?=some u→arr[o+j]?=some u) {t:Nat} (ha:q45 P t=some g) (hs:q1b P t=some s) :
  ∃ u,(loadVar t ⟨b,o+off,none⟩).run P w=.ok u w∧VR w U ι ob v u:=by
 unfold q1q at h
 cases g with
 | true =>
  simp only [if_true] at h
  split at h
  ·rename_i hle
   cases h
   have hll:((cur.drop off).take s).length=s:=by simp;omega
   have hrun:=run_loadCells_list (P:=P) w ⟨b,o+off,none⟩ ((cur.drop off).take s) (fun j u hu=>by
    rw [add_lit,q0F hb]
    rw [List.getElem?_take] at hu
    split at hu
    ·rw [List.getElem?_drop] at hu
     rw [Nat.add_assoc]
     exact ho _ u hu
    ·cases hu)
   rw [hll] at hrun
   refine ⟨.agg ((cur.drop off).take s).toArray,by simp [loadVar,q4d ha,q1B hs,hrun],?_⟩
   simp only [VR]
   refine ⟨_,rfl,?_⟩
   have:=(hl.drop off).take s
   simpa [List.drop_take,List.take_take,show min s (cells.length - off)=s by omega] using this
  ·cases h
 | false =>
  simp only [Bool.false_eq_true,if_false,Option.map_eq_some_iff] at h
  obtain ⟨x,hx,rfl⟩:=h
  obtain ⟨u,hu,hr⟩:=hl.at_ hx
  have hlt:off < cells.length:=(List.getElem?_eq_some_iff.1 hx).1
  rw [List.getElem?_take,if_pos hlt] at hu
  refine ⟨u,by simp [loadVar,q4d ha,q0F hb,ho off u hu],?_⟩
  simpa only [VR] using hr
theorem q6W {r:List D} {vs:List Value} (h:FR w U r vs):LF w U ι ob (r.map .d) vs:=by
 induction r generalizing vs with
 | nil=>simpa [LF,FR] using h
 | cons x r ih=>simp only [FR] at h;obtain ⟨v,vs',rfl,h1,h2⟩:=h;simp only [List.map_cons,LF];exact ⟨v,vs',rfl,by simpa only [LR] using h1,ih h2⟩
theorem qcK {r:List D} {off s:Nat} {g:Bool} {v:V} (h:q1q g s off (r.map .d)=some v) {b o:Nat} (hc:CR w U b o r) {t:Nat} (ha:q45 P t=some g) (hs:q1b P t=some s) :
  ∃ u,(loadVar t ⟨b,o+off,none⟩).run P w=.ok u w∧VR w U ι ob v u:=by
 obtain ⟨vs,h1,h2⟩:=q9h.1 hc
 have hl:LF w U ι ob (r.map .d) vs:=q6W h1
 unfold q1q at h
 cases g with
 | true =>
  simp only [if_true,List.length_map] at h
  split at h
  ·rename_i hle
   cases h
   have hvl:=h1.len
   have hll:((vs.drop off).take s).length=s:=by simp;omega
   have hrun:=run_loadCells_list (P:=P) w ⟨b,o+off,none⟩ ((vs.drop off).take s) (fun j u hu=>by
    rw [add_lit]
    rw [List.getElem?_take] at hu
    split at hu
    ·rw [List.getElem?_drop] at hu
     rw [Nat.add_assoc]
     exact h2 _ u hu
    ·cases hu)
   rw [hll] at hrun
   refine ⟨.agg ((vs.drop off).take s).toArray,by simp [loadVar,q4d ha,q1B hs,hrun],?_⟩
   simp only [VR]
   exact ⟨_,rfl,(hl.drop off).take s⟩
  ·cases h
 | false =>
  simp only [Bool.false_eq_true,if_false,Option.map_eq_some_iff] at h
  obtain ⟨x,hx,rfl⟩:=h
  obtain ⟨u,hu,hr⟩:=hl.at_ hx
  refine ⟨u,by simp [loadVar,q4d ha,h2 off u hu],?_⟩
  simpa only [VR] using hr
theorem q0L {o:Option V} {r:Res} (h:(q0E o).run ob=some r):∃ v,o=some v∧r=(v,[]):=by
 cases o with
 | none=>simp [q0E,Q.opt,Q.bind,Q.run] at h
 | some v=>simp [q0E,Q.opt,Q.bind,Q.run] at h;exact ⟨v,rfl,h.symm⟩
theorem q0g {α:Type} {b:Bool} {q:Q α} {r:α} (h:(Q.guard b q).run ob=some r):b=true∧q.run ob=some r:=by
 rw [Q.run_guard] at h
 split at h
 ·exact ⟨‹_›,h⟩
 ·cases h
theorem q03 {α β:Type} {o:Option α} {f:α→Q β} {r:β} (h:((Q.opt o).bind f).run ob=some r):∃ a,o=some a∧(f a).run ob=some r:=by
 rw [Q.run_bind,Q.run_opt,Option.bind_eq_some_iff] at h
 exact h
theorem q0i {α β:Type} {q:Q α} {f:α→Q β} {r:β} (h:(q.bind f).run ob=some r):∃ a,q.run ob=some a∧(f a).run ob=some r:=by
 rw [Q.run_bind,Option.bind_eq_some_iff] at h
 exact h
theorem qg4 (hm:Mem w U ι ob) {x:V} {u:Value} {g:Bool} {s t:Nat} {r:Res} (hx:VR w U ι ob x u) (ha:q45 P t=some g) (hs:q1b P t=some s)
  (hr:(q6y g s x).run ob=some r):∃ (a:Addr) (u':Value),u=.pointer (some a)∧(loadVar t a).run P w=.ok u' w∧VR w U ι ob r.1 u'∧r.2=[]:=by
 unfold q6y at hr
 split at hr
 ·rename_i k off
  simp only [Q.run] at hr
  split at hr
  ·rename_i cells e hk
   obtain ⟨v,hv,rfl⟩:=q0L hr
   simp only [VR,LR] at hx
   obtain ⟨_,_,_,rfl⟩:=hx
   obtain ⟨cur,h1,h2,h3⟩:=hm.obj k _ hk
   have hcl:=h2.len
   obtain ⟨u,h4,h5⟩:=qbJ (P:=P) hv (cur:=cur.toList) (by rw [List.take_of_length_le (by omega)];exact h2) (by omega) h1 (o:=0) (fun j u hu=>by simpa using hu) ha hs
   rw [Nat.zero_add] at h4
   exact ⟨_,u,rfl,h4,h5,rfl⟩
  ·simp [Q.run] at hr
 ·rename_i k i off c
  simp only [Q.run] at hr
  split at hr
  ·rename_i rows sz e own hk
   obtain ⟨hc,hr⟩:=q0g hr
   obtain ⟨row,hrow,hr⟩:=q03 hr
   obtain ⟨v,hv,rfl⟩:=q0L hr
   simp only [VR,LR] at hx
   obtain ⟨rows',size',_,_,hk',hcl,h0,_⟩:=hx
   rw [hk] at hk'
   cases hk'
   obtain ⟨h0,rfl⟩:=h0 (by simpa using hc)
   obtain ⟨cur,h1,h2,h3,h4,h5,h6⟩:=hm.obj k _ hk
   have hcr:=(h5.at_ hrow).2
   obtain ⟨u,h7,h8⟩:=qcK (P:=P) hv hcr ha hs
   rw [Nat.zero_add] at h7
   exact ⟨_,u,rfl,h7,h8,rfl⟩
  ·simp [Q.run] at hr
 ·rename_i row off
  obtain ⟨v,hv,rfl⟩:=q0L hr
  simp only [VR,LR,DR] at hx
  obtain ⟨b,o,rfl,hu,hc⟩:=hx
  obtain ⟨u,h7,h8⟩:=qcK (P:=P) hv hc ha hs
  exact ⟨_,u,rfl,h7,h8,rfl⟩
 ·simp [Q.run] at hr
theorem qgt (hm:Mem w U ι ob) {x:V} {u:Value} {g:Bool} {s t:Nat} {r:Res} (hx:VR w U ι ob x u) (ha:q45 P t=some g) (hs:q1b P t=some s)
  (hr:(q6y g s x).run ob=some r):q8t P w U ι ob (Instr.loadAt t u) r:=by
 obtain ⟨a,u',rfl,h1,h2,h3⟩:=qg4 (P:=P) hm hx ha hs hr
 obtain ⟨v,us⟩:=r
 simp only at h3
 subst h3
 exact q0k hm (by simpa [Instr.loadAt,Instr.sureAddr] using h1) h2
end
section
open Go.RowKit
variable {P:Program} {w:World} {U:Nat→Prop} {ι:Pl} {ob:Ob}
def qjC (P:Program) (w:World) (U:Nat→Prop) (ι:Pl) (ob:Ob) (s:Sem Unit) (r:Res):Prop :=
 ∃ w' U' ι',s.run P w=.ok () w'∧Mem w' U' ι' (q1k ob r.2)∧Evo w U ι ob w' U' ι' (q1k ob r.2)∧r.1=.one .undef
theorem q4X {α:Type} (xs ys:List α) (off:Nat) (h:off+ys.length≤xs.length) (j:Nat) :
  (xs.take off++ys++xs.drop (off+ys.length))[j]?=if j < off then xs[j]? else if j < off+ys.length then ys[j - off]? else xs[j]?:=by
 rw [List.append_assoc,List.getElem?_append]
 simp only [List.length_take,show min off xs.length=off by omega]
 split
 ·rw [List.getElem?_take,if_pos (by omega)]
 ·rw [List.getElem?_append]
  split
  ·rw [if_pos (by omega)]
  ·rw [if_neg (by omega),List.getElem?_drop]
   congr 1
   omega
theorem LF.splice {xs ys:List L} {vs us:List Value} (h:LF w U ι ob xs vs) (k:LF w U ι ob ys us) (off:Nat) :
  LF w U ι ob (xs.take off++ys++xs.drop (off+ys.length)) (vs.take off++us++vs.drop (off+us.length)):=by
 rw [k.len]
 exact ((h.take off).append k).append (h.drop _)
theorem q5s (w:World) (g:Nat) (cs:Array Value):(w.setRow g cs).heap.size=w.heap.size:=by simp [World.setRow]
theorem qeu (hm:Mem w U ι ob) {x:V} {u y:Value} {v:V} {cs:List L} {t:Nat} {r:Res} (hx:VR w U ι ob x u) (hv:VR w U ι ob v y) (hc:v.cells=some cs) (hs:q1b P t=some cs.length)
  (hr:(q6U x cs).run ob=some r):qjC P w U ι ob (Instr.storeAt t u y) r:=by
 obtain ⟨hl,h1⟩:=VR.cells hv hc
 have hsz:y.cells.size=cs.length:=by have:=hl.len;simpa using this
 have hpre:∀ a,(storeVar t a y).run P w=(storeCells a y.cells.toList).run P w:=fun a=>by
  simp [storeVar,hsz,q1B hs]
 unfold q6U at hr
 split at hr
 ·rename_i cs0 k off
  simp only [Q.run] at hr
  split at hr
  ·rename_i cells e hk
   obtain ⟨hle,hr⟩:=q0g hr
   simp only [Q.run,Option.some.injEq] at hr
   subst hr
   simp only [VR,LR] at hx
   obtain ⟨_,_,_,rfl⟩:=hx
   obtain ⟨cur,h2,h3,h4⟩:=hm.obj k _ hk
   have hle':off+cs.length≤cells.length:=by simpa using hle
   have hcl:=h3.len
   simp only [Array.length_toList] at hcl
   have hrun:=run_storeCells_at P (ι k).1 off e y.cells.toList 0 cur w h2 (by simp [hsz];omega) h1
   simp only [Nat.add_zero] at hrun
   obtain ⟨m1,m2⟩:=q2Z (w':=w.setRow (ι k).1 (cur.toList.take off++y.cells.toList++cur.toList.drop (off+y.cells.toList.length)).toArray) hm k
    (.box (cells.take off++cs++cells.drop (off+cs.length)) e) (ι k) rfl rfl rfl (by rw [q5s];exact Nat.le_refl _)
    (fun b _ hb=>setRow_other _ _ _ _ (hb.resolve_left (by simp [hk]))) (fun o ho=>by rw [hk] at ho;cases ho;exact ⟨rfl,rfl,rfl⟩) (.inr ⟨by simp [hk],rfl⟩) rfl
    (fun e'=>by
     refine ⟨_,by rw [q09];exact setRow_heap _ _ _ _ _ _ h2,?_,by rw [q09];exact h4⟩
     simp only []
     exact LF.evo e' _ _ (h3.splice hl off))
   refine ⟨_,U,_,by simpa [Instr.storeAt,Instr.sureAddr,hpre] using hrun,m1,m2,rfl⟩
  ·simp [Q.run] at hr
 ·rename_i cs0 k i off c
  simp only [Q.run] at hr
  split at hr
  ·rename_i rows sz e own hk
   obtain ⟨hg,hr⟩:=q0g hr
   simp only [Bool.and_eq_true,decide_eq_true_eq] at hg
   obtain ⟨hown,hcc⟩:=hg
   subst hown
   obtain ⟨row,hrow,hr⟩:=q03 hr
   obtain ⟨⟨ds,us⟩,hfr,hr⟩:=q0i hr
   obtain ⟨hg2,hr⟩:=q0g hr
   simp only [Bool.and_eq_true,decide_eq_true_eq,List.isEmpty_iff] at hg2
   obtain ⟨hle,rfl⟩:=hg2
   simp only [Q.run,Option.some.injEq] at hr
   subst hr
   have hds:∀ {xs:List L} {ds:List D},(q5l xs).run ob=some (ds,[])→xs=ds.map .d:=by
    intro xs
    induction xs with
    | nil=>intro ds h;simp [q5l,Q.run] at h;simp [←h]
    | cons x xs ih =>
     intro ds h
     simp only [q5l] at h
     obtain ⟨⟨d,u1⟩,h1,h⟩:=q0i h
     obtain ⟨⟨ds',u2⟩,h2,h⟩:=q0i h
     simp only [Q.run,Option.some.injEq,Prod.mk.injEq,List.append_eq_nil_iff] at h
     obtain ⟨rfl,rfl,rfl⟩:=h
     have:=ih h2
     subst this
     cases x with
     | d x=>simp [frz,Q.run] at h1;subst h1;rfl
     | slk k off n c =>
      simp only [frz,Q.run] at h1
      split at h1
      ·obtain ⟨_,h1⟩:=q0g h1;simp [Q.run] at h1
      ·simp [Q.run] at h1
     | pa=>simp [frz,Q.run] at h1
     | ptr=>simp [frz,Q.run] at h1
     | fn=>simp [frz,Q.run] at h1
     | mk=>simp only [frz,Q.run] at h1;split at h1<;>simp [Q.run] at h1
     | undef=>simp [frz,Q.run] at h1
   have hcs:=hds hfr
   subst hcs
   simp only [VR,LR] at hx
   obtain ⟨rows',size',_,_,hk',_,h0,_⟩:=hx
   rw [hk] at hk'
   cases hk'
   obtain ⟨hic,rfl⟩:=h0 hcc
   obtain ⟨cur,h2,h3,h4,h5,h6,h7⟩:=hm.obj k _ hk
   have hrl:=(h6.at_ hrow).1
   have hi:i < rows.length:=(List.getElem?_eq_some_iff.1 hrow).1
   have hisz:i*sz+sz≤cur.size:=by
    rw [h5]
    calc i*sz+sz=(i+1)*sz:=by rw [Nat.add_mul];omega
     _≤(ι k).2*sz:=Nat.mul_le_mul_right _ (by omega)
   have hyl:y.cells.toList.length=ds.length:=by simpa using hsz
   have hrun:=run_storeCells_at P (ι k).1 (i*sz+off) e y.cells.toList 0 cur w h2 (by rw [hyl];omega) h1
   simp only [Nat.add_zero] at hrun
   have hsz':(cur.toList.take (i*sz+off)++y.cells.toList++cur.toList.drop (i*sz+off+y.cells.toList.length)).length=cur.size:=by
    simp only [List.length_append,List.length_take,List.length_drop,Array.length_toList,hyl];omega
   have hFR:FR w U ds y.cells.toList:=by
    have key:∀ {ds:List D} {vs:List Value},LF w U ι ob (ds.map .d) vs→FR w U ds vs:=by
     intro ds
     induction ds with
     | nil=>intro vs h;simpa [LF,FR] using h
     | cons d ds ih=>intro vs h;simp only [List.map_cons,LF,LR] at h;obtain ⟨v,vs',rfl,h1,h2⟩:=h;simp only [FR];exact ⟨v,vs',rfl,h1,ih h2⟩
    exact key hl
   obtain ⟨m1,m2⟩:=q2Z (w':=w.setRow (ι k).1 (cur.toList.take (i*sz+off)++y.cells.toList++cur.toList.drop (i*sz+off+y.cells.toList.length)).toArray) hm k
    (.arr (rows.set i (row.take off++ds++row.drop (off+ds.length))) sz e true) (ι k) rfl rfl rfl (by rw [q5s];exact Nat.le_refl _)
    (fun b _ hb=>setRow_other _ _ _ _ (hb.resolve_left (by simp [hk]))) (fun o ho=>by rw [hk] at ho;cases ho;exact ⟨rfl,rfl,rfl,by simp,fun _=>rfl⟩) (.inr ⟨by simp [hk],rfl⟩) rfl
    (fun e'=>by
     refine ⟨_,by rw [q09];exact setRow_heap _ _ _ _ _ _ h2,by rw [q09];simpa using h3,by rw [q09];exact h4,by rw [q09];simpa [h5] using hsz',?_,by rw [q09];exact h7⟩
     rw [q09]
     refine RR.mk fun j r hj=>?_
     have hcell:∀ q,(w.setRow (ι k).1 (cur.toList.take (i*sz+off)++y.cells.toList++cur.toList.drop (i*sz+off+y.cells.toList.length)).toArray).cell? ⟨(ι k).1,q,none⟩ =
       if q < i*sz+off then cur[q]? else if q < i*sz+off+ds.length then y.cells.toList[q - (i*sz+off)]? else cur[q]?:=fun q=>by
      rw [q0F (setRow_heap _ _ _ _ _ _ h2)]
      have:=q4X cur.toList y.cells.toList (i*sz+off) (by rw [hyl];simp;omega) q
      simp only [List.getElem?_toArray]
      rw [this,hyl]
      simp
     rw [List.getElem?_set] at hj
     have old:∀ {j:Nat} {r:List D},rows[j]?=some r→j≠i→r.length=sz∧CR (w.setRow (ι k).1 (cur.toList.take (i*sz+off)++y.cells.toList++cur.toList.drop (i*sz+off+y.cells.toList.length)).toArray) U (ι k).1 (0+j*sz) r:=by
      intro j r hj hne
      obtain ⟨hl2,hc2⟩:=h6.at_ hj
      refine ⟨hl2,CR.mk fun q x hq=>?_⟩
      obtain ⟨u,hu,hd⟩:=hc2.at_ hq
      have hql:q < sz:=by rw [←hl2];exact (List.getElem?_eq_some_iff.1 hq).1
      refine ⟨u,?_,DR.mono e'.kept e'.sub x u hd⟩
      rw [q0F h2] at hu
      rw [hcell]
      have:0+j*sz+q < i*sz∨i*sz+sz≤0+j*sz+q:=by
       rcases Nat.lt_or_gt_of_ne hne with h | h
       ·left
        have:(j+1)*sz≤i*sz:=Nat.mul_le_mul_right _ h
        rw [Nat.add_mul] at this;omega
       ·right
        have:(i+1)*sz≤j*sz:=Nat.mul_le_mul_right _ h
        rw [Nat.add_mul] at this;omega
      split
      ·exact hu
      ·rw [if_neg (by omega)];exact hu
     split at hj
     ·rename_i hij
      subst hij
      try rw [if_pos hi] at hj
      cases hj
      obtain ⟨hl2,hc2⟩:=h6.at_ hrow
      refine ⟨by simp only [List.length_append,List.length_take,List.length_drop];omega,CR.mk fun q x hq=>?_⟩
      rw [q4X _ _ _ hle] at hq
      rw [hcell]
      split at hq
      ·rename_i hlt
       obtain ⟨u,hu,hd⟩:=hc2.at_ hq
       rw [q0F h2] at hu
       exact ⟨u,by rw [if_pos (by omega)];exact hu,DR.mono e'.kept e'.sub x u hd⟩
      ·split at hq
       ·obtain ⟨u,hu,hd⟩:=hFR.at_ hq
        refine ⟨u,?_,DR.mono e'.kept e'.sub x u hd⟩
        rw [if_neg (by omega),if_pos (by omega)]
        rw [←hu];congr 1;omega
       ·obtain ⟨u,hu,hd⟩:=hc2.at_ hq
        rw [q0F h2] at hu
        exact ⟨u,by rw [if_neg (by omega),if_neg (by omega)];exact hu,DR.mono e'.kept e'.sub x u hd⟩
     ·rename_i hij
      exact old hj (fun e=>hij e.symm))
   refine ⟨_,U,_,by simpa [Instr.storeAt,Instr.sureAddr,hpre] using hrun,m1,m2,rfl⟩
  ·simp [Q.run] at hr
 ·simp [Q.run] at hr
theorem qdh (cs:List Value):∀ (vs:List Value) (off i:Nat) (arr:Array Value),arr.toList=cs→off+i+vs.length≤cs.length →
  ((vs.zipIdx i).foldl (fun a (p:Value×Nat)=>a.setIfInBounds (off+p.2) p.1) arr).toList=cs.take (off+i)++vs++cs.drop (off+i+vs.length):=by
 intro vs
 induction vs generalizing cs with
 | nil=>intro off i arr h _;simp [h]
 | cons v vs ih =>
  intro off i arr h hl
  simp only [List.length_cons] at hl
  simp only [List.zipIdx_cons,List.foldl_cons]
  rw [ih (cs.set (off+i) v) off (i+1) (arr.setIfInBounds (off+i) v) (by simp [h]) (by simp;omega)]
  apply List.ext_getElem?
  intro j
  have e1:=q4X (cs.set (off+i) v) vs (off+(i+1)) (by simp;omega) j
  have e2:=q4X cs (v::vs) (off+i) (by simp;omega) j
  rw [e1,e2]
  simp only [List.length_cons]
  by_cases h1:j < off+i
  ·rw [if_pos (by omega),if_pos h1,List.getElem?_set_ne (by omega)]
  ·by_cases h2:j=off+i
   ·subst h2
    rw [if_pos (by omega),if_neg (by omega),if_pos (by omega),List.getElem?_set_self (by omega)]
    simp
   ·rw [if_neg (by omega),if_neg h1]
    by_cases h3:j < off+(i+1)+vs.length
    ·rw [if_pos h3,if_pos (by omega)]
     rw [show j - (off+i)=(j - (off+(i+1)))+1 by omega]
     simp
    ·rw [if_neg h3,if_neg (by omega),List.getElem?_set_ne (by omega)]
theorem qgJ {place:Nat→Option (Nat×Nat)}:∀ {parts:List (Nat×V)} {parts':List (Nat×Value)} {cells cs':List L} {arr:Array Value},
  q6M place cells parts=some cs'→LF w U ι ob cells arr.toList→parts.length=parts'.length →
  (∀ (j:Nat) (p:Nat×V) (p':Nat×Value),parts[j]?=some p→parts'[j]?=some p'→p.1=p'.1∧VR w U ι ob p.2 p'.2) →
  ∃ arr',Instr.fill place arr parts'=some arr'∧LF w U ι ob cs' arr'.toList
 | [],[],cells,cs',arr,h,hl,_,_=>by simp [q6M] at h;subst h;exact ⟨arr,rfl,hl⟩
 | [],_::_,_,_,_,_,_,hn,_=>by simp at hn
 | _::_,[],_,_,_,_,_,hn,_=>by simp at hn
 | (i,v)::rest,(i',v')::rest',cells,cs',arr,h,hl,hn,hp=>by
  obtain ⟨hi,hv⟩:=hp 0 _ _ rfl rfl
  simp only at hi hv
  subst hi
  simp only [q6M] at h
  split at h
  ·rename_i off size cs hpl hcs
   split at h
   ·rename_i hsz
    obtain ⟨rfl,hsz⟩:=hsz
    obtain ⟨hvl,_⟩:=VR.cells hv hcs
    have hvs:v'.cells.size=cs.length:=by have:=hvl.len;simpa using this
    have hal:arr.size=cells.length:=by have:=hl.len;simpa using this
    have hfold:=qdh arr.toList v'.cells.toList off 0 arr rfl (by simp [hvs,hal];omega)
    simp only [Nat.add_zero] at hfold
    have hzip:v'.cells.zipIdx.foldl (fun cs (x:Value×Nat)=>cs.setIfInBounds (off+x.2) x.1) arr=(v'.cells.toList.zipIdx 0).foldl (fun a (p:Value×Nat)=>a.setIfInBounds (off+p.2) p.1) arr:=by
     rw [←Array.foldl_toList,Array.toList_zipIdx]
    obtain ⟨arr',h1,h2⟩:=qgJ (arr:=v'.cells.zipIdx.foldl (fun cs (x:Value×Nat)=>cs.setIfInBounds (off+x.2) x.1) arr) h (by
      rw [hzip,hfold]
      exact hl.splice hvl off) (by simpa using hn) (fun j p p' h1 h2=>hp (j+1) p p' (by simpa using h1) (by simpa using h2))
    refine ⟨arr',?_,h2⟩
    simp only [Instr.fill,hpl]
    rw [if_neg (by simp [hvs,hal];omega)]
    exact h1
   ·cases h
  ·cases h
theorem q5V {α β:Type} {f:α→Sem β} {g:α→β}:∀ {l:List α},(∀ a∈l,(f a).run P w=.ok (g a) w)→(l.mapM f).run P w=.ok (l.map g) w
 | [],_=>by simp
 | a::l,h=>by
  have ih:=q5V (l:=l) (fun x hx=>h x (by simp [hx]))
  simp [List.mapM_cons,h a (by simp),ih]
theorem qew (hm:Mem w U ι ob) {t:Nat} {zs:List Value} {parts:List (Nat×V)} {parts':Array (Nat×Value)} {r:Res} (hz:q25 P t=some zs) (ha:q45 P t=some true) (hlay:layC P t=true)
  (hn:parts.length=parts'.size) (hp:∀ (j:Nat) (p:Nat×V) (p':Nat×Value),parts[j]?=some p→parts'[j]?=some p'→p.1=p'.1∧VR w U ι ob p.2 p'.2)
  (hr:(q0E ((q6M (q70 P t) (q5e zs) parts).map .agg)).run ob=some r):q8t P w U ι ob (Instr.build t parts') r:=by
 obtain ⟨v,hv,rfl⟩:=q0L hr
 simp only [Option.map_eq_some_iff] at hv
 obtain ⟨cs',hf,rfl⟩:=hv
 obtain ⟨z,h1,h2,h3⟩:=qcV (w:=w) hz
 have hl:LF w U ι ob (q5e zs) z.cells.toList:=by rw [h2];exact q67 h3
 simp only [q45,Option.map_eq_some_iff] at ha
 obtain ⟨d,hd,hda⟩:=ha
 have fin:∀ (place:Nat→Option (Nat×Nat)),(∀ i x,q70 P t i=some x→place i=some x)→∃ arr,Instr.fill place z.cells parts'.toList=some arr∧LF w U ι ob cs' arr.toList:=by
  intro place hpl
  have hf':q6M place (q5e zs) parts=some cs':=by
   have mono:∀ {ps:List (Nat×V)} {c c':List L},q6M (q70 P t) c ps=some c'→q6M place c ps=some c':=by
    intro ps
    induction ps with
    | nil=>intro c c' h;simpa [q6M] using h
    | cons q ps ih =>
     obtain ⟨i,v⟩:=q
     intro c c' h
     simp only [q6M] at h ⊢
     split at h
     ·rename_i off size cs h1 h2
      rw [hpl _ _ h1,h2]
      split at h
      ·rename_i hh;simp only [];rw [if_pos hh];exact ih h
      ·cases h
     ·cases h
   exact mono hf
  exact qgJ hf' hl (by simpa using hn) (fun j p p' a b=>hp j p p' a (by simpa using b))
 cases d with
 | struct fs =>
  have hlay':∀ f∈fs.toList,(q1b P f.type).isSome=true:=by
   unfold layC at hlay
   rw [hd] at hlay
   exact List.all_eq_true.1 hlay
  have hmap:((fs.mapM fun f=>do pure (f.offset,← sizeOf f.type):Sem (Array (Nat×Nat)))).run P w=.ok (fs.toList.map fun f=>(f.offset,(q1b P f.type).getD 0)).toArray w:=by
   rw [Array.mapM_eq_mapM_toList,Sem.run_map,q5V (g:=fun f=>(f.offset,(q1b P f.type).getD 0))]
   ·rfl
   ·intro f hf
    obtain ⟨s,hs⟩:=Option.isSome_iff_exists.1 (hlay' f hf)
    simp [q1B hs,hs]
  obtain ⟨arr,hfa,hla⟩:=fin ((fs.toList.map fun f=>(f.offset,(q1b P f.type).getD 0)).toArray[·]?) (fun i x hx=>by
   simp only [q70,qjr,hd,q6d] at hx
   cases hfi:fs[i]? with
   | none=>simp [hfi] at hx
   | some f =>
    have hmem:f∈fs.toList:=by
     have:=Array.mem_of_getElem? hfi
     simpa using this
    obtain ⟨s,hs⟩:=Option.isSome_iff_exists.1 (hlay' f hmem)
    simp only [hfi,hs] at hx
    split at hx
    ·rename_i s' g he hg
     cases he
     split at hx
     ·simp at hx
     ·simp at hx
      subst hx
      simp [hfi,hs]
    ·simp at hx)
  refine q0k hm (u:=.agg arr) ?_ (by simp only [VR];exact ⟨arr,rfl,hla⟩)
  simp only [Instr.build]
  rw [Sem.run_bind,h1,Result.andThen_ok,Sem.run_bind,run_underlying hd,Result.andThen_ok]
  simp only []
  rw [Sem.run_bind,hmap,Result.andThen_ok]
  simp only [hfa]
  rfl
 | array n e =>
  have hlay':(q1b P e).isSome=true:=by simpa [layC,hd] using hlay
  ·obtain ⟨s,hs⟩:=Option.isSome_iff_exists.1 hlay'
   obtain ⟨arr,hfa,hla⟩:=fin (fun i=>some (i*s,s)) (fun i x hx=>by
    simp only [q70,qjr,hd,hs,Option.map_some] at hx
    exact hx)
   refine q0k hm (u:=.agg arr) ?_ (by simp only [VR];exact ⟨arr,rfl,hla⟩)
   simp [Instr.build,h1,run_underlying hd,q1B hs,hfa]
 | _=>simp [q5j] at hda
end
section
open Go.RowKit
variable {P:Program} {w:World} {U:Nat→Prop} {ι:Pl} {ob:Ob}
def SameBut (ob ob1:Ob):Prop:=(∀ k rows size elem own,ob k=some (.arr rows size elem own)→∃ own',ob1 k=some (.arr rows size elem own'))∧(∀ k agg keys vals own,ob k=some (.mp agg keys vals own)→∃ own',ob1 k=some (.mp agg keys vals own'))∧(∀ k,ob k=none→ob1 k=none)
theorem SameBut.refl (ob:Ob):SameBut ob ob:=⟨fun _ _ _ _ own h=>⟨own,h⟩,fun _ _ _ _ own h=>⟨own,h⟩,fun _ h=>h⟩
theorem SameBut.freeze {ob1:Ob} (h:SameBut ob ob1) {k:Nat} {ok:O} (hk:ob k=some ok) (hnb:ok.isBox=false):SameBut ob (q2S ob1 k ok.shut):=by
 refine ⟨?_,?_,?_⟩
 ·intro j r s e o hj
  by_cases hjk:j=k
  ·subst hjk;rw [hk] at hj;cases hj;exact ⟨false,q0t _ _ _⟩
  ·obtain ⟨o',h'⟩:=h.1 j r s e o hj
   exact ⟨o',by rw [q0f _ _ hjk];exact h'⟩
 ·intro j agg keys vals o hj
  by_cases hjk:j=k
  ·subst hjk;rw [hk] at hj;cases hj;exact ⟨false,q0t _ _ _⟩
  ·obtain ⟨o',h'⟩:=h.2.1 j agg keys vals o hj
   exact ⟨o',by rw [q0f _ _ hjk];exact h'⟩
 ·intro j hj
  have hjk:j≠k:=by rintro rfl;rw [hk] at hj;cases hj
  rw [q0f _ _ hjk];exact h.2.2 j hj
theorem q0N (ob:Ob) (u u':List (Nat×O)):q1k ob (u++u')=q1k (q1k ob u) u':=by
 induction u generalizing ob with
 | nil=>rfl
 | cons x u ih=>obtain ⟨k,o⟩:=x;simp only [List.cons_append,q1k];exact ih _
theorem qfq (hm:Mem w U ι ob) {k off n c:Nat} {v:Value} (h:LR w U ι ob (.slk k off n c) v) {rows:List (List D)} {size elem:Nat} {own:Bool} (hk:ob k=some (.arr rows size elem own)) (hc:c=rows.length)
  {U':Nat→Prop} (hU:∀ b,U b→U' b) (hb:U' (ι k).1):DR w U' (.sl size ((rows.drop off).take n)) v:=by
 simp only [LR] at h
 obtain ⟨rows',size',elem',own',hk',_,h1,_⟩:=h
 rw [hk] at hk'
 cases hk'
 obtain ⟨h1,rfl⟩:=h1 hc
 obtain ⟨cur,h2,h3,h4,h5,h6,h7⟩:=hm.obj k _ hk
 have hlen:((rows.drop off).take n).length=n:=by simp;omega
 simp only [DR]
 refine ⟨⟨(ι k).1,off*size,none⟩,(ι k).2 - off,by rw [hlen],by rw [hlen];omega,by omega,fun _=>⟨(ι k).1,off*size,rfl,hb,?_⟩⟩
 have:=((h6.drop off).take n)
 rw [Nat.zero_add] at this
 exact RR.mono (fun _ _=>rfl) hU _ rfl _ _ _ this
theorem q5E:∀ {cs:List L} {vs:List Value} {ds:List D} {us:List (Nat×O)} {ob1:Ob} {U1:Nat→Prop},(q5l cs).run ob=some (ds,us)→SameBut ob ob1→Mem w U1 ι ob1→LF w U1 ι ob1 cs vs →
  ∃ U',Mem w U' ι (q1k ob1 us)∧Evo w U1 ι ob1 w U' ι (q1k ob1 us)∧FR w U' ds vs∧SameBut ob (q1k ob1 us)
 | [],vs,ds,us,ob1,U1,h,hs,hm,hl=>by
  simp only [q5l,Q.run,Option.some.injEq,Prod.mk.injEq] at h
  obtain ⟨rfl,rfl⟩:=h
  simp only [LF] at hl
  subst hl
  exact ⟨U1,hm,Evo.refl _ _ _ _,by simp [FR],hs⟩
 | x::xs,vs,ds,us,ob1,U1,h,hs,hm,hl=>by
  simp only [q5l] at h
  obtain ⟨⟨d,u1⟩,h1,h⟩:=q0i h
  obtain ⟨⟨ds',u2⟩,h2,h⟩:=q0i h
  simp only [Q.run,Option.some.injEq,Prod.mk.injEq] at h
  obtain ⟨rfl,rfl⟩:=h
  simp only [LF] at hl
  obtain ⟨v,vs',rfl,hv,hl⟩:=hl
  have step:∃ U2,Mem w U2 ι (q1k ob1 u1)∧Evo w U1 ι ob1 w U2 ι (q1k ob1 u1)∧DR w U2 d v∧SameBut ob (q1k ob1 u1):=by
   cases x with
   | d x =>
    simp only [frz,Q.run,Option.some.injEq,Prod.mk.injEq] at h1
    obtain ⟨rfl,rfl⟩:=h1
    exact ⟨U1,hm,Evo.refl _ _ _ _,by simpa only [LR] using hv,hs⟩
   | slk k off n c =>
    simp only [frz,Q.run] at h1
    split at h1
    ·rename_i rows size elem own hk
     obtain ⟨hc,h1⟩:=q0g h1
     simp only [Q.run,Option.some.injEq,Prod.mk.injEq] at h1
     obtain ⟨rfl,rfl⟩:=h1
     obtain ⟨own',hk1⟩:=hs.1 _ _ _ _ _ hk
     obtain ⟨m1,m2⟩:=q8S hm hk1 rfl
     exact ⟨_,m1,m2,qfq hm hv hk1 (by simpa using hc) (fun b hb=>.inl hb) (.inr rfl),hs.freeze hk rfl⟩
    ·simp [Q.run] at h1
   | pa=>simp [frz,Q.run] at h1
   | ptr=>simp [frz,Q.run] at h1
   | fn=>simp [frz,Q.run] at h1
   | mk k =>
    simp only [frz,Q.run] at h1
    split at h1
    ·rename_i agg keys vals own hk
     simp only [Q.run,Option.some.injEq,Prod.mk.injEq] at h1
     obtain ⟨rfl,rfl⟩:=h1
     obtain ⟨own',hk1⟩:=hs.2.1 _ _ _ _ _ hk
     obtain ⟨m1,m2⟩:=q8S hm hk1 rfl
     simp only [LR] at hv
     obtain ⟨_,_,_,_,h2,rfl⟩:=hv
     rw [hk1] at h2
     cases h2
     obtain ⟨es,clock,h3,h4,h5⟩:=hm.obj _ _ hk1
     refine ⟨_,m1,m2,?_,hs.freeze hk rfl⟩
     simp only [DR]
     exact ⟨_,es,clock,rfl,.inr rfl,h3,KR.mono m2.kept m2.sub _ _ _ _ h4⟩
    ·simp [Q.run] at h1
   | undef=>simp [frz,Q.run] at h1
  obtain ⟨U2,m1,m2,m3,m4⟩:=step
  obtain ⟨U3,m5,m6,m7,m8⟩:=q5E h2 m4 m1 (LF.evo m2 _ _ hl)
  refine ⟨U3,by rw [q0N];exact m5,by rw [q0N];exact m2.trans m6,?_,by rw [q0N];exact m8⟩
  simp only [FR]
  exact ⟨v,vs',rfl,DR.mono m6.kept m6.sub _ _ m3,m7⟩
theorem FR.mono' {w':World} {U':Nat→Prop} {ob':Ob} {ι':Pl} (e:Evo w U ι ob w' U' ι' ob') {xs:List D} {vs:List Value} (h:FR w U xs vs):FR w' U' xs vs:=FR.mono e.kept e.sub _ _ h
theorem FR.take {xs:List D} {vs:List Value} (h:FR w U xs vs) (n:Nat):FR w U (xs.take n) (vs.take n):=by
 induction xs generalizing vs n with
 | nil=>simp only [FR] at h;simp [h,FR]
 | cons x xs ih =>
  simp only [FR] at h;obtain ⟨v,vs',rfl,h1,h2⟩:=h
  cases n with
  | zero=>simp [FR]
  | succ n=>simp only [List.take_succ_cons,FR];exact ⟨v,_,rfl,h1,ih h2 n⟩
theorem FR.drop {xs:List D} {vs:List Value} (h:FR w U xs vs) (n:Nat):FR w U (xs.drop n) (vs.drop n):=by
 induction xs generalizing vs n with
 | nil=>simp only [FR] at h;simp [h,FR]
 | cons x xs ih =>
  simp only [FR] at h;obtain ⟨v,vs',rfl,h1,h2⟩:=h
  cases n with
  | zero=>simp only [List.drop_zero,FR];exact ⟨v,_,rfl,h1,h2⟩
  | succ n=>simpa using ih h2 n
theorem qbL {rows:List (List D)} {size i:Nat} {r:List D} (h:∀ r∈rows,r.length=size) (hi:i < rows.length) (hr:r.length=size) :
  (rows.set i r).flatten=rows.flatten.take (i*size)++r++rows.flatten.drop (i*size+size):=by
 induction rows generalizing i with
 | nil=>simp at hi
 | cons x rows ih =>
  have hx:x.length=size:=h x (by simp)
  cases i with
  | zero=>simp [←hx]
  | succ i =>
   have:=ih (fun y hy=>h y (by simp [hy])) (i:=i) (by simpa using hi)
   simp only [List.set_cons_succ,List.flatten_cons,this]
   have e1:(i+1)*size=size+i*size:=by rw [Nat.add_mul];omega
   rw [e1,List.take_append,List.drop_append]
   simp only [hx,List.take_of_length_le (show x.length≤size+i*size by omega),show size+i*size - size=i*size by omega,show size+i*size+size - size=i*size+size by omega,List.drop_of_length_le (show x.length≤size+i*size+size by omega)]
   simp [List.append_assoc]
theorem qa7 {ρ:Operand→V} {ρ':Operand→Value} {size:Nat}:∀ {parts:List (Nat×Operand)} {rows rows':List (List D)} {us:List (Nat×O)} {ob1:Ob} {U1:Nat→Prop} {arr:Array Value},
  (q2g ρ size rows parts).run ob=some (rows',us)→SameBut ob ob1→Mem w U1 ι ob1→(∀ x,VR w U1 ι ob1 (ρ x) (ρ' x))→(∀ r∈rows,r.length=size)→FR w U1 rows.flatten arr.toList →
  ∃ U' arr',Mem w U' ι (q1k ob1 us)∧Evo w U1 ι ob1 w U' ι (q1k ob1 us)∧Instr.fill (fun i=>some (i*size,size)) arr (parts.map fun p=>(p.1,ρ' p.2))=some arr'∧FR w U' rows'.flatten arr'.toList∧(∀ r∈rows',r.length=size)∧rows'.length=rows.length∧SameBut ob (q1k ob1 us)
 | [],rows,rows',us,ob1,U1,arr,h,hs,hm,hρ,hr,hf=>by
  simp only [q2g,Q.run,Option.some.injEq,Prod.mk.injEq] at h
  obtain ⟨rfl,rfl⟩:=h
  exact ⟨U1,arr,hm,Evo.refl _ _ _ _,rfl,hf,hr,rfl,hs⟩
 | (i,x)::rest,rows,rows',us,ob1,U1,arr,h,hs,hm,hρ,hr,hf=>by
  simp only [q2g] at h
  obtain ⟨cs,hcs,h⟩:=q03 h
  obtain ⟨hg,h⟩:=q0g h
  obtain ⟨⟨ds,u1⟩,h1,h⟩:=q0i h
  obtain ⟨⟨rows2,u2⟩,h2,h⟩:=q0i h
  simp only [Q.run,Option.some.injEq,Prod.mk.injEq] at h
  obtain ⟨rfl,rfl⟩:=h
  simp only [decide_eq_true_eq] at hg
  obtain ⟨hlen,hi⟩:=hg
  obtain ⟨hl,_⟩:=VR.cells (hρ x) hcs
  obtain ⟨U2,m1,m2,m3,m4⟩:=q5E h1 hs hm hl
  have hds:ds.length=size:=by rw [←m3.len,hl.len,hlen]
  have hvs:(ρ' x).cells.size=size:=by have:=hl.len;simp at this;omega
  have hflen:=q1s hr
  have hal:arr.size=rows.length*size:=by have:=hf.len;rw [hflen] at this;simpa using this
  have hisz:i*size+size≤rows.length*size:=by
   calc i*size+size=(i+1)*size:=by rw [Nat.add_mul];omega
    _≤rows.length*size:=Nat.mul_le_mul_right _ hi
  have hfold:=qdh arr.toList (ρ' x).cells.toList (i*size) 0 arr rfl (by simp [hvs,hal];omega)
  simp only [Nat.add_zero] at hfold
  have hzip:(ρ' x).cells.zipIdx.foldl (fun cs (y:Value×Nat)=>cs.setIfInBounds (i*size+y.2) y.1) arr=((ρ' x).cells.toList.zipIdx 0).foldl (fun a (p:Value×Nat)=>a.setIfInBounds (i*size+p.2) p.1) arr:=by
   rw [←Array.foldl_toList,Array.toList_zipIdx]
  have hf2:FR w U2 (rows.set i ds).flatten ((ρ' x).cells.zipIdx.foldl (fun cs (y:Value×Nat)=>cs.setIfInBounds (i*size+y.2) y.1) arr).toList:=by
   rw [hzip,hfold,qbL hr hi hds]
   have:=FR.mono' m2 hf
   have hcl:(ρ' x).cells.toList.length=size:=by simpa using hvs
   rw [hcl]
   exact ((this.take _).append m3).append (this.drop _)
  obtain ⟨U3,arr',m5,m6,m7,m8,m9,m10,m11⟩:=qa7 (arr:=(ρ' x).cells.zipIdx.foldl (fun cs (y:Value×Nat)=>cs.setIfInBounds (i*size+y.2) y.1) arr) h2 m4 m1 (fun y=>VR.evo m2 _ _ (hρ y)) (fun r hr'=>by
   rcases List.mem_or_eq_of_mem_set hr' with h | h
   ·exact hr r h
   ·rw [h];exact hds) hf2
  refine ⟨U3,arr',by rw [q0N];exact m5,by rw [q0N];exact m2.trans m6,?_,m8,m9,by rw [m10,List.length_set],by rw [q0N];exact m11⟩
  simp only [List.map_cons,Instr.fill]
  rw [if_neg (by simp [hvs,hal];omega)]
  exact m7
theorem q3w {zs:List Value} (h:zs.all plain=true):∀ n,FR w U (List.replicate n (zs.map D.lit)).flatten (List.replicate n zs).flatten:=by
 have one:∀ {zs:List Value},zs.all plain=true→FR w U (zs.map D.lit) zs:=by
  intro zs
  induction zs with
  | nil=>intro _;simp [FR]
  | cons z zs ih=>intro h;simp at h;simp only [List.map_cons,FR];exact ⟨z,zs,rfl,DR_lit h.1,ih (by simpa using h.2)⟩
 intro n
 induction n with
 | zero=>simp [FR]
 | succ n ih=>simp only [List.replicate_succ,List.flatten_cons];exact (one h).append ih
theorem q3z {z:Array Value} {size n:Nat} (hz:z.size=size) (_:0 < size):((Array.range (n*size)).map (fun i=>z[i % z.size]!)).toList=(List.replicate n z.toList).flatten:=by
 induction n with
 | zero=>simp
 | succ n ih =>
  rw [List.replicate_succ',List.flatten_append,← ih]
  simp only [Array.toList_map,Array.toList_range,List.flatten_cons,List.flatten_nil,List.append_nil]
  rw [show (n+1)*size=n*size+size by rw [Nat.add_mul];omega,List.range_add,List.map_append]
  congr 1
  apply List.ext_getElem?
  intro j
  simp only [List.map_map,List.getElem?_map]
  by_cases hj:j < size
  ·rw [List.getElem?_range hj]
   simp only [Option.map_some,Function.comp,hz]
   rw [Nat.add_comm,Nat.add_mul_mod_self_right,Nat.mod_eq_of_lt hj]
   simp [hz,hj,getElem!_pos]
  ·rw [List.getElem?_eq_none (by simpa using hj),List.getElem?_eq_none (by simp [hz];omega)]
   rfl
theorem qbX (hm:Mem w U ι ob) {dst:Option Nat} {rows:List (List D)} {size e n cap:Nat} {r:Res} {arr:Array Value} {s:Sem Value} (w':World) (hw:w'=w∨w'=w.drew)
  (hr:(fresh dst (.arr rows size e true) fun k=>.one (.slk k 0 n n)).run ob=some r) (hn:n=rows.length) (hcap:n≤cap) (hmax:cap≤maxLen) (hsz:arr.size=cap*size)
  (hrows:∀ r∈rows,r.length=size) (hf:∃ vs:List Value,FR w U rows.flatten vs∧∀ (j:Nat) (u:Value),vs[j]?=some u→arr[j]?=some u)
  (hrun:s.run P w=.ok (.slice (some ⟨w.heap.size,0,none⟩) n cap) (w'.alloc (.cells arr e))):q8t P w U ι ob s r:=by
 unfold fresh at hr
 cases dst with
 | none=>simp [Q.run] at hr
 | some k =>
  simp only [Q.run] at hr
  cases hk:ob k with
  | some o=>simp [hk,Q.run] at hr
  | none =>
   simp only [hk,Q.run,Option.some.injEq] at hr
   subst hr
   have hh:w'.heap=w.heap:=by rcases hw with rfl | rfl<;>rfl
   have hos:w'.os=w.os∧w'.tape=w.tape∧w'.output=w.output:=by rcases hw with rfl | rfl<;>exact ⟨rfl,rfl,rfl⟩
   have hnew:(w'.alloc (.cells arr e)).heap[w.heap.size]?=some (.cells arr e (0,0)):=by
    have:=heap_alloc_new w' (.cells arr e)
    rwa [hh] at this
   obtain ⟨h1,h2⟩:=q2Z (w':=w'.alloc (.cells arr e)) hm k (.arr rows size e true) (w.heap.size,cap) hos.1 hos.2.1 hos.2.2 (by simp [hh]) (fun b hb _=>by
    show (w'.heap.push _)[b]?=_
    rw [hh,Array.getElem?_push,if_neg (by omega)]) (fun o' h=>by rw [hk] at h;cases h) (.inl (Nat.le_refl _)) rfl (fun e'=>by
     refine ⟨arr,by rw [q09];exact hnew,by rw [q09];simpa [←hn] using hcap,by rw [q09];exact hmax,by rw [q09];exact hsz,?_,by rw [q09];simp;intro hU;exact absurd (hm.lt _ hU) (by simp)⟩
     rw [q09]
     obtain ⟨vs,hv1,hv2⟩:=hf
     exact q2W.2 ⟨hrows,vs,FR.mono' e' hv1,fun j u hu=>by rw [q0F hnew,Nat.zero_add];exact hv2 j u hu⟩)
   refine ⟨_,_,U,_,hrun,h1,h2,?_⟩
   simp only [VR,LR]
   refine ⟨rows,size,e,true,q0t _ _ _,by omega,fun _=>⟨by omega,by rw [q09];simp⟩,_,_,rfl,hcap,hmax⟩
end
section
open Go.RowKit
variable {P:Program} {w:World} {U:Nat→Prop} {ι:Pl} {ob:Ob}
theorem q6p {t s:Nat} (h:q1b P t=some s):∃ i,P.info? t=some i∧i.size=s:=by
 simpa [q1b,Option.map_eq_some_iff] using h
theorem q5H {t s:Nat} (h:q4U P t=some s):∃ i,P.info? t=some i∧i.bytes=s:=by
 simpa [q4U,Option.map_eq_some_iff] using h
theorem q4b {x:V} {u:Value} {p:IntKind×Int} (hx:VR w U ι ob x u) (h:vInt? x=some p):u=.int p.1 p.2:=by
 unfold vInt? at h
 split at h
 ·simp only [Option.some.injEq] at h;subst h;simp only [VR,LR,DR] at hx;exact hx.1
 ·cases h
theorem qic {x:V} {u:Value} {b:Bool} (hx:VR w U ι ob x u) (h:vBool? x=some b):u=.bool b:=by
 unfold vBool? at h
 split at h
 ·simp only [Option.some.injEq] at h;subst h;simp only [VR,LR,DR] at hx;exact hx.1
 ·cases h
theorem qd8 {x:V} {u v:Value} (hx:VR w U ι ob x u) (h:x.lit?=some v):u=v∧plain v=true:=by
 unfold V.lit? at h
 split at h
 ·simp only [Option.some.injEq] at h;subst h;simpa only [VR,LR,DR] using hx
 ·cases h
theorem q1i {v:Value} (h:plain v=true):VR w U ι ob (q3q v) v:=by simp [q3q,VR,LR,DR,h]
theorem q8C (hm:Mem w U ι ob) {dst:Option Nat} {t e s bs:Nat} {zs:List Value} {k:IntKind} {n:Int} {r:Res} (he:q1Y P t=some e) (hs:q1b P e=some s) (hz:q25 P e=some zs) (hb:q4U P e=some bs)
  (hs0:0 < s) (hzl:zs.length=s) (h0:0≤n) (hbn:(bs:Int)*n≤140737488355328) (h63:n≤9223372036854775807)
  (hr:(fresh dst (.arr (List.replicate n.toNat (zs.map .lit)) s e true) fun k=>.one (.slk k 0 n.toNat n.toNat)).run ob=some r):q8t P w U ι ob (Instr.makeSlice t (.int k n) (.int k n)) r:=by
 obtain ⟨i,z,hi,hz',hz1,hz2⟩:=q33 hz
 obtain ⟨i',hi',hs'⟩:=q6p hs
 obtain ⟨i'',hi'',hb'⟩:=q5H hb
 rw [hi] at hi' hi''
 cases hi';cases hi''
 have hrun:=run_make (P:=P) w t e i z (q2R he) hi hz' k k n n h0 (Int.le_refl _) (by rw [hb'];omega) h63
 rw [hs'] at hrun
 have hzsz:z.cells.size=s:=by rw [←hzl,← hz1];simp
 refine qbX hm w (.inl rfl) hr (by simp) (Nat.le_refl _) (by simp [maxLen];omega) (by rw [size_madeCells]) (by intro r hr;rw [List.eq_of_mem_replicate hr];simpa using hzl) ⟨(List.replicate n.toNat zs).flatten,q3w hz2 _,?_⟩ hrun
 intro j u hu
 have:=q3z (z:=z.cells) (n:=n.toNat) hzsz hs0
 rw [hz1] at this
 rw [←this] at hu
 have:=(Array.getElem?_toList (xs:=madeCells z.cells (n.toNat*s)) (i:=j)).symm
 rw [this];exact hu
theorem q5n (hm:Mem w U ι ob) {t e s len:Nat} {zs:List Value} {ρ:Operand→V} {ρ':Operand→Value} {parts:Array (Nat×Operand)} {rows:List (List D)} {us:List (Nat×O)}
  (hρ:∀ x,VR w U ι ob (ρ x) (ρ' x)) (he:q1Y P t=some e) (hs:q1b P e=some s) (hz:q25 P e=some zs) (hs0:0 < s) (hzl:zs.length=s) (hlen:len*s≤16777216)
  (hrows:(q2g ρ s (List.replicate len (zs.map .lit)) parts.toList).run ob=some (rows,us)) :
  ∃ U' arr',Mem w U' ι (q1k ob us)∧Evo w U ι ob w U' ι (q1k ob us)∧FR w U' rows.flatten arr'.toList∧(∀ r∈rows,r.length=s)∧rows.length=len∧arr'.size=len*s∧SameBut ob (q1k ob us) ∧
   (Instr.buildSlice t len (parts.map fun (i,x)=>(i,ρ' x))).run P w=.ok (.slice (some ⟨w.heap.size,0,none⟩) len len) (w.alloc (.cells arr' e)):=by
 obtain ⟨z,hz1,hz2,hz3⟩:=qcV (w:=w) hz
 have hzsz:z.cells.size=s:=by rw [←hzl,← hz2];simp
 have hmf:=q3z (z:=z.cells) (n:=len) hzsz hs0
 rw [hz2] at hmf
 obtain ⟨U',arr',m1,m2,m3,m4,m5,m6,m7⟩:=qa7 (arr:=(Array.range (len*s)).map (fun i=>z.cells[i % z.cells.size]!)) hrows (SameBut.refl ob) hm hρ (by intro r hr;rw [List.eq_of_mem_replicate hr];simpa using hzl) (by rw [hmf];exact q3w hz3 _)
 have hfl:=q1s m5
 have hrl:rows.length=len:=by rw [m6];simp
 have hasz:arr'.size=len*s:=by have:=m4.len;rw [hfl,hrl] at this;simpa using this
 have hrun:(Instr.buildSlice t len (parts.map fun (i,x)=>(i,ρ' x))).run P w=.ok (.slice (some ⟨w.heap.size,0,none⟩) len len) (w.alloc (.cells arr' e)):=by
  have h24:¬ (2 ^ 24 < len*s):=by omega
  have hlist:((parts.map fun (x:Nat×Operand)=>(x.1,ρ' x.2)).toList)=parts.toList.map fun p=>(p.1,ρ' p.2):=by simp
  unfold Instr.buildSlice
  rw [Sem.run_bind,run_underlying (q2R he)]
  simp only [Result.andThen_ok]
  rw [Sem.run_bind,q1B hs,Result.andThen_ok,hlist]
  by_cases h0:len*s=0
  ·have hl0:len=0:=by
    rcases Nat.mul_eq_zero.1 h0 with h | h
    ·exact h
    ·omega
   subst hl0
   simp only [Nat.zero_mul] at m3 ⊢
   have hfill:Instr.fill (fun i=>some (i*s,s)) (Array.map (fun (x:Nat)=>(#[]:Array Value)[x % (#[]:Array Value).size]!) (Array.range 0)) (parts.toList.map fun p=>(p.1,ρ' p.2))=some arr':=by
    have:(Array.map (fun (x:Nat)=>(#[]:Array Value)[x % (#[]:Array Value).size]!) (Array.range 0))=(Array.range 0).map (fun i=>z.cells[i % z.cells.size]!):=by simp
    rw [this];exact m3
   simp only [Sem.run_bind,Sem.run_pure,Result.andThen_ok,if_true,show ¬ (0 > 2 ^ 24) by omega,if_false,hfill,newRow,run_newObj]
   rfl
  ·simp only [Sem.run_bind,Sem.run_pure,Result.andThen_ok,show ¬ (len*s > 2 ^ 24) by omega,if_false,h0,hz1,m3,newRow,run_newObj]
   rfl
 exact ⟨U',arr',m1,m2,m4,m5,hrl,hasz,m7,hrun⟩
theorem q81 (hm:Mem w U ι ob) {dst:Option Nat} {t e s len:Nat} {zs:List Value} {ρ:Operand→V} {ρ':Operand→Value} {parts:Array (Nat×Operand)} {rows:List (List D)} {us:List (Nat×O)} {v:V} {u:List (Nat×O)}
  (hρ:∀ x,VR w U ι ob (ρ x) (ρ' x)) (he:q1Y P t=some e) (hs:q1b P e=some s) (hz:q25 P e=some zs) (hs0:0 < s) (hzl:zs.length=s) (hlen:len*s≤16777216)
  (hrows:(q2g ρ s (List.replicate len (zs.map .lit)) parts.toList).run ob=some (rows,us)) (hr:(fresh dst (.arr rows s e true) fun k=>.one (.slk k 0 len len)).run ob=some (v,u)) :
  q8t P w U ι ob (Instr.buildSlice t len (parts.map fun (i,x)=>(i,ρ' x))) (v,us++u):=by
 obtain ⟨U',arr',m1,m2,m4,m5,hrl,hasz,m7,hrun⟩:=q5n hm hρ he hs hz hs0 hzl hlen hrows
 have hr':(fresh dst (.arr rows s e true) fun k=>.one (.slk k 0 len len)).run (q1k ob us)=some (v,u):=by
  unfold fresh at hr ⊢
  cases dst with
  | none=>simp [Q.run] at hr
  | some k =>
   simp only [Q.run] at hr ⊢
   cases hk:ob k with
   | some o=>simp [hk,Q.run] at hr
   | none=>rw [hk] at hr;rw [m7.2.2 k hk];exact hr
 have hg:=qbX (P:=P) m1 (arr:=arr') (cap:=len) w (.inl rfl) hr' hrl.symm (Nat.le_refl _) (by
  have:len≤len*s:=Nat.le_mul_of_pos_right _ hs0
  simp [maxLen];omega) hasz m5 ⟨arr'.toList,m4,fun j u hu=>by simpa using hu⟩ hrun
 obtain ⟨v',w',U'',ι',g1,g2,g3,g4⟩:=hg
 exact ⟨v',w',U'',ι',g1,by simpa only [q0N] using g2,by simpa only [q0N] using m2.trans g3,by simpa only [q0N] using g4⟩
theorem q98 {x v:V} {u:Value} {n:Nat} (hx:VR w U ι ob x u) (h:q3o n x=some v):∃ a:Addr,u=.pointer (some a)∧VR w U ι ob v (.pointer (some (a.add n))):=by
 unfold q3o at h
 split at h
 ·simp only [Option.some.injEq] at h;subst h
  simp only [VR,LR] at hx ⊢
  obtain ⟨cells,e,h1,rfl⟩:=hx
  exact ⟨_,rfl,cells,e,h1,by rw [add_lit]⟩
 ·simp only [Option.some.injEq] at h;subst h
  simp only [VR,LR] at hx ⊢
  obtain ⟨rows,s,e,own,h1,h2,h3,a,rfl⟩:=hx
  refine ⟨_,rfl,rows,s,e,own,h1,h2,fun hc=>?_,_,rfl⟩
  obtain ⟨h4,h5⟩:=h3 hc
  cases h5
  exact ⟨h4,by rw [add_lit,Nat.add_assoc]⟩
 ·simp only [Option.some.injEq] at h;subst h
  simp only [VR,LR,DR] at hx ⊢
  obtain ⟨b,o,rfl,h1,h2⟩:=hx
  exact ⟨_,rfl,b,o,by rw [add_lit,Nat.add_assoc],h1,h2⟩
 ·cases h
theorem q8D (hm:Mem w U ι ob) {x:V} {u:Value} {s f:Nat} {p:Nat×Nat×Bool} {r:Res} (hx:VR w U ι ob x u) (hf:q6d P s f=some p) (hr:(q0E (q3o p.1 x)).run ob=some r):q8t P w U ι ob (Instr.fieldAt s u f) r:=by
 obtain ⟨v,hv,rfl⟩:=q0L hr
 obtain ⟨a,rfl,hv'⟩:=q98 hx hv
 unfold q6d at hf
 split at hf
 ·rename_i fs hfs
  split at hf
  ·rename_i fd hfd
   split at hf
   ·rename_i sz g hsz hg
    split at hf
    ·cases hf
    ·rename_i hne
     cases hf
     refine q0k hm (u:=.pointer (some (a.add fd.offset))) ?_ hv'
     simp [Instr.fieldAt,run_underlying hfs,hfd,Instr.sureAddr,fieldPlace,q1B hsz,hne]
   ·cases hf
  ·cases hf
 ·cases hf
theorem q5k (hm:Mem w U ι ob) {x:V} {u y:Value} {t s e:Nat} {arr:Option (Nat×Nat)} {k:IntKind} {i:Int} {r:Res} (hx:VR w U ι ob x u) (hy:y=.int k i)
  (ht:(∃ n,arr=some (n,e)∧P.underlying t=some (.array n e))∨(arr=none∧P.underlying t=some (.slice e))) (hs:q1b P e=some s) (hr:(q2V arr s x i).run ob=some r):q8t P w U ι ob (Instr.indexAt t u y) r:=by
 subst hy
 rcases ht with ⟨n,rfl,hu⟩ | ⟨rfl,hu⟩
 ·simp only [q2V] at hr
  obtain ⟨v,hv,rfl⟩:=q0L hr
  split at hv
  ·rename_i hb
   obtain ⟨a,rfl,hv'⟩:=q98 hx hv
   refine q0k hm (u:=.pointer (some (a.add (i.toNat*s)))) ?_ hv'
   simp [Instr.indexAt,run_underlying hu,Instr.sureAddr,asIntOf,hb,q1B hs]
  ·cases hv
 ·simp only [q2V] at hr
  split at hr
  ·rename_i k off n c
   simp only [Q.run] at hr
   split at hr
   ·rename_i rows size el own hk
    obtain ⟨hg,hr2⟩:=q0g hr;clear hr
    simp only [decide_eq_true_eq] at hg
    obtain ⟨hc,rfl⟩:=hg
    obtain ⟨v,hv,rfl⟩:=q0L hr2
    split at hv
    ·rename_i hb
     cases hv
     simp only [VR,LR] at hx
     obtain ⟨rows',size',el',own',h1,h2,h3,_⟩:=hx
     rw [hk] at h1
     cases h1
     obtain ⟨h4,rfl⟩:=h3 hc
     refine q0k hm (u:=.pointer (some ⟨(ι k).1,off*size+i.toNat*size,none⟩)) ?_ ?_
     ·simp [Instr.indexAt,run_underlying hu,asIntOf,hb,q1B hs,add_lit]
     ·simp only [VR,LR]
      exact ⟨rows,size,el,own,hk,h2,fun _=>⟨by omega,by rw [Nat.add_mul,Nat.add_zero]⟩,_,rfl⟩
    ·cases hv
   ·simp [Q.run] at hr
  ·rename_i sz rows
   obtain ⟨hg,hr2⟩:=q0g hr;clear hr
   simp only [decide_eq_true_eq] at hg
   subst hg
   obtain ⟨v,hv,rfl⟩:=q0L hr2
   split at hv
   ·rename_i h0
    simp only [Option.map_eq_some_iff] at hv
    obtain ⟨row,hrow,rfl⟩:=hv
    simp only [VR,LR,DR] at hx
    obtain ⟨a,cap,rfl,h1,h2,h3⟩:=hx
    have hlt:i.toNat < rows.length:=(List.getElem?_eq_some_iff.1 hrow).1
    obtain ⟨b,o,rfl,hUb,hrr⟩:=h3 (by omega)
    obtain ⟨hrl,hcr⟩:=hrr.at_ hrow
    refine q0k hm (u:=.pointer (some ⟨b,o+i.toNat*sz,none⟩)) ?_ ?_
    ·simp [Instr.indexAt,run_underlying hu,asIntOf,h0,show i < rows.length by omega,q1B hs,add_lit]
    ·simp only [VR,LR,DR]
     exact ⟨b,o+i.toNat*sz,by rw [Nat.add_zero],hUb,hcr⟩
   ·cases hv
  ·simp [Q.run] at hr
theorem qiB {kl kh:IntKind} {n cap:Nat} {l h:Option Int} {lv hv:Option Value} (hl:lv=l.map (Value.int kl)) (hh:hv=h.map (Value.int kh)) (h0:0≤l.getD 0) (h1:l.getD 0≤h.getD n) (h2:h.getD n≤n) (h3:n≤cap) :
  (Instr.sliceBounds true n cap lv hv none).run P w=.ok ((l.getD 0).toNat,(h.getD n).toNat,cap) w:=by
 subst hl hh
 cases l<;>cases h<;>simp only [Option.getD_none,Option.getD_some,Option.map_none,Option.map_some] at*<;> simp only [Instr.sliceBounds,Sem.run_bind,Sem.run_pure,Result.andThen_ok]
 ·simp
 ·rename_i hi
  rw [run_sliceBound _ _ _ _ _ (by omega) (by omega)]
  simp
 ·rename_i lo
  rw [run_sliceBound _ _ _ _ _ (by omega) (by omega)]
  simp
 ·rename_i lo hi
  rw [run_sliceBound _ _ _ _ _ (by omega) (by omega)]
  simp only [Result.andThen_ok]
  rw [run_sliceBound _ _ _ _ _ (by omega) (by omega)]
  simp
theorem qkQ {t e s n cap:Nat} {a:Option Addr} {kl kh:IntKind} {l h:Option Int} {lv hv:Option Value} (ht:P.underlying t=some (.slice e)) (hs:q1b P e=some s) (hl:lv=l.map (Value.int kl)) (hh:hv=h.map (Value.int kh))
  (h0:0≤l.getD 0) (h1:l.getD 0≤h.getD n) (h2:h.getD n≤n) (h3:n≤cap) :
  (Instr.sliceAt t (.slice a n cap) lv hv none).run P w=.ok (.slice (if cap=(l.getD 0).toNat then a else a.map (·.add ((l.getD 0).toNat*s))) ((h.getD n).toNat - (l.getD 0).toNat) (cap - (l.getD 0).toNat)) w:=by
 have:=qiB (P:=P) (w:=w) hl hh h0 h1 h2 h3
 simp [Instr.sliceAt,run_underlying ht,Instr.slice,this,q1B hs]
theorem qjW {t e s n cap:Nat} {a:Addr} {kl kh:IntKind} {l h:Option Int} {lv hv:Option Value} (ht:P.underlying t=some (.slice e)) (hs:q1b P e=some s) (hl:lv=l.map (Value.int kl)) (hh:hv=h.map (Value.int kh))
  (h0:0≤l.getD 0) (h1:l.getD 0≤h.getD n) (h2:h.getD n≤n) (h3:n≤cap) :
  (Instr.sliceAt t (.slice (some a) n cap) lv hv none).run P w=.ok (.slice (some (if cap=(l.getD 0).toNat then a else a.add ((l.getD 0).toNat*s))) ((h.getD n).toNat - (l.getD 0).toNat) (cap - (l.getD 0).toNat)) w:=by
 rw [qkQ ht hs hl hh h0 h1 h2 h3]
 congr 2
 split<;>rfl
theorem qj7 (hm:Mem w U ι ob) {x:V} {u:Value} {t e s:Nat} {kl kh:IntKind} {l h:Option Int} {lv hv:Option Value} {r:Res} (hx:VR w U ι ob x u) (ht:P.underlying t=some (.slice e)) (hs:q1b P e=some s)
  (hl:lv=l.map (Value.int kl)) (hh:hv=h.map (Value.int kh)) (hr:(qaO s x l h).run ob=some r):q8t P w U ι ob (Instr.sliceAt t u lv hv none) r:=by
 unfold qaO at hr
 split at hr
 ·rename_i k off n c
  simp only [Q.run] at hr
  split at hr
  ·rename_i rows size el own hk
   obtain ⟨hg,hr2⟩:=q0g hr;clear hr
   simp only [decide_eq_true_eq] at hg
   obtain ⟨hc,rfl⟩:=hg
   obtain ⟨v,hv',rfl⟩:=q0L hr2
   split at hv'
   ·rename_i hb
    simp only [VR,LR] at hx
    obtain ⟨rows',size',el',own',h1,h2,h3,_,_,he,hcap,hmax⟩:=hx
    rw [hk] at h1
    cases h1
    obtain ⟨h4,rfl⟩:=h3 hc
    cases he
    have hrun:=qkQ (P:=P) (w:=w) (a:=some ⟨(ι k).1,off*size,none⟩) ht hs hl hh hb.1 hb.2.1 hb.2.2 hcap
    split at hv'
    ·rename_i hcase
     cases hv'
     refine q0k hm hrun ?_
     simp only [VR,LR]
     refine ⟨rows,size,el,own,hk,h2,fun _=>⟨by omega,?_⟩,_,_,by rw [show (h.getD n - l.getD 0).toNat=(h.getD n).toNat - (l.getD 0).toNat by omega],by omega,by omega⟩
     rw [show (h.getD n - l.getD 0).toNat=(h.getD n).toNat - (l.getD 0).toNat by omega]
     congr 1
     ·split
      ·have:(l.getD 0).toNat=0:=by omega
       rw [this];simp
      ·simp only [Option.map_some,add_lit,Nat.add_mul]
     ·omega
    ·cases hv'
     have hrun2:=qjW (P:=P) (w:=w) (a:=(⟨(ι k).1,off*size,none⟩:Addr)) ht hs hl hh hb.1 hb.2.1 hb.2.2 hcap
     refine q0k hm hrun2 ?_
     simp only [VR,LR,DR]
     refine ⟨_,_,by rw [show (h.getD n).toNat - (l.getD 0).toNat=0 by omega];rfl,by simp,by omega,by simp⟩
   ·cases hv'
  ·simp [Q.run] at hr
 ·rename_i size rows
  obtain ⟨hg,hr2⟩:=q0g hr;clear hr
  simp only [decide_eq_true_eq] at hg
  subst hg
  obtain ⟨v,hv',rfl⟩:=q0L hr2
  split at hv'
  ·rename_i hb
   cases hv'
   simp only [VR,LR,DR] at hx
   obtain ⟨a,cap,rfl,h1,h2,h3⟩:=hx
   have hrun:=qjW (P:=P) (w:=w) (a:=a) ht hs hl hh hb.1 hb.2.1 hb.2.2 h1
   refine q0k hm hrun ?_
   have hlen:((rows.drop (l.getD 0).toNat).take (h.getD rows.length - l.getD 0).toNat).length=(h.getD rows.length).toNat - (l.getD 0).toNat:=by simp;omega
   simp only [VR,LR,DR]
   refine ⟨_,_,by rw [hlen],by rw [hlen];omega,by omega,fun hp=>?_⟩
   rw [hlen] at hp
   obtain ⟨b,o,rfl,hU,hrr⟩:=h3 (by omega)
   refine ⟨b,o+(l.getD 0).toNat*size,?_,hU,(hrr.drop _).take _⟩
   rw [if_neg (by omega)]
   simp [add_lit]
  ·cases hv'
 ·obtain ⟨v,hv',rfl⟩:=q0L hr
  split at hv'
  ·rename_i hb
   cases hv'
   simp only [VR,LR,DR] at hx
   obtain ⟨rfl,hp⟩:=hx
   have hh0:h.getD (0:Nat)=0:=by simpa using hb.2
   have hrun:=qkQ (P:=P) (w:=w) (a:=none) (n:=0) (cap:=0) ht hs hl hh (by omega) (by omega) (by omega) (Nat.le_refl _)
   refine q0k hm (u:=.slice none 0 0) ?_ (by simp [VR,LR,DR,hp])
   rw [hrun]
   simp [hb.1,hb.2]
  ·cases hv'
 ·simp [Q.run] at hr
end
section
open Go.RowKit
variable {P:Program} {w:World} {U:Nat→Prop} {ι:Pl} {ob:Ob}
theorem src_ok (hm:Mem w U ι ob) {x:V} {u:Value} {es:Nat} {new:List (List D)} (hx:VR w U ι ob x u) (hr:(q2e es x).run ob=some new) :
  ∃ (a:Option Addr) (n c:Nat),u=.slice a n c∧n=new.length∧(∀ r∈new,r.length=es)∧(a=none→new=[]) ∧
   ∃ vs,FR w U new.flatten vs∧∀ ad,a=some ad→∀ (j:Nat) (v:Value),vs[j]?=some v→w.cell? (ad.add j)=some v:=by
 unfold q2e at hr
 split at hr
 ·simp only [Q.run,Option.some.injEq] at hr
  subst hr
  simp only [VR,LR,DR] at hx
  exact ⟨none,0,0,hx.1,rfl,by simp,fun _=>rfl,[],by simp [FR],by simp⟩
 ·rename_i size rows
  obtain ⟨hg,hr2⟩:=q0g hr;clear hr
  simp only [decide_eq_true_eq] at hg
  subst hg
  simp only [Q.run,Option.some.injEq] at hr2
  subst hr2
  simp only [VR,LR,DR] at hx
  obtain ⟨a,cap,rfl,h1,h2,h3⟩:=hx
  rcases Nat.eq_zero_or_pos rows.length with h0 | h0
  ·have:rows=[]:=List.eq_nil_of_length_eq_zero h0
   subst this
   exact ⟨a,0,cap,rfl,rfl,by simp,fun _=>rfl,[],by simp [FR],by simp⟩
  ·obtain ⟨b,o,rfl,hU,hrr⟩:=h3 h0
   obtain ⟨h4,vs,h5,h6⟩:=q2W.1 hrr
   refine ⟨_,_,cap,rfl,rfl,h4,by simp,vs,h5,fun ad hd j v hv=>?_⟩
   cases hd
   rw [add_lit]
   exact h6 j v hv
 ·rename_i k off n c
  simp only [Q.run] at hr
  split at hr
  ·rename_i rows size el own hk
   obtain ⟨hg,hr2⟩:=q0g hr;clear hr
   simp only [decide_eq_true_eq] at hg
   obtain ⟨hc,rfl⟩:=hg
   simp only [Q.run,Option.some.injEq] at hr2
   subst hr2
   simp only [VR,LR] at hx
   obtain ⟨rows',size',el',own',h1,h2,h3,_⟩:=hx
   rw [hk] at h1
   cases h1
   obtain ⟨h4,rfl⟩:=h3 hc
   obtain ⟨cur,h5,h6,h7,h8,h9,h10⟩:=hm.obj k _ hk
   have hrr:=(h9.drop off).take n
   rw [Nat.zero_add] at hrr
   obtain ⟨h11,vs,h12,h13⟩:=q2W.1 hrr
   refine ⟨_,n,_,rfl,by simp;omega,h11,by simp,vs,h12,fun ad hd j v hv=>?_⟩
   cases hd
   rw [add_lit]
   exact h13 j v hv
  ·simp [Q.run] at hr
 ·simp [Q.run] at hr
theorem q5o (t ty e:TypeId) (i:TypeInfo) (ht:P.underlying t=some (.slice e)) (hi:P.info? e=some i) (b:Option Addr) (n cap:Nat) (hb:b=none→n=0) (hn:n≤cap) (a:Option Addr) (c:Nat) :
  (Builtin.append_ #[t,t] ty #[.slice b n cap,.slice a 0 c]).run P w=.ok (.slice b n cap) w:=by
 cases a with
 | none=>cases b<;>simp [Builtin.append_,run_underlying ht,sizeOf,typeInfo,hi,Builtin.lenOf,Builtin.firstCells,hn,storeCells]
 | some a=>cases b<;>simp [Builtin.append_,run_underlying ht,sizeOf,typeInfo,hi,Builtin.lenOf,Builtin.firstCells,hn,storeCells,loadCells,loadCellsFrom]
set_option maxHeartbeats 400000 in
theorem qbG (hm:Mem w U ι ob) {dst:Option Nat} {t ty e sz bs:Nat} {s x:V} {us ux:Value} {new:List (List D)} {r:Res} (hs:VR w U ι ob s us) (hx:VR w U ι ob x ux)
  (he:q1Y P t=some e) (hsz:q1b P e=some sz) (hbs:q4U P e=some bs) (hz:(q25 P e).isSome=true) (hs0:0 < sz) (_:0 < bs) (hsrc:(q2e sz x).run ob=some new) (hr:(q2F dst e sz bs s new).run ob=some r)
  (hzl:∀ zs,q25 P e=some zs→zs.length=sz) :
  q8t P w U ι ob (Builtin.append_ #[t,t] ty #[us,ux]) r:=by
 obtain ⟨a,n,c,rfl,hn,hrows,hnone,vs,hvs,hcell⟩:=src_ok hm hx hsrc
 obtain ⟨zs,hzs⟩:=Option.isSome_iff_exists.1 hz
 have hzl':=hzl zs hzs
 obtain ⟨i,z,hi,hz',hz1,hz2⟩:=q33 hzs
 obtain ⟨i',hi',hsize⟩:=q6p hsz
 obtain ⟨i'',hi'',hbytes⟩:=q5H hbs
 rw [hi] at hi' hi''
 cases hi';cases hi''
 have hzsz:z.cells.size=sz:=by rw [←hzl',← hz1];simp
 have hvl:vs.length=n*sz:=by rw [hvs.len,q1s hrows,hn]
 unfold q2F at hr
 split at hr
 ·split at hr
  ·rename_i hnew
   subst hnew
   simp only [Q.run,Option.some.injEq] at hr
   subst hr
   have hv:=hs
   simp only [VR,LR,DR] at hv
   obtain ⟨rfl,hp⟩:=hv
   simp at hn
   subst hn
   exact q0k hm (q5o t ty e i (q2R he) hi none 0 0 (fun _=>rfl) (Nat.le_refl _) a c) hs
  ·rename_i hnew
   obtain ⟨hg,hr2⟩:=q0g hr;clear hr
   simp only [decide_eq_true_eq] at hg
   simp only [VR,LR,DR] at hs
   obtain ⟨rfl,_⟩:=hs
   have hnpos:0 < n:=by rw [hn];exact List.length_pos_iff.2 hnew
   cases a with
   | none=>exact absurd (hnone rfl) hnew
   | some ad =>
    obtain ⟨v',w',h1,h2,h3,h4,h5⟩:=run_append_own_at (P:=P) w w.heap.size t ty e i z sz bs (q2R he) hi hz' hsize hbytes hzsz hs0 (.slice none 0 0) 0 [] (World.ownsRow_nil _ _ _ _) ad n c vs hvl (hcell ad rfl) hvs.one (by omega) (by rw [Nat.zero_add,hn];exact hg.1) (Nat.le_refl _)
    rw [Nat.zero_add,List.nil_append] at h2
    rcases h2 with ⟨h2l,h2 | ⟨g,cap,cur,rfl,hg1,hg2,hg3,hg4,hg5,hg6⟩⟩
    ·exact absurd (by omega) (Nat.lt_irrefl n)
    ·have hgw:g=w.heap.size:=by
      rcases h5 with h5 | h5<;>simp [Value.ownBlock] at h5
      exact h5
     subst hgw
     unfold fresh at hr2
     cases dst with
     | none=>simp [Q.run] at hr2
     | some k =>
      simp only [Q.run] at hr2
      cases hk:ob k with
      | some o=>simp [hk,Q.run] at hr2
      | none =>
       simp only [hk,Q.run,Option.some.injEq] at hr2
       subst hr2
       obtain ⟨m1,m2⟩:=q2Z (w':=w') hm k (.arr new sz e true) (w.heap.size,cap) h3.os h3.tape h3.output h3.size (fun b hb _=>h3.block b hb (by simp [Value.ownBlock])) (fun o' h=>by rw [hk] at h;cases h) (.inl (Nat.le_refl _)) rfl (fun e'=>by
        refine ⟨cur,by rw [q09];exact hg2,by rw [q09];omega,by rw [q09];exact hg4,by rw [q09];exact hg5,?_,by rw [q09];simp;intro hU;exact absurd (hm.lt _ hU) (by simp)⟩
        rw [q09]
        refine q2W.2 ⟨hrows,vs,FR.mono' e' hvs,fun j u hu=>?_⟩
        rw [q0F hg2,Nat.zero_add]
        rw [←hg6,List.getElem?_take] at hu
        split at hu
        ·simpa using hu
        ·cases hu)
       refine ⟨_,_,U,_,h1,m1,m2,?_⟩
       simp only [VR,LR]
       exact ⟨new,sz,e,true,q0t _ _ _,Nat.le_refl _,fun _=>⟨by omega,by rw [q09];simp [hn]⟩,_,_,by rw [hn],by omega,hg4⟩
 ·rename_i k n0 c0
  simp only [Q.run] at hr
  split at hr
  ·rename_i rows size' elem' own hk
   obtain ⟨hg,hr2⟩:=q0g hr;clear hr
   simp only [Bool.and_eq_true,decide_eq_true_eq] at hg
   obtain ⟨rfl,hc,rfl,rfl,rfl,hby,hmx⟩:=hg
   simp only [Q.run,Option.some.injEq] at hr2
   subst hr2
   simp only [VR,LR] at hs
   obtain ⟨rows',size'',el',own',h1,h2,h3,_⟩:=hs
   rw [hk] at h1
   cases h1
   obtain ⟨h4,rfl⟩:=h3 hc
   obtain ⟨cur,h5,h6,h7,h8,h9,h10⟩:=hm.obj k _ hk
   obtain ⟨hro,ovs,hov,hoc⟩:=q2W.1 h9
   have hovl:ovs.length=rows.length*size':=by rw [hov.len,q1s hro]
   have hcurle:rows.length*size'≤cur.size:=by rw [h8];exact Nat.mul_le_mul_right _ h6
   have hctake:cur.toList.take (rows.length*size')=ovs:=by
    apply List.ext_getElem?
    intro j
    rw [List.getElem?_take]
    split
    ·rename_i hj
     have hjo:j < ovs.length:=by omega
     have:=hoc j ovs[j] (List.getElem?_eq_getElem hjo)
     rw [q0F h5,Nat.zero_add] at this
     rw [List.getElem?_eq_getElem hjo,← this]
     simp
    ·rw [List.getElem?_eq_none (by omega)]
   have hown:w.ownsRow (ι k).1 elem' size' (.slice (some ⟨(ι k).1,0,none⟩) rows.length ((ι k).2)) rows.length ovs :=
    ⟨hovl,.inr ⟨(ι k).1,(ι k).2,cur,rfl,Nat.le_refl _,h5,h6,h7,h8,hctake⟩⟩
   rw [Nat.zero_mul]
   simp only [Nat.sub_zero]
   have fin:∀ (v':Value) (w':World),(Builtin.append_ #[t,t] ty #[.slice (some ⟨(ι k).1,0,none⟩) rows.length ((ι k).2),.slice a n c]).run P w=.ok v' w' →
     w'.ownsRow (ι k).1 elem' size' v' (rows.length+n) (ovs++vs)→w.grownBy w' (some (ι k).1)→(v'.ownBlock=some (ι k).1∨v'.ownBlock=some w.heap.size) →
     (n=0→v'=.slice (some ⟨(ι k).1,0,none⟩) rows.length ((ι k).2)) →
     q8t P w U ι ob (Builtin.append_ #[t,t] ty #[.slice (some ⟨(ι k).1,0,none⟩) rows.length ((ι k).2),.slice a n c]) (.one (.slk k 0 (rows.length+new.length) (rows.length+new.length)),[(k,.arr (rows++new) size' elem' true)]):=by
    intro v' w' g1 g2 g3 g4 g5
    have g2':∃ g cap cur',v'=.slice (some ⟨g,0,none⟩) (rows.length+n) cap∧(g=(ι k).1∨g=w.heap.size)∧w'.heap[g]?=some (.cells cur' elem' (0,0))∧rows.length+n≤cap∧cap≤maxLen∧cur'.size=cap*size'∧cur'.toList.take ((rows.length+n)*size')=ovs++vs∧(n=0→(g,cap)=ι k):=by
     rcases g2 with ⟨_,⟨rfl,_⟩ | ⟨g,cap,cur',rfl,_,q2,q3,q4,q5,q6⟩⟩
     ·simp [Value.ownBlock] at g4
     ·refine ⟨g,cap,cur',rfl,by simpa [Value.ownBlock] using g4,q2,q3,q4,q5,q6,fun h0=>?_⟩
      have:=g5 h0
      injection this with e1 e2 e3
      injection e1 with e1
      injection e1 with e1
      rw [e1,e3]
    obtain ⟨g,cap,cur',rfl,q1,q2,q3,q4,q5,q6,q7⟩:=g2'
    obtain ⟨m1,m2⟩:=q2Z (w':=w') hm k (.arr (rows++new) size' elem' true) (g,cap) g3.os g3.tape g3.output g3.size
     (fun b hb hbk=>g3.block b hb (by
      rcases hbk with hbk | hbk
      ·rw [hk] at hbk;cases hbk
      ·simpa using hbk)) (fun o' h=>by
      rw [hk] at h
      cases h
      refine ⟨rfl,rfl,rfl,by simp,fun h0=>q7 ?_⟩
      simp at h0
      rw [hn,h0];rfl) (by
      rcases q1 with rfl | rfl
      ·exact .inr ⟨by simp [hk],rfl⟩
      ·exact .inl (Nat.le_refl _)) rfl (fun e'=>by
      refine ⟨cur',by rw [q09];exact q2,by rw [q09];simpa [←hn] using q3,by rw [q09];exact q4,by rw [q09];exact q5,?_,?_⟩
      ·rw [q09]
       refine q2W.2 ⟨by
        intro r hr
        rcases List.mem_append.1 hr with h | h
        ·exact hro r h
        ·exact hrows r h,ovs++vs,by rw [List.flatten_append];exact (FR.mono' e' hov).append (FR.mono' e' hvs),fun j u hu=>?_⟩
       rw [q0F q2,Nat.zero_add]
       rw [←q6,List.getElem?_take] at hu
       split at hu
       ·simpa using hu
       ·cases hu
      ·rw [q09]
       simp only [if_true]
       rcases q1 with rfl | rfl
       ·simpa using h10
       ·intro hU;exact absurd (hm.lt _ hU) (by simp))
    refine ⟨_,_,U,_,g1,m1,m2,?_⟩
    simp only [VR,LR]
    exact ⟨rows++new,size',elem',true,q0t _ _ _,by simp,fun _=>⟨by simp,by rw [q09];simp [hn]⟩,_,_,by rw [hn],by omega,q4⟩
   rcases Nat.eq_zero_or_pos n with hn0 | hn0
   ·have hnew0:new=[]:=List.eq_nil_of_length_eq_zero (by omega)
    have hvs0:vs=[]:=List.eq_nil_of_length_eq_zero (by rw [hvl,hn0];simp)
    subst hn0
    have hap:=q5o (P:=P) (w:=w) t ty elem' i (q2R he) hi (some ⟨(ι k).1,0,none⟩) rows.length ((ι k).2) (by simp) h6 a c
    exact fin _ _ hap (by rw [hvs0,List.append_nil];exact hown) (World.grownBy.refl _ _) (.inl rfl) (fun _=>rfl)
   ·cases a with
    | none=>have:=hnone rfl;rw [this] at hn;simp at hn;omega
    | some ad =>
     obtain ⟨v',w',g1,g2,g3,g4,g5⟩:=run_append_own_at (P:=P) w (ι k).1 t ty elem' i z size' bs (q2R he) hi hz' hsize hbytes hzsz hs0 _ rows.length ovs hown ad n c vs hvl (hcell ad rfl) hvs.one (by rw [hn];exact hmx) (by rw [hn];exact hby) (Nat.le_of_lt (hm.block hk))
     refine fin v' w' g1 g2 g3 (by simpa only [Value.ownBlock] using g5) (fun h=>absurd h (Nat.ne_of_gt hn0))
  ·simp [Q.run] at hr
 ·simp [Q.run] at hr
end
section
open Go.RowKit
variable {P:Program} {w:World} {U:Nat→Prop} {ι:Pl} {ob:Ob}
theorem qay {t kd:Nat} (h:qhP P t=some kd):∃ k e d,P.underlying t=some (.map k e)∧P.underlying k=some d∧qle d=some kd:=by
 unfold qhP at h
 split at h
 ·simp only [Option.bind_eq_some_iff] at h
  obtain ⟨d,h1,h2⟩:=h
  exact ⟨_,_,d,by assumption,h1,h2⟩
 ·cases h
theorem q7x {d:TypeDesc} {kd:Nat} {u v:Value} {b:Bool} (hd:qle d=some kd) (h:kEq kd u v=some b):Instr.sameNow d u v=some b:=by
 cases d<;>simp [qle] at hd<;>subst hd<;>cases u<;>cases v<;>simp_all [kEq,Instr.sameNow]
theorem q6J {d:TypeDesc} {kd:Nat} {k:Value} {agg:Bool} (hd:qle d=some kd):∀ {vals:List (List D)} {keys:List Value} {es:List MapEntry} {i:Nat} {r:Option Nat},KR w U agg keys es vals→q3f kd k keys i=some r →
  ∃ r',Instr.findNow d k es i=some r'∧r'.map (·.1)=r∧(∀ j x,r'=some (j,x)→i≤j∧∃ row cs,vals[j - i]?=some row∧x=q38 agg cs∧(agg=false→cs.length=1)∧FR w U row cs)∧(∀ j,r=some j→i≤j∧∃ kk,keys[j - i]?=some kk∧kEq kd k kk=some true)
 | [],keys,es,i,r,hk,h=>by
  simp only [KR] at hk
  obtain ⟨rfl,rfl⟩:=hk
  simp only [q3f,Option.some.injEq] at h
  subst h
  exact ⟨none,rfl,rfl,by simp,by simp⟩
 | row::vals,keys,es,i,r,hk,h=>by
  simp only [KR] at hk
  obtain ⟨k1,ks,e,es',cs,rfl,rfl,he,hp,hv,hc,hf,hk⟩:=hk
  simp only [q3f] at h
  split at h
  ·rename_i heq
   cases h
   refine ⟨some (i,e.val),?_,rfl,?_,?_⟩
   ·simp only [Instr.findNow,he,q7x hd heq]
   ·intro j x hx
    cases hx
    exact ⟨Nat.le_refl _,row,cs,by simp,hv,hc,hf⟩
   ·intro j hj
    cases hj
    exact ⟨Nat.le_refl _,k1,by simp,heq⟩
  ·rename_i heq
   obtain ⟨r',h1,h2,h3,h4⟩:=q6J hd hk h
   refine ⟨r',?_,h2,?_,?_⟩
   ·simp only [Instr.findNow,he,q7x hd heq];exact h1
   ·intro j x hx
    obtain ⟨h5,row',cs',h6,h7⟩:=h3 j x hx
    exact ⟨by omega,row',cs',by rw [show j - i=(j - (i+1))+1 by omega];simpa using h6,h7⟩
   ·intro j hj
    obtain ⟨h5,kk,h6,h7⟩:=h4 j hj
    exact ⟨by omega,kk,by rw [show j - i=(j - (i+1))+1 by omega];simpa using h6,h7⟩
  ·cases h
theorem q3n {t kd:Nat} {d:TypeDesc} {e:Bool} {v:Value} (ht:P.underlying t=some d) (hd:qle d=some kd):(Instr.checkKey e 10000 t v).run P w=.ok () w:=by
 have:∀ n,(Instr.checkKey e (n+1) t v).run P w=.ok () w:=by
  intro n
  cases d<;>simp [qle] at hd<;>simp [Instr.checkKey,run_underlying ht]
 exact this 9999
theorem qg1 {agg:Bool} {xs:List L} {cs:List Value} {v:V} (h:mkV agg xs=some v) (hl:LF w U ι ob xs cs) (hc:agg=false→cs.length=1):VR w U ι ob v (q38 agg cs):=by
 unfold mkV at h
 split at h
 ·cases h;simp only [VR,q38,if_true];exact ⟨_,rfl,hl⟩
 ·cases h
  simp only [LF] at hl
  obtain ⟨u,us,rfl,h1,h2⟩:=hl
  simpa only [VR,q38,Bool.false_eq_true,if_false,List.headD_cons] using h1
 ·cases h
theorem qbE (hm:Mem w U ι ob) {t kd e:Nat} {g ok:Bool} {zs:List Value} {x:V} {ux:Value} {k:Value} {r:Res} (hx:VR w U ι ob x ux) (hk:qhP P t=some kd) (he:q66 P t=some e) (hz:q25 P e=some zs) (hzg:(P.info? e).bind (·.zero)=some (q38 g zs))
  (hr:(q7S kd g ok zs x k).run ob=some r):q8t P w U ι ob (Instr.lookup t ux k ok) r:=by
 obtain ⟨kt,e',d,ht,htk,hd⟩:=qay hk
 have:e'=e:=by simpa [q66,ht] using he
 subst this
 obtain ⟨i0,z0,hi,hz0,hz1,hz2⟩:=q33 hz
 have hz3:z0=q38 g zs:=by rw [hi] at hzg;simpa [hz0] using hzg
 have hzrun:(zeroValue e').run P w=.ok (q38 g zs) w:=by simp [zeroValue,q4Y hi,hz0,hz3]
 unfold q7S at hr
 obtain ⟨p,hp,hr⟩:=q0i hr
 simp only [Q.run,Option.some.injEq] at hr
 have main:∀ (b:Nat) (es:Array MapEntry) (clock:Nat) (keys:List Value) (vals:List (List D)),w.heap[b]?=some (.map es clock)→KR w U g keys es.toList vals→(q3f kd k keys 0).bind (qep g zs vals)=some p →
   q8t P w U ι ob (Instr.lookup t (.map (some b)) k ok) r:=by
  intro b es clock keys vals hb hkr hf
  rw [Option.bind_eq_some_iff] at hf
  obtain ⟨q,hq,hg⟩:=hf
  obtain ⟨r',h1,h2,h3,_⟩:=q6J hd hkr hq
  have hobj:(getObj b).run P w=.ok (.map es clock) w:=by simp [getObj,Sem.run,hb]
  have hfind:(Instr.findKey kt k es.toList).run P w=.ok r' w:=by simp [Instr.findKey,run_underlying htk,h1]
  obtain ⟨u,hu,hrun⟩:∃ u,VR w U ι ob p.1 u∧(Instr.lookup t (.map (some b)) k ok).run P w=.ok (if ok then .tuple #[u,.bool p.2] else u) w:=by
   cases r' with
   | none =>
    simp only [Option.map_none] at h2
    subst h2
    simp only [qep,Option.map_eq_some_iff] at hg
    obtain ⟨v,hv,rfl⟩:=hg
    refine ⟨q38 g zs,qg1 hv (q67 hz2) ?_,?_⟩
    ·intro hgf
     subst hgf
     unfold mkV at hv
     split at hv
     ·contradiction
     ·rename_i hll;have:=congrArg List.length hll;simpa [q5e] using this
     ·cases hv
    ·simp [Instr.lookup,run_underlying ht,hobj,q3n htk hd,hfind,hzrun]
   | some jx =>
    obtain ⟨j,x⟩:=jx
    simp only [Option.map_some] at h2
    subst h2
    obtain ⟨_,row,cs,hrow,rfl,hc,hfr⟩:=h3 j x rfl
    simp only [qep,Option.bind_eq_some_iff,Option.map_eq_some_iff] at hg
    obtain ⟨row',hrow',v,hv,rfl⟩:=hg
    rw [Nat.sub_zero,hrow'] at hrow
    cases hrow
    refine ⟨q38 g cs,qg1 hv (q6W hfr) hc,?_⟩
    simp [Instr.lookup,run_underlying ht,hobj,q3n htk hd,hfind]
  subst hr
  refine q0k hm hrun ?_
  cases ok with
  | true=>simp only [if_true,VR,VF];exact ⟨_,rfl,_,_,rfl,hu,.bool p.2,[],rfl,q1i rfl,rfl⟩
  | false=>simpa using hu
 split at hp
 ·rename_i agg' keys vals
  obtain ⟨hg,hp2⟩:=q0g hp
  simp only [beq_iff_eq] at hg
  subst hg
  rw [Q.run_opt] at hp2
  simp only [VR,LR,DR] at hx
  obtain ⟨b,es,clock,rfl,hU,hb,hkr⟩:=hx
  exact main b es clock keys vals hb hkr hp2
 ·rename_i key
  simp only [Q.run] at hp
  split at hp
  ·rename_i agg' keys vals own hkey
   obtain ⟨hg,hp2⟩:=q0g hp
   simp only [beq_iff_eq] at hg
   subst hg
   rw [Q.run_opt] at hp2
   simp only [VR,LR] at hx
   obtain ⟨_,_,_,_,h1,rfl⟩:=hx
   obtain ⟨es,clock,hb,hkr,_⟩:=hm.obj _ _ hkey
   exact main _ es clock keys vals hb hkr hp2
  ·simp [Q.run] at hp
 ·rw [Q.run_opt] at hp
  simp only [VR,LR,DR] at hx
  obtain ⟨rfl,_⟩:=hx
  simp only [qep,Option.map_eq_some_iff] at hp
  obtain ⟨v,hv,rfl⟩:=hp
  have hu:VR w U ι ob v (q38 g zs):=qg1 hv (q67 hz2) (by
   intro hgf
   subst hgf
   unfold mkV at hv
   split at hv
   ·contradiction
   ·rename_i hll;have:=congrArg List.length hll;simpa [q5e] using this
   ·cases hv)
  subst hr
  refine q0k hm (u:=if ok then .tuple #[q38 g zs,.bool false] else q38 g zs) ?_ ?_
  ·have hfind:(Instr.findKey kt k []).run P w=.ok none w:=by simp [Instr.findKey,run_underlying htk,Instr.findNow]
   simp [Instr.lookup,run_underlying ht,q3n htk hd,hfind,hzrun]
  ·cases ok with
   | true=>simp only [if_true,VR,VF];exact ⟨_,rfl,_,_,rfl,hu,.bool false,[],rfl,q1i rfl,rfl⟩
   | false=>simpa using hu
 ·simp [Q.run] at hp
theorem KR.push {agg:Bool} {row:List D} {cs:List Value} {k:Value} {n:Nat}:∀ {vals:List (List D)} {keys:List Value} {es:List MapEntry},KR w U agg keys es vals→plain k=true→(agg=false→cs.length=1)→FR w U row cs →
  KR w U agg (keys++[k]) (es++[{ key:=k,val:=q38 agg cs,born:=n }]) (vals++[row])
 | [],keys,es,h,hp,hc,hf=>by
  simp only [KR] at h
  obtain ⟨rfl,rfl⟩:=h
  simp only [List.nil_append,KR]
  exact ⟨k,[],_,[],cs,rfl,rfl,rfl,hp,rfl,hc,hf,rfl,rfl⟩
 | r::rs,keys,es,h,hp,hc,hf=>by
  simp only [KR] at h
  obtain ⟨k1,ks,e,es',cs1,rfl,rfl,h3,h4,h5,h6,h7,h8⟩:=h
  simp only [List.cons_append,KR]
  exact ⟨k1,_,e,_,cs1,rfl,rfl,h3,h4,h5,h6,h7,KR.push h8 hp hc hf⟩
theorem KR.set_ {agg:Bool} {row:List D} {cs:List Value} {k:Value}:∀ {vals:List (List D)} {keys:List Value} {es:List MapEntry} {j:Nat},KR w U agg keys es vals→(∀ kk,keys[j]?=some kk→kk=k)→(agg=false→cs.length=1)→FR w U row cs →
  KR w U agg keys (es.modify j fun e=>{ e with key:=k,val:=q38 agg cs }) (vals.set j row)
 | [],keys,es,j,h,_,_,_=>by
  simp only [KR] at h
  obtain ⟨rfl,rfl⟩:=h
  simp [KR]
 | r::rs,keys,es,j,h,hkk,hc,hf=>by
  simp only [KR] at h
  obtain ⟨k1,ks,e,es',cs1,rfl,rfl,h3,h4,h5,h6,h7,h8⟩:=h
  cases j with
  | zero =>
   have:=hkk k1 rfl
   subst this
   simp only [List.set_cons_zero,List.modify_zero_cons,KR]
   exact ⟨k1,ks,_,es',cs,rfl,rfl,rfl,h4,rfl,hc,hf,h8⟩
  | succ j =>
   simp only [List.set_cons_succ,List.modify_succ_cons,KR]
   exact ⟨k1,ks,e,_,cs1,rfl,rfl,h3,h4,h5,h6,h7,KR.set_ h8 (fun kk hk=>hkk kk (by simpa using hk)) hc hf⟩
theorem qkn (a b:ByteArray):(a==b)=true↔a=b:=by
 rw [beq_toListBytes]
 simp only [beq_iff_eq]
 constructor
 ·intro h
  rw [ByteArray.toList_eq,ByteArray.toList_eq] at h
  obtain ⟨⟨x⟩⟩:=a
  obtain ⟨⟨y⟩⟩:=b
  simp at h
  rw [h]
 ·rintro rfl;rfl
theorem qk7 {kd:Nat} {u v:Value} (h:kEq kd u v=some true):v=u:=by
 unfold kEq at h
 split at h
 ·split at h
  ·rename_i hk;simp at h;rw [hk,h]
  ·cases h
 ·simp only [Option.some.injEq] at h;rw [(qkn _ _).1 h]
 ·simp at h;rw [h]
 ·cases h
theorem qik {kd:Nat} {u v:Value} (h:kEq kd u v=some true) (n:Nat):Instr.sameBits n v u=true:=by
 have:=qk7 h
 subst this
 unfold kEq at h
 split at h
 ·cases n<;>simp [Instr.sameBits]
 ·cases n<;>simp [Instr.sameBits,(qkn _ _).2 rfl]
 ·cases n<;>simp [Instr.sameBits]
 ·cases h
theorem q91 {xs:List L} {ds:List D}:(q5l xs).run ob=some (ds,[])→xs=ds.map .d:=by
 induction xs generalizing ds with
 | nil=>intro h;simp [q5l,Q.run] at h;simp [←h]
 | cons x xs ih =>
  intro h
  simp only [q5l] at h
  obtain ⟨⟨d,u1⟩,h1,h⟩:=q0i h
  obtain ⟨⟨ds',u2⟩,h2,h⟩:=q0i h
  simp only [Q.run,Option.some.injEq,Prod.mk.injEq,List.append_eq_nil_iff] at h
  obtain ⟨rfl,rfl,rfl⟩:=h
  have:=ih h2
  subst this
  cases x with
  | d x=>simp [frz,Q.run] at h1;subst h1;rfl
  | slk k off n c =>
   simp only [frz,Q.run] at h1
   split at h1
   ·obtain ⟨_,h1⟩:=q0g h1;simp [Q.run] at h1
   ·simp [Q.run] at h1
  | pa=>simp [frz,Q.run] at h1
  | ptr=>simp [frz,Q.run] at h1
  | fn=>simp [frz,Q.run] at h1
  | mk=>simp only [frz,Q.run] at h1;split at h1<;>simp [Q.run] at h1
  | undef=>simp [frz,Q.run] at h1
theorem qc1 {ds:List D} {vs:List Value} (h:LF w U ι ob (ds.map .d) vs):FR w U ds vs:=by
 induction ds generalizing vs with
 | nil=>simpa [LF,FR] using h
 | cons d ds ih=>simp only [List.map_cons,LF,LR] at h;obtain ⟨v,vs',rfl,h1,h2⟩:=h;simp only [FR];exact ⟨v,vs',rfl,h1,ih h2⟩
theorem qj6 (hm:Mem w U ι ob) {t kd:Nat} {g:Bool} {x v:V} {ux uv:Value} {k:Value} {r:Res} (hx:VR w U ι ob x ux) (hv:VR w U ι ob v uv) (hkp:plain k=true) (hk:qhP P t=some kd)
  (hr:(qjH kd g x k v).run ob=some r):qjC P w U ι ob (Instr.mapUpdate t ux k uv) r:=by
 obtain ⟨kt,e',d,ht,htk,hd⟩:=qay hk
 unfold qjH at hr
 split at hr
 ·rename_i key
  simp only [Q.run] at hr
  split at hr
  ·rename_i agg' keys vals own hkey
   obtain ⟨hg,hr2⟩:=q0g hr;clear hr
   simp only [Bool.and_eq_true,beq_iff_eq] at hg
   obtain ⟨⟨⟨rfl,rfl⟩,hva⟩,hik⟩:=hg
   obtain ⟨cs,hcs,hr⟩:=q03 hr2;clear hr2
   obtain ⟨⟨ds,us⟩,hfr,hr2⟩:=q0i hr;clear hr
   obtain ⟨hus,hr3⟩:=q0g hr2;clear hr2
   simp only [List.isEmpty_iff] at hus
   subst hus
   obtain ⟨q,hq,hr⟩:=q03 hr3;clear hr3
   have hcd:=q91 hfr
   subst hcd
   obtain ⟨hl,_⟩:=VR.cells hv hcs
   have hFR:=qc1 hl
   have huv:uv=q38 g uv.cells.toList∧(g=false→uv.cells.toList.length=1):=by
    cases v with
    | one y =>
     simp only [q3i] at hva
     subst hva
     have hlen:=hFR.len
     simp only [V.cells] at hcs
     split at hcs
     ·rename_i hdef
      simp only [VR] at hv
      have:=(LR.cells hv hdef).1
      rw [this]
      exact ⟨rfl,fun _=>rfl⟩
     ·cases hcs
    | agg ys =>
     simp only [q3i] at hva
     subst hva
     simp only [VR] at hv
     obtain ⟨vs,rfl,_⟩:=hv
     exact ⟨rfl,by simp⟩
    | tup ys=>simp [V.cells] at hcs
   simp only [VR,LR] at hx
   obtain ⟨_,_,_,_,h1,rfl⟩:=hx
   obtain ⟨es,clock,hb,hkr,hU⟩:=hm.obj _ _ hkey
   obtain ⟨r',f1,f2,f3,f4⟩:=q6J hd hkr hq
   have hobj:(getObj (ι key).1).run P w=.ok (.map es clock) w:=by simp [getObj,Sem.run,hb]
   have hfind:(Instr.findKey kt k es.toList).run P w=.ok r' w:=by simp [Instr.findKey,run_underlying htk,f1]
   have hset:∀ o:Obj,(setObj (ι key).1 o).run P w=.ok () { w with heap:=w.heap.setIfInBounds (ι key).1 o }:=fun o=>by simp [setObj,Sem.run,hb]
   have hblk:=hm.block hkey
   have fin:∀ (es2:Array MapEntry) (clock2:Nat) (keys2:List Value) (vals2:List (List D)),KR w U g keys2 es2.toList vals2→(Instr.mapUpdate t (.map (some (ι key).1)) k uv).run P w=.ok () { w with heap:=w.heap.setIfInBounds (ι key).1 (.map es2 clock2) } →
     r=(.one .undef,[(key,.mp g keys2 vals2 true)])→qjC P w U ι ob (Instr.mapUpdate t (.map (some (ι key).1)) k uv) r:=by
    intro es2 clock2 keys2 vals2 hk2 hrun hr'
    subst hr'
    obtain ⟨m1,m2⟩:=q2Z (w':={ w with heap:=w.heap.setIfInBounds (ι key).1 (.map es2 clock2) }) hm key (.mp g keys2 vals2 true) (ι key) rfl rfl rfl (by simp)
     (fun b hb' hbk=>by
      have hne:b≠(ι key).1:=hbk.resolve_left (by simp [hkey])
      simp [Ne.symm hne])
     (fun o ho=>by rw [hkey] at ho;cases ho;exact ⟨rfl,rfl,rfl⟩) (.inr ⟨by simp [hkey],rfl⟩) rfl
     (fun e2=>⟨es2,clock2,by rw [q09];simp [hblk],KR.mono e2.kept e2.sub _ _ _ _ hk2,by rw [q09];exact hU⟩)
    exact ⟨_,U,_,hrun,m1,m2,rfl⟩
   cases q with
   | none =>
    simp only [Q.run,Option.some.injEq] at hr
    have hr'n:r'=none:=by cases r'<;>simp at f2 ⊢
    subst hr'n
    refine fin (es.push { key:=k,val:=uv,born:=clock }) (clock+1) _ _ ?_ ?_ hr.symm
    ·have:=KR.push (n:=clock) hkr hkp huv.2 hFR
     rw [←huv.1] at this
     simpa using this
    ·simp [Instr.mapUpdate,run_underlying ht,hobj,q3n htk hd,hfind,hset]
   | some j =>
    simp only [Q.run,Option.some.injEq] at hr
    obtain ⟨⟨j',x'⟩,rfl,hj'⟩:=Option.map_eq_some_iff.1 f2
    simp only at hj'
    subst hj'
    obtain ⟨_,kk,hkk,hkeq⟩:=f4 j' rfl
    rw [Nat.sub_zero] at hkk
    have hkk':=qk7 hkeq
    have hold:((es[j']?).map (·.key)).getD k=k:=by
     cases hes:es[j']? with
     | none=>rfl
     | some e0 =>
      have aux:∀ {vals:List (List D)} {keys:List Value} {es:List MapEntry} {j:Nat} {e:MapEntry} {kk:Value},KR w U g keys es vals→es[j]?=some e→keys[j]?=some kk→e.key=kk:=by
       intro vals
       induction vals with
       | nil=>intro keys es j e kk h h1;simp only [KR] at h;obtain ⟨rfl,rfl⟩:=h;simp at h1
       | cons r rs ih =>
        intro keys es j e kk h h1 h2
        simp only [KR] at h
        obtain ⟨k1,ks,e1,es',cs1,rfl,rfl,h3,_,_,_,_,h8⟩:=h
        cases j with
        | zero=>simp at h1 h2;rw [←h1,← h2];exact h3
        | succ j=>exact ih h8 (by simpa using h1) (by simpa using h2)
      simp only [Option.map_some,Option.getD_some]
      rw [aux hkr (by simpa using hes) hkk,hkk']
    have hstay:(Instr.keyThatStays (((es[j']?).map (·.key)).getD k) k).run P w=.ok k w:=by
     rw [hold]
     have:Instr.sameBits 10000 k k=true:=by
      have h:=qik hkeq 10000
      rwa [hkk'] at h
     simp [Instr.keyThatStays,this]
    refine fin (es.modify j' fun e=>{ e with key:=k,val:=uv }) clock _ _ ?_ ?_ hr.symm
    ·have:=KR.set_ (j:=j') (k:=k) hkr (fun q hq=>by rw [hkk] at hq;cases hq;exact hkk') huv.2 hFR
     rw [←huv.1] at this
     simpa using this
    ·simp only [Instr.mapUpdate,Sem.run_bind,run_underlying ht,Result.andThen_ok,hobj,q3n htk hd,hfind,hstay,hset]
  ·simp [Q.run] at hr
 ·simp [Q.run] at hr
theorem qaD (hm:Mem w U ι ob) {dst:Option Nat} {t:Nat} {g:Bool} {r:Res} (hr:(fresh dst (.mp g [] [] true) fun k=>.one (.mk k)).run ob=some r):q8t P w U ι ob (Instr.makeMap t none) r:=by
 refine q6H hm hr (u:=.map (some w.heap.size)) (obj:=.map #[] 0) (c:=0) (by simp [Instr.makeMap]) rfl ?_ ?_
 ·intro k ι' ob' _ hι e'
  exact ⟨#[],0,by rw [hι];exact heap_alloc_new w _,by simp [KR],by rw [hι];simp;intro h;exact absurd (hm.lt _ h) (by simp)⟩
 ·intro k ι' ob' ho hι
  simp only [VR,LR]
  exact ⟨g,[],[],true,ho,by rw [hι]⟩
end
section
open Go.RowKit
variable {P:Program} {w:World} {U:Nat→Prop} {ι:Pl} {ob:Ob}
theorem qbW (hm:Mem w U ι ob) {k:Nat} {rows rows':List (List D)} {size elem:Nat} {cur:Array Value} (hk:ob k=some (.arr rows size elem true)) (hcur:w.heap[(ι k).1]?=some (.cells cur elem (0,0)))
  {new:List Value} (hnl:new.length=cur.size) (hlen:rows'.length=rows.length) (hrl:∀ r∈rows',r.length=size) {vs:List Value} (hvs:FR w U rows'.flatten vs) (hv:∀ (j:Nat) (u:Value),vs[j]?=some u→new[j]?=some u) :
  ∃ ι',Mem (w.setRow (ι k).1 new.toArray) U ι' (q2S ob k (.arr rows' size elem true))∧Evo w U ι ob (w.setRow (ι k).1 new.toArray) U ι' (q2S ob k (.arr rows' size elem true)):=by
 obtain ⟨cur',h2,h3,h4,h5,h6,h7⟩:=hm.obj k _ hk
 rw [hcur] at h2
 cases h2
 obtain ⟨m1,m2⟩:=q2Z (w':=w.setRow (ι k).1 new.toArray) hm k (.arr rows' size elem true) (ι k) rfl rfl rfl (by rw [q5s];exact Nat.le_refl _)
  (fun b _ hb=>setRow_other _ _ _ _ (hb.resolve_left (by simp [hk]))) (fun o ho=>by rw [hk] at ho;cases ho;exact ⟨rfl,rfl,rfl,by omega,fun _=>rfl⟩) (.inr ⟨by simp [hk],rfl⟩) rfl
  (fun e'=>by
   refine ⟨_,by rw [q09];exact setRow_heap _ _ _ _ _ _ hcur,by rw [q09];omega,by rw [q09];exact h4,by rw [q09];simp [hnl,h5],?_,by rw [q09];exact h7⟩
   rw [q09,q2W]
   refine ⟨hrl,vs,FR.mono e'.kept e'.sub _ _ hvs,fun j u hj=>?_⟩
   rw [q0F (setRow_heap _ _ _ _ _ _ hcur)]
   simpa using hv j u hj)
 exact ⟨_,m1,m2⟩
theorem qev (hm:Mem w U ι ob) {x:V} {ux:Value} {t ty e:Nat} {zs:List Value} {r:Res} (hx:VR w U ι ob x ux) (he:q1Y P t=some e) (hz:q25 P e=some zs) (hs0:0 < zs.length) (hr:(q2o zs x).run ob=some r) :
  q8t P w U ι ob (Builtin.clear_ #[t] ty #[ux]) r:=by
 obtain ⟨zv,hzv,hzc,hzp⟩:=qcV (w:=w) hz
 have hu:=q2R he
 unfold q2o at hr
 split at hr
 ·simp only [Q.run,Option.some.injEq] at hr
  subst hr
  simp only [VR,LR,DR] at hx
  obtain ⟨rfl,_⟩:=hx
  refine q0k hm (u:=.tuple #[]) ?_ (by simp only [VR,VF];exact ⟨#[],rfl,rfl⟩)
  simp [Builtin.clear_,run_underlying hu]
 ·rename_i k off n c
  simp only [Q.run] at hr
  split at hr
  ·rename_i rows size elem own hk
   obtain ⟨hg,hr'⟩:=q0g hr
   simp only [Q.run,Option.some.injEq] at hr'
   subst hr'
   clear hr
   simp only [Bool.and_eq_true,decide_eq_true_eq] at hg
   obtain ⟨hown,rfl,rfl,hofn⟩:=hg
   subst hown
   simp only [VR,LR] at hx
   obtain ⟨rows',size',elem',own',hk',_,hval,_⟩:=hx
   rw [hk] at hk'
   cases hk'
   obtain ⟨_,rfl⟩:=hval rfl
   obtain ⟨cur,h2,h3,h4,h5,h6,h7⟩:=hm.obj k _ hk
   rw [q2W] at h6
   obtain ⟨hrl,vs,hvs,hcell⟩:=h6
   have hvl:vs.length=rows.length*zs.length:=by
    rw [hvs.len,q1s (fun r hr=>hrl r hr)]
   have hvc:∀ (j:Nat) (u:Value),vs[j]?=some u→cur.toList[j]?=some u:=fun j u hj=>by
    have:=hcell j u hj
    rw [q0F h2] at this
    simpa using this
   have hzsz:zv.cells.size=zs.length:=by rw [←hzc];simp
   have hzer:(Builtin.zeroCells zv.cells n).toList=(List.replicate n zs).flatten:=by
    have:=q3z (z:=zv.cells) (n:=n) hzsz hs0
    rw [hzc] at this
    rw [←this]
    unfold Builtin.zeroCells
    rw [hzsz]
   have hzflen:(List.replicate n zs).flatten.length=n*zs.length:=by
    simp [List.length_flatten]
   have hcl:rows.length*zs.length≤cur.toList.length:=by
    have:=Nat.mul_le_mul_right zs.length h3
    rw [←h5] at this
    simpa using this
   have hmul:off*zs.length+n*zs.length=rows.length*zs.length:=by rw [←Nat.add_mul,hofn]
   have hone:∀ v∈(List.replicate n zs).flatten,v.oneCell'=true:=by
    intro v hv
    obtain ⟨l,hl,hv⟩:=List.mem_flatten.1 hv
    rw [(List.mem_replicate.1 hl).2] at hv
    exact qaj (by simpa using (List.all_eq_true.1 hzp) v hv)
   have hnl:(cur.toList.take (off*zs.length)++(List.replicate n zs).flatten++cur.toList.drop (off*zs.length+(List.replicate n zs).flatten.length)).length=cur.size:=by
    simp only [List.length_append,List.length_take,List.length_drop,hzflen,Array.length_toList] at hcl ⊢
    omega
   obtain ⟨ι',m1,m2⟩:=qbW hm hk h2 hnl (rows':=rows.take off++List.replicate n (zs.map .lit)) (by simp;omega)
    (fun r hr=>by
     rcases List.mem_append.1 hr with hr | hr
     ·exact hrl r (List.mem_of_mem_take hr)
     ·rw [(List.mem_replicate.1 hr).2];simp)
    (vs:=vs.take (off*zs.length)++(List.replicate n zs).flatten)
    (by
     rw [List.flatten_append]
     have hto:(rows.take off).flatten=rows.flatten.take (off*zs.length):=by
      have e1:rows.flatten=(rows.take off).flatten++(rows.drop off).flatten:=by rw [←List.flatten_append,List.take_append_drop]
      have e2:(rows.take off).flatten.length=off*zs.length:=by
       rw [q1s (size:=zs.length) (fun r hr=>hrl r (List.mem_of_mem_take hr)),List.length_take,Nat.min_eq_left (by omega)]
      rw [e1,List.take_append_of_le_length (by omega),← e2,List.take_length]
     rw [hto]
     exact (hvs.take _).append (q3w hzp n))
    (fun j u hj=>by
     by_cases hlt:j < off*zs.length
     ·rw [List.getElem?_append_left (by rw [List.length_take];omega),List.getElem?_take,if_pos hlt] at hj
      rw [List.append_assoc,List.getElem?_append_left (by rw [List.length_take];omega),List.getElem?_take,if_pos hlt]
      exact hvc j u hj
     ·have hl1:(vs.take (off*zs.length)).length=off*zs.length:=by rw [List.length_take];omega
      have hl2:(cur.toList.take (off*zs.length)).length=off*zs.length:=by rw [List.length_take];omega
      rw [List.getElem?_append_right (by omega),hl1] at hj
      rw [List.append_assoc,List.getElem?_append_right (by omega),hl2]
      have:=(List.getElem?_eq_some_iff.1 hj).1
      rw [List.getElem?_append_left this]
      exact hj)
   by_cases hn:n=0
   ·subst hn
    have hoff:off=rows.length:=by omega
    have hself:q2S ob k (.arr (rows.take off++List.replicate 0 (zs.map .lit)) zs.length elem true)=ob:=by
     funext j
     simp only [q2S,hoff,List.take_length,List.replicate_zero,List.append_nil]
     split
     ·rename_i e;rw [e,hk]
     ·rfl
    refine ⟨.tuple #[],w,U,ι,?_,?_,?_,by simp only [VR,VF];exact ⟨#[],rfl,rfl⟩⟩
    ·simp [Builtin.clear_,run_underlying hu]
    ·simp only [q1k];rw [hself];exact hm
    ·simp only [q1k];rw [hself];exact Evo.refl _ _ _ _
   ·have hrun:=run_storeCells_at P (ι k).1 (off*zs.length) elem (List.replicate n zs).flatten 0 cur w h2 (by rw [hzflen];simp only [Array.length_toList] at hcl;omega) hone
    simp only [Nat.add_zero] at hrun
    refine ⟨.tuple #[],_,U,ι',?_,m1,m2,by simp only [VR,VF];exact ⟨#[],rfl,rfl⟩⟩
    cases n with
    | zero=>exact absurd rfl hn
    | succ n=>simp [Builtin.clear_,run_underlying hu,hzv,hzer,hrun]
  ·simp [Q.run] at hr
 ·simp [Q.run] at hr
theorem q8j (w:World) (o:Obj) {b:Nat} (hb:b < w.heap.size):(w.alloc o).heap[b]?=w.heap[b]?:=by
 show (w.heap.push o)[b]?=_
 rw [Array.getElem?_push,if_neg (by omega)]
theorem qd4 (hm:Mem w U ι ob) (obj:Obj):Mem (w.alloc obj) (fun b=>U b∨b=w.heap.size) ι ob∧Evo w U ι ob (w.alloc obj) (fun b=>U b∨b=w.heap.size) ι ob:=by
 have e:Evo w U ι ob (w.alloc obj) (fun b=>U b∨b=w.heap.size) ι ob :=
  ⟨rfl,rfl,rfl,by simp,fun b hb=>q8j w obj (hm.lt b hb),fun _ h=>.inl h,fun _ cells _ h=>⟨cells,h,rfl⟩,fun _ rows _ _ own h=>⟨rows,own,h,Nat.le_refl _,fun _=>rfl⟩,fun _ _ keys vals own h=>⟨keys,vals,own,h,rfl⟩,
   fun b hb _=>q8j w obj hb,fun k o h ho=>.inr ⟨k,o,h,ho,rfl⟩,fun b h=>h.elim .inl fun h=>.inr (.inl (by omega))⟩
 refine ⟨⟨fun b hb=>?_,fun k o hk=>?_,hm.inj⟩,e⟩
 ·have:(w.alloc obj).heap.size=w.heap.size+1:=by simp
  rcases hb with hb | rfl
  ·have:=hm.lt b hb;omega
  ·omega
 ·have hlt:=hm.block hk
  have hne:(ι k).1≠w.heap.size:=by omega
  refine OR.evo e rfl (q8j w obj hlt) ⟨fun h=>h.resolve_right hne,.inl⟩ (hm.obj k o hk) |> fun h=>?_
  exact h
theorem qbF (hm:Mem w U ι ob) {t e s len:Nat} {zs:List Value} {ρ:Operand→V} {ρ':Operand→Value} {parts:Array (Nat×Operand)} {rows:List (List D)} {us:List (Nat×O)}
  (hρ:∀ x,VR w U ι ob (ρ x) (ρ' x)) (he:q1Y P t=some e) (hs:q1b P e=some s) (hz:q25 P e=some zs) (hs0:0 < s) (hzl:zs.length=s) (hlen:len*s≤16777216)
  (hrows:(q2g ρ s (List.replicate len (zs.map .lit)) parts.toList).run ob=some (rows,us)) :
  q8t P w U ι ob (Instr.buildSlice t len (parts.map fun (i,x)=>(i,ρ' x))) (.one (.d (.sl s rows)),us):=by
 obtain ⟨U',arr',m1,m2,m4,m5,hrl,hasz,m7,hrun⟩:=q5n hm hρ he hs hz hs0 hzl hlen hrows
 obtain ⟨n1,n2⟩:=qd4 m1 (.cells arr' e)
 refine ⟨_,w.alloc (.cells arr' e),_,ι,hrun,n1,m2.trans n2,?_⟩
 simp only [VR,LR,DR]
 have hle:len≤len*s:=Nat.le_mul_of_pos_right _ hs0
 refine ⟨⟨w.heap.size,0,none⟩,len,by rw [hrl],by omega,by simp [maxLen];omega,fun _=>⟨w.heap.size,0,rfl,.inr rfl,?_⟩⟩
 have hnew:(w.alloc (.cells arr' e)).heap[w.heap.size]?=some (.cells arr' e (0,0)):=heap_alloc_new w _
 exact q2W.2 ⟨m5,arr'.toList,FR.mono n2.kept n2.sub _ _ m4,fun j u hu=>by rw [q0F hnew,Nat.zero_add];simpa using hu⟩
theorem qgv (hm:Mem w U ι ob) {x:V} {u:Value} {cs:List L} {e:Nat} {r:Res} (hx:VR w U ι ob x u) (hc:x.cells=some cs)
  (hr:((q5l cs).bind fun (ds,us)=>.ret (.one (.d (.dp ds 0)),us)).run ob=some r):q8t P w U ι ob (Instr.box e u) r:=by
 obtain ⟨⟨ds,us⟩,hf,hr⟩:=q0i hr
 simp only [Q.run,Option.some.injEq] at hr
 subst hr
 have hl:=(VR.cells hx hc).1
 obtain ⟨U1,m1,e1,f1,_⟩:=q5E hf (SameBut.refl ob) hm hl
 obtain ⟨m2,e2⟩:=qd4 m1 (.cells u.cells e)
 refine ⟨.pointer (some ⟨w.heap.size,0,none⟩),w.alloc (.cells u.cells e),_,ι,by simp [Instr.box,newVar,newRow],m2,e1.trans e2,?_⟩
 simp only [VR,LR,DR]
 refine ⟨w.heap.size,0,rfl,.inr rfl,?_⟩
 rw [q9h]
 refine ⟨u.cells.toList,FR.mono e2.kept e2.sub _ _ f1,fun j v hj=>?_⟩
 have hh:(w.alloc (.cells u.cells e)).heap[w.heap.size]?=some (.cells u.cells e):=heap_alloc_new w _
 rw [q0F hh]
 simpa using hj
end
end Go.VE
