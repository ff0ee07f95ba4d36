/- What is laid of variables, and stays: Book's (put it in the place of Ve0). -/
import Derived.WalkKit
import Derived.Lib.SmallJoins
import Derived.Lib.ItoaNum
import Derived.Maps.AppendAt
import Derived.Deep.Draws
import Derived.Laws.MakeOwn
import Derived.Laws.Slices
import Derived.Laws.StructEq
import Derived.Laws.BytesString
namespace Go.VE
open Go.RowKit
def nX:Nat:=6
def blkCells (w:World) (b:Nat):Option (Array Value):=match w.heap[b]? with
 | some (.cells cs _ _)=>some cs
 | _=>none
structure Laid (w:World):Prop where
 m:∃ m,w.cell? ⟨0,0,none⟩=some (.int .i64 m)
 s:∃ ev,w.cell? ⟨1,0,none⟩=some ev∧(ev=.nilIface∨∃ te pe,ev=.iface te pe)
 r:∃ ev,w.cell? ⟨2,0,none⟩=some ev∧(ev=.nilIface∨∃ te pe,ev=.iface te pe)
 t:blkCells w 3=some (Lib.pow10Tab.map fun z=>Value.int .u64 z).toArray
theorem Laid.kept {w w':World} (hb:∀ b,b < nX→w'.heap[b]?=w.heap[b]?) (h:Laid w):Laid w':=by
 obtain ⟨⟨m,h1⟩,⟨e,h2,h2'⟩,⟨f,h3,h3'⟩,h4⟩:=h
 refine ⟨⟨m,(World.cell?_of_block (hb 0 (by decide))).trans h1⟩,⟨e,(World.cell?_of_block (hb 1 (by decide))).trans h2,h2'⟩,⟨f,(World.cell?_of_block (hb 2 (by decide))).trans h3,h3'⟩,?_⟩
 unfold blkCells at h4 ⊢
 rw [hb 3 (by decide)]
 exact h4
theorem Laid.tab {P:Program} {w:World} (hg:P.globalNamed "internal/strconv.uint64pow10" = some 3) (h:Laid w):Lib.TabIs P w "internal/strconv.uint64pow10" .u64 Lib.pow10Tab:=by
 have h4:=h.t
 unfold Lib.TabIs World.var?
 rw [hg]
 exact h4
end Go.VE
namespace Go.VE
open Go.RowKit
def XX (w:World) (U:Nat→Prop):Prop:=(∀ b,b < nX→U b)∧Laid w
theorem XX.mono {w w':World} {U U':Nat→Prop} (h:XX w U) (hb:∀ b,U b→w'.heap[b]?=w.heap[b]?) (hU:∀ b,U b→U' b):XX w' U' :=
 ⟨fun b hn=>hU b (h.1 b hn),h.2.kept fun b hn=>hb b (h.1 b hn)⟩
end Go.VE
namespace Go.VE
inductive D where
 | lit (v:Value)
 | sl (size:Nat) (rows:List (List D))
 | dp (row:List D) (off:Nat)
 | fn (f:Nat) (caps:List D)
 | mp (agg:Bool) (keys:List Value) (vals:List (List D))
 | ifc (t:Nat) (agg:Bool) (row:List D)
def valOf (agg:Bool) (cs:List Value):Value:=if agg then .agg cs.toArray else cs.headD (.tuple #[])
instance:Inhabited D:=⟨.lit .nilFunc⟩
def plain:Value→Bool
 | .bool _ | .int _ _ | .string _ | .pointer none | .slice none 0 0 | .map none | .nilFunc | .nilIface=>true
 | _=>false
def fnVal (f:Nat) (cs:Array Value):Value:=if f < 2000000 then .func (.func f) #[] cs else .func (.func (f - 2000000)) cs #[]
mutual
def DR (w:World) (U:Nat→Prop):D→Value→Prop
 | .lit v,v'=>v'=v∧plain v=true
 | .sl size rows,v'=>∃ a cap,v'=.slice (some a) rows.length cap∧rows.length≤cap∧cap≤maxLen∧(0 < rows.length→∃ b o,a=⟨b,o,none⟩∧U b∧RR w U b o size rows)
 | .dp row off,v'=>∃ b o,v'=.pointer (some ⟨b,o+off,none⟩)∧U b∧CR w U b o row
 | .fn f caps,v'=>∃ cs,v'=fnVal f cs∧FR w U caps cs.toList
 | .mp agg keys vals,v'=>∃ r es clock,v'=.map (some r)∧U r∧w.heap[r]?=some (.map es clock)∧KR w U agg keys es.toList vals
 | .ifc t agg row,v'=>∃ cs,v'=.iface t (valOf agg cs)∧(agg=false→cs.length=1)∧FR w U row cs
def CR (w:World) (U:Nat→Prop) (b:Nat):Nat→List D→Prop
 | _,[]=>True
 | o,x::xs=>(∃ u,w.cell? ⟨b,o,none⟩=some u∧DR w U x u)∧CR w U b (o+1) xs
def RR (w:World) (U:Nat→Prop) (b:Nat):Nat→Nat→List (List D)→Prop
 | _,_,[]=>True
 | o,size,r::rs=>r.length=size∧CR w U b o r∧RR w U b (o+size) size rs
def FR (w:World) (U:Nat→Prop):List D→List Value→Prop
 | [],vs=>vs=[]
 | x::xs,vs=>∃ v vs',vs=v::vs'∧DR w U x v∧FR w U xs vs'
def KR (w:World) (U:Nat→Prop) (agg:Bool) (keys:List Value) (es:List MapEntry):List (List D)→Prop
 | []=>keys=[]∧es=[]
 | r::rs=>∃ k ks e es' cs,keys=k::ks∧es=e::es'∧e.key=k∧plain k=true∧e.val=valOf agg cs∧(agg=false→cs.length=1)∧FR w U r cs∧KR w U agg ks es' rs
end
mutual
theorem DR.mono {w w':World} {U U':Nat→Prop} (hb:∀ b,U b→w'.heap[b]?=w.heap[b]?) (hU:∀ b,U b→U' b):∀ (x:D) (v:Value),DR w U x v→DR w' U' x v
 | .lit v,v',h=>by simpa [DR] using h
 | .sl size rows,v',h=>by
  simp only [DR] at h ⊢
  obtain ⟨a,cap,h1,h2,h2',h3⟩:=h
  refine ⟨a,cap,h1,h2,h2',fun hn=>?_⟩
  obtain ⟨b,o,e,hu,hr⟩:=h3 hn
  exact ⟨b,o,e,hU b hu,RR.mono hb hU b (hb b hu) rows o size hr⟩
 | .dp row off,v',h=>by
  simp only [DR] at h ⊢
  obtain ⟨b,o,e,hu,hr⟩:=h
  exact ⟨b,o,e,hU b hu,CR.mono hb hU b (hb b hu) row o hr⟩
 | .fn f caps,v',h=>by
  simp only [DR] at h ⊢
  obtain ⟨cs,e,hr⟩:=h
  exact ⟨cs,e,FR.mono hb hU caps cs.toList hr⟩
 | .mp agg keys vals,v',h=>by
  simp only [DR] at h ⊢
  obtain ⟨r,es,clock,e,hu,hh,hk⟩:=h
  exact ⟨r,es,clock,e,hU r hu,(hb r hu).trans hh,KR.mono hb hU vals agg keys es.toList hk⟩
 | .ifc t agg row,v',h=>by
  simp only [DR] at h ⊢
  obtain ⟨cs,e,hl,hr⟩:=h
  exact ⟨cs,e,hl,FR.mono hb hU row cs hr⟩
theorem CR.mono {w w':World} {U U':Nat→Prop} (hb:∀ b,U b→w'.heap[b]?=w.heap[b]?) (hU:∀ b,U b→U' b) (b:Nat) (hu:w'.heap[b]?=w.heap[b]?):∀ (xs:List D) (o:Nat),CR w U b o xs→CR w' U' b o xs
 | [],o,h=>by simp [CR]
 | x::xs,o,h=>by
  simp only [CR] at h ⊢
  obtain ⟨⟨u,hc,hd⟩,hr⟩:=h
  exact ⟨⟨u,(World.cell?_of_block hu).trans hc,DR.mono hb hU x u hd⟩,CR.mono hb hU b hu xs (o+1) hr⟩
theorem RR.mono {w w':World} {U U':Nat→Prop} (hb:∀ b,U b→w'.heap[b]?=w.heap[b]?) (hU:∀ b,U b→U' b) (b:Nat) (hu:w'.heap[b]?=w.heap[b]?):∀ (rs:List (List D)) (o size:Nat),RR w U b o size rs→RR w' U' b o size rs
 | [],o,size,h=>by simp [RR]
 | r::rs,o,size,h=>by
  simp only [RR] at h ⊢
  exact ⟨h.1,CR.mono hb hU b hu r o h.2.1,RR.mono hb hU b hu rs (o+size) size h.2.2⟩
theorem FR.mono {w w':World} {U U':Nat→Prop} (hb:∀ b,U b→w'.heap[b]?=w.heap[b]?) (hU:∀ b,U b→U' b):∀ (xs:List D) (vs:List Value),FR w U xs vs→FR w' U' xs vs
 | [],vs,h=>by simpa [FR] using h
 | x::xs,vs,h=>by
  simp only [FR] at h ⊢
  obtain ⟨v,vs',e,h1,h2⟩:=h
  exact ⟨v,vs',e,DR.mono hb hU x v h1,FR.mono hb hU xs vs' h2⟩
theorem KR.mono {w w':World} {U U':Nat→Prop} (hb:∀ b,U b→w'.heap[b]?=w.heap[b]?) (hU:∀ b,U b→U' b):∀ (rs:List (List D)) (agg:Bool) (keys:List Value) (es:List MapEntry),KR w U agg keys es rs→KR w' U' agg keys es rs
 | [],agg,keys,es,h=>by simpa [KR] using h
 | r::rs,agg,keys,es,h=>by
  simp only [KR] at h ⊢
  obtain ⟨k,ks,e,es',cs,h1,h2,h3,h4,h5,h6,h7,h8⟩:=h
  exact ⟨k,ks,e,es',cs,h1,h2,h3,h4,h5,h6,FR.mono hb hU r cs h7,KR.mono hb hU rs agg ks es' h8⟩
end
theorem CR.at_ {w:World} {U:Nat→Prop} {b:Nat}:∀ {xs:List D} {o:Nat},CR w U b o xs→∀ {j:Nat} {x:D},xs[j]?=some x→∃ u,w.cell? ⟨b,o+j,none⟩=some u∧DR w U x u
 | [],_,_,j,x,hj=>by simp at hj
 | y::ys,o,h,0,x,hj=>by simp at hj;subst hj;simp only [CR] at h;simpa using h.1
 | y::ys,o,h,j+1,x,hj=>by
  simp only [CR] at h
  have:=CR.at_ h.2 (j:=j) (x:=x) (by simpa using hj)
  rw [show o+1+j=o+(j+1) by omega] at this
  exact this
theorem CR.mk {w:World} {U:Nat→Prop} {b:Nat}:∀ {xs:List D} {o:Nat},(∀ (j:Nat) (x:D),xs[j]?=some x→∃ u,w.cell? ⟨b,o+j,none⟩=some u∧DR w U x u)→CR w U b o xs
 | [],o,_=>by simp [CR]
 | y::ys,o,h=>by
  simp only [CR]
  refine ⟨by simpa using h 0 y rfl,CR.mk fun j x hj=>?_⟩
  have:=h (j+1) x (by simpa using hj)
  rwa [show o+(j+1)=o+1+j by omega] at this
theorem RR.at_ {w:World} {U:Nat→Prop} {b:Nat}:∀ {rs:List (List D)} {o size:Nat},RR w U b o size rs→∀ {i:Nat} {r:List D},rs[i]?=some r→r.length=size∧CR w U b (o+i*size) r
 | [],_,_,_,i,r,hi=>by simp at hi
 | y::ys,o,size,h,0,r,hi=>by simp at hi;subst hi;simp only [RR] at h;simpa using ⟨h.1,h.2.1⟩
 | y::ys,o,size,h,i+1,r,hi=>by
  simp only [RR] at h
  have:=RR.at_ h.2.2 (i:=i) (r:=r) (by simpa using hi)
  rw [show o+size+i*size=o+(i+1)*size by rw [Nat.add_mul];omega] at this
  exact this
theorem RR.mk {w:World} {U:Nat→Prop} {b:Nat}:∀ {rs:List (List D)} {o size:Nat},(∀ (i:Nat) (r:List D),rs[i]?=some r→r.length=size∧CR w U b (o+i*size) r)→RR w U b o size rs
 | [],o,size,_=>by simp [RR]
 | y::ys,o,size,h=>by
  simp only [RR]
  have h0:=h 0 y rfl
  refine ⟨h0.1,by simpa using h0.2,RR.mk fun i r hi=>?_⟩
  have:=h (i+1) r (by simpa using hi)
  rw [show o+(i+1)*size=o+size+i*size by rw [Nat.add_mul];omega] at this
  exact this
theorem RR.drop {w:World} {U:Nat→Prop} {b o size:Nat} {rs:List (List D)} (h:RR w U b o size rs) (k:Nat):RR w U b (o+k*size) size (rs.drop k) :=
 RR.mk fun i r hi=>by
  have:=h.at_ (i:=k+i) (r:=r) (by rwa [List.getElem?_drop] at hi)
  rw [show o+(k+i)*size=o+k*size+i*size by rw [Nat.add_mul];omega] at this
  exact this
theorem RR.take {w:World} {U:Nat→Prop} {b o size:Nat} {rs:List (List D)} (h:RR w U b o size rs) (k:Nat):RR w U b o size (rs.take k) :=
 RR.mk fun i r hi=>by
  rw [List.getElem?_take] at hi
  split at hi
  ·exact h.at_ hi
  ·cases hi
inductive L where
 | d (x:D)
 | slk (k off n c:Nat)
 | pa (k i off c:Nat)
 | ptr (k off:Nat)
 | fn (f:Nat) (caps:List L)
 | mk (k:Nat)
 | mq (k:Nat)
 | pb (k j off:Nat)
 | sln (k n:Nat)
 | undef
instance:Inhabited L:=⟨.undef⟩
inductive V where
 | one (x:L)
 | agg (xs:List L)
 | tup (xs:List V)
instance:Inhabited V:=⟨.one .undef⟩
inductive O where
 | box (cells:List L) (elem:Nat)
 | arr (rows:List (List D)) (size:Nat) (elem:Nat) (own:Bool)
 | mp (agg:Bool) (keys:List Value) (vals:List (List D)) (own:Bool)
 | ml (keys:List Value) (vals:List L)
 | am (keys:List Value) (rows:List (List D)) (size elem:Nat)
 | nul
structure Pt where
 b:Nat
 c:Nat
 m:List Nat
def Pt.foot (p:Pt):List Nat:=p.1::p.3
abbrev Pl:=Nat→Pt
abbrev Ob:=Nat→Option O
mutual
def LR (w:World) (U:Nat→Prop) (ι:Pl) (ob:Ob):L→Value→Prop
 | .d x,v=>DR w U x v
 | .slk k off n c,v=>∃ rows size elem own,ob k=some (.arr rows size elem own)∧c≤rows.length∧(c=rows.length→off+n≤c∧v=.slice (some ⟨(ι k).1,off*size,none⟩) n ((ι k).2 - off))∧∃ a c',v=.slice a n c'∧n≤c'∧c'≤maxLen
 | .pa k i off c,v=>∃ rows size elem own,ob k=some (.arr rows size elem own)∧c≤rows.length∧(c=rows.length→i < c∧v=.pointer (some ⟨(ι k).1,i*size+off,none⟩))∧∃ a,v=.pointer (some a)
 | .ptr k off,v=>∃ cells elem,ob k=some (.box cells elem)∧v=.pointer (some ⟨(ι k).1,off,none⟩)
 | .fn f caps,v=>∃ cs,v=fnVal f cs∧LF w U ι ob caps cs.toList
 | .mk k,v=>∃ agg keys vals own,ob k=some (.mp agg keys vals own)∧v=.map (some (ι k).1)
 | .mq k,v=>((∃ keys vals,ob k=some (.ml keys vals))∨∃ keys rows size elem,ob k=some (.am keys rows size elem))∧v=.map (some (ι k).1)
 | .pb k j off,v=>(∃ keys rows size elem,ob k=some (.am keys rows size elem))∧∃ b,(ι k).3[j]?=some b∧v=.pointer (some ⟨b,off,none⟩)
 | .sln k n,v=>(n=0∧v=.slice none 0 0)∨(0 < n∧∃ rows size elem own,ob k=some (.arr rows size elem own)∧n≤rows.length∧(n=rows.length→0+n≤n∧v=.slice (some ⟨(ι k).1,0*size,none⟩) n ((ι k).2 - 0))∧∃ a c',v=.slice a n c'∧n≤c'∧c'≤maxLen)
 | .undef,_=>True
def LF (w:World) (U:Nat→Prop) (ι:Pl) (ob:Ob):List L→List Value→Prop
 | [],vs=>vs=[]
 | x::xs,vs=>∃ v vs',vs=v::vs'∧LR w U ι ob x v∧LF w U ι ob xs vs'
end
mutual
def VR (w:World) (U:Nat→Prop) (ι:Pl) (ob:Ob):V→Value→Prop
 | .one x,v=>LR w U ι ob x v
 | .agg xs,v=>∃ cs,v=.agg cs∧LF w U ι ob xs cs.toList
 | .tup xs,v=>∃ vs,v=.tuple vs∧VF w U ι ob xs vs.toList
def VF (w:World) (U:Nat→Prop) (ι:Pl) (ob:Ob):List V→List Value→Prop
 | [],vs=>vs=[]
 | x::xs,vs=>∃ v vs',vs=v::vs'∧VR w U ι ob x v∧VF w U ι ob xs vs'
end
theorem LR.sln_slk {w:World} {U:Nat→Prop} {ι:Pl} {ob:Ob} {k n:Nat} {v:Value} (hn:0 < n):LR w U ι ob (.sln k n) v↔LR w U ι ob (.slk k 0 n n) v:=by
 simp only [LR]
 constructor
 ·rintro (⟨h,_⟩ | ⟨_,h⟩)
  ·omega
  ·exact h
 ·exact fun h=>.inr ⟨hn,h⟩
theorem LR.sln_nil {w:World} {U:Nat→Prop} {ι:Pl} {ob:Ob} {k:Nat} {v:Value}:LR w U ι ob (.sln k 0) v↔v=.slice none 0 0:=by
 simp [LR]
def ER (w:World) (U:Nat→Prop) (ι:Pl) (ob:Ob):List Value→List L→List MapEntry→Prop
 | [],[],[]=>True
 | k::ks,x::xs,e::es=>plain k=true∧e.key=k∧LR w U ι ob x e.val∧ER w U ι ob ks xs es
 | _,_,_=>False
def PR:List Value→List MapEntry→List Nat→Prop
 | [],[],_=>True
 | k::ks,e::es,b::bs=>plain k=true∧e.key=k∧e.val=.pointer (some ⟨b,0,none⟩)∧PR ks es bs
 | _,_,_=>False
def BR (w:World) (U:Nat→Prop) (size elem:Nat):List Nat→List (List D)→Prop
 | [],[]=>True
 | b::bs,r::rs=>(∃ cur,w.heap[b]?=some (.cells cur elem (0,0))∧FR w U r cur.toList)∧r.length=size∧¬ U b∧BR w U size elem bs rs
 | _,_=>False
def OR (w:World) (U:Nat→Prop) (ι:Pl) (ob:Ob) (k:Nat):O→Prop
 | .box cells elem=>∃ cur,w.heap[(ι k).1]?=some (.cells cur elem (0,0))∧LF w U ι ob cells cur.toList∧¬ U (ι k).1
 | .arr rows size elem own=>∃ cur,w.heap[(ι k).1]?=some (.cells cur elem (0,0))∧rows.length≤(ι k).2∧(ι k).2≤maxLen∧cur.size=(ι k).2*size∧RR w U (ι k).1 0 size rows∧(if own then ¬ U (ι k).1 else U (ι k).1)
 | .mp agg keys vals own=>∃ es clock,w.heap[(ι k).1]?=some (.map es clock)∧KR w U agg keys es.toList vals∧(if own then ¬ U (ι k).1 else U (ι k).1)
 | .ml keys vals=>∃ es clock,w.heap[(ι k).1]?=some (.map es clock)∧ER w U ι ob keys vals es.toList∧¬ U (ι k).1
 | .am keys rows size elem=>∃ es clock,w.heap[(ι k).1]?=some (.map es clock)∧PR keys es.toList (ι k).3∧BR w U size elem (ι k).3 rows∧¬ U (ι k).1∧(ι k).foot.Nodup
 | .nul=>False
def O.isAm:O→Bool
 | .am ..=>true
 | _=>false
def O.owned:O→Bool
 | .box ..=>true
 | .arr _ _ _ own=>own
 | .mp _ _ _ own=>own
 | .ml ..=>true
 | .am ..=>true
 | .nul=>false
structure Mem (w:World) (U:Nat→Prop) (ι:Pl) (ob:Ob):Prop where
 lt:∀ b,U b→b < w.heap.size
 obj:∀ k o,ob k=some o→OR w U ι ob k o
 inj:∀ k k' o o',ob k=some o→ob k'=some o'→o.owned=true→o'.owned=true→k≠k'→∀ b∈(ι k).foot,b∉(ι k').foot
 one:∀ k o,ob k=some o→o.isAm=false→(ι k).3=[]
 lay:XX w U
structure Evo (w:World) (U:Nat→Prop) (ι:Pl) (ob:Ob) (w':World) (U':Nat→Prop) (ι':Pl) (ob':Ob):Prop where
 os:w'.os=w.os
 tape:w'.tape=w.tape
 output:w'.output=w.output
 size:w.heap.size≤w'.heap.size
 kept:∀ b,U b→w'.heap[b]?=w.heap[b]?
 sub:∀ b,U b→U' b
 box:∀ k cells elem,ob k=some (.box cells elem)→∃ cells',ob' k=some (.box cells' elem)∧(ι' k).1=(ι k).1
 arr:∀ k rows size elem own,ob k=some (.arr rows size elem own)→∃ rows' own',ob' k=some (.arr rows' size elem own')∧rows.length≤rows'.length∧(rows'.length=rows.length→ι' k=ι k)
 mp:∀ k agg keys vals own,ob k=some (.mp agg keys vals own)→∃ keys' vals' own',ob' k=some (.mp agg keys' vals' own')∧(ι' k).1=(ι k).1
 ml:∀ k keys vals,ob k=some (.ml keys vals)→∃ keys' vals',ob' k=some (.ml keys' vals')∧(ι' k).1=(ι k).1
 am:∀ k keys rows size elem,ob k=some (.am keys rows size elem)→∃ keys' rows',ob' k=some (.am keys' rows' size elem)∧(ι' k).1=(ι k).1∧(ι k).3 <+: (ι' k).3
 same:∀ b,b < w.heap.size→(∀ k o,ob k=some o→o.owned=true→b∉(ι k).foot)→w'.heap[b]?=w.heap[b]?
 ownd:∀ k o,ob' k=some o→o.owned=true→∀ b∈(ι' k).foot,w.heap.size≤b∨∃ k0 o0,ob k0=some o0∧o0.owned=true∧b∈(ι k0).foot
 orig:∀ b,U' b→U b∨w.heap.size≤b∨∃ k o,ob k=some o∧o.owned=true∧b∈(ι k).foot
theorem Evo.refl (w:World) (U:Nat→Prop) (ι:Pl) (ob:Ob):Evo w U ι ob w U ι ob :=
 ⟨rfl,rfl,rfl,Nat.le_refl _,fun _ _=>rfl,fun _ h=>h,fun _ cells _ h=>⟨cells,h,rfl⟩,fun _ rows _ _ own h=>⟨rows,own,h,Nat.le_refl _,fun _=>rfl⟩,fun _ _ keys vals own h=>⟨keys,vals,own,h,rfl⟩,fun _ keys vals h=>⟨keys,vals,h,rfl⟩,fun _ keys rows _ _ h=>⟨keys,rows,h,rfl,List.prefix_refl _⟩,fun _ _ _=>rfl,fun k o h ho _ hb=>.inr ⟨k,o,h,ho,hb⟩,fun _ h=>.inl h⟩
theorem Evo.trans {w w' w'':World} {U U' U'':Nat→Prop} {ι ι' ι'':Pl} {ob ob' ob'':Ob} (h:Evo w U ι ob w' U' ι' ob') (k:Evo w' U' ι' ob' w'' U'' ι'' ob''):Evo w U ι ob w'' U'' ι'' ob'':=by
 refine ⟨k.os.trans h.os,k.tape.trans h.tape,k.output.trans h.output,Nat.le_trans h.size k.size,fun b hb=>(k.kept b (h.sub b hb)).trans (h.kept b hb),fun b hb=>k.sub b (h.sub b hb),?_,?_,?_,?_,?_,?_,?_,?_⟩
 ·intro q cells elem hq
  obtain ⟨c',h1,h2⟩:=h.box q cells elem hq
  obtain ⟨c'',h3,h4⟩:=k.box q c' elem h1
  exact ⟨c'',h3,h4.trans h2⟩
 ·intro q rows size elem own hq
  obtain ⟨r',o',h1,h2,h3⟩:=h.arr q rows size elem own hq
  obtain ⟨r'',o'',h4,h5,h6⟩:=k.arr q r' size elem o' h1
  exact ⟨r'',o'',h4,Nat.le_trans h2 h5,fun e=>(h6 (by omega)).trans (h3 (by omega))⟩
 ·intro q agg keys vals own hq
  obtain ⟨k1,v1,o1,h1,h2⟩:=h.mp q agg keys vals own hq
  obtain ⟨k2,v2,o2,h3,h4⟩:=k.mp q agg k1 v1 o1 h1
  exact ⟨k2,v2,o2,h3,h4.trans h2⟩
 ·intro q keys vals hq
  obtain ⟨k1,v1,h1,h2⟩:=h.ml q keys vals hq
  obtain ⟨k2,v2,h3,h4⟩:=k.ml q k1 v1 h1
  exact ⟨k2,v2,h3,h4.trans h2⟩
 ·intro q keys rows size elem hq
  obtain ⟨k1,v1,h1,h2,h2'⟩:=h.am q keys rows size elem hq
  obtain ⟨k2,v2,h3,h4,h4'⟩:=k.am q k1 v1 size elem h1
  exact ⟨k2,v2,h3,h4.trans h2,h2'.trans h4'⟩
 ·intro b hb hno
  refine (k.same b (Nat.lt_of_lt_of_le hb h.size) fun q o hq ho hmem=>?_).trans (h.same b hb hno)
  rcases h.ownd q o hq ho b hmem with h1 | ⟨k0,o0,h1,h2,h3⟩
  ·omega
  ·exact hno k0 o0 h1 h2 h3
 ·intro q o hq ho b hb
  rcases k.ownd q o hq ho b hb with h1 | ⟨k0,o0,h1,h2,h3⟩
  ·exact .inl (Nat.le_trans h.size h1)
  ·rcases h.ownd k0 o0 h1 h2 b h3 with h4 | ⟨k1,o1,h4,h5,h6⟩
   ·exact .inl h4
   ·exact .inr ⟨k1,o1,h4,h5,h6⟩
 ·intro b hb
  rcases k.orig b hb with h1 | h1 | ⟨q,o,h1,h2,h3⟩
  ·exact h.orig b h1
  ·exact .inr (.inl (Nat.le_trans h.size h1))
  ·rcases h.ownd q o h1 h2 b h3 with h4 | ⟨k1,o1,h4,h5,h6⟩
   ·exact .inr (.inl h4)
   ·exact .inr (.inr ⟨k1,o1,h4,h5,h6⟩)
mutual
theorem LR.evo {w w':World} {U U':Nat→Prop} {ι ι':Pl} {ob ob':Ob} (e:Evo w U ι ob w' U' ι' ob'):∀ (x:L) (v:Value),LR w U ι ob x v→LR w' U' ι' ob' x v
 | .d x,v,h=>by simp only [LR] at h ⊢;exact DR.mono e.kept e.sub x v h
 | .slk k off n c,v,h=>by
  simp only [LR] at h ⊢
  obtain ⟨rows,size,elem,own,h1,h2,h3,h4⟩:=h
  obtain ⟨r',o',h5,h6,h7⟩:=e.arr k rows size elem own h1
  exact ⟨r',size,elem,o',h5,by omega,fun hc=>by rw [h7 (by omega)];exact h3 (by omega),h4⟩
 | .pa k i off c,v,h=>by
  simp only [LR] at h ⊢
  obtain ⟨rows,size,elem,own,h1,h2,h3,h4⟩:=h
  obtain ⟨r',o',h5,h6,h7⟩:=e.arr k rows size elem own h1
  exact ⟨r',size,elem,o',h5,by omega,fun hc=>by rw [h7 (by omega)];exact h3 (by omega),h4⟩
 | .ptr k off,v,h=>by
  simp only [LR] at h ⊢
  obtain ⟨cells,elem,h1,h2⟩:=h
  obtain ⟨c',h3,h4⟩:=e.box k cells elem h1
  exact ⟨c',elem,h3,by rw [h4];exact h2⟩
 | .fn f caps,v,h=>by
  simp only [LR] at h ⊢
  obtain ⟨cs,e1,hr⟩:=h
  exact ⟨cs,e1,LF.evo e caps cs.toList hr⟩
 | .mk k,v,h=>by
  simp only [LR] at h ⊢
  obtain ⟨agg,keys,vals,own,h1,h2⟩:=h
  obtain ⟨k1,v1,o1,h3,h4⟩:=e.mp k agg keys vals own h1
  exact ⟨agg,k1,v1,o1,h3,by rw [h4];exact h2⟩
 | .mq k,v,h=>by
  simp only [LR] at h ⊢
  obtain ⟨h1 | ⟨keys,rows,size,elem,h1⟩,h2⟩:=h
  ·obtain ⟨keys,vals,h1⟩:=h1
   obtain ⟨k1,v1,h3,h4⟩:=e.ml k keys vals h1
   exact ⟨.inl ⟨k1,v1,h3⟩,by rw [h4];exact h2⟩
  ·obtain ⟨k1,v1,h3,h4,_⟩:=e.am k keys rows size elem h1
   exact ⟨.inr ⟨k1,v1,_,_,h3⟩,by rw [h4];exact h2⟩
 | .pb k j off,v,h=>by
  simp only [LR] at h ⊢
  obtain ⟨⟨keys,rows,size,elem,h1⟩,b,h2,h3⟩:=h
  obtain ⟨k1,v1,h4,_,h5⟩:=e.am k keys rows size elem h1
  obtain ⟨t,ht⟩:=h5
  exact ⟨⟨k1,v1,_,_,h4⟩,b,by rw [←ht,List.getElem?_append_left (List.getElem?_eq_some_iff.1 h2).1];exact h2,h3⟩
 | .sln k n,v,h=>by
  simp only [LR] at h ⊢
  refine h.imp id ?_
  rintro ⟨h0,rows,size,elem,own,h1,h2,h3,h4⟩
  obtain ⟨r',o',h5,h6,h7⟩:=e.arr k rows size elem own h1
  exact ⟨h0,r',size,elem,o',h5,by omega,fun hc=>by rw [h7 (by omega)];exact h3 (by omega),h4⟩
 | .undef,v,h=>by simp [LR]
theorem LF.evo {w w':World} {U U':Nat→Prop} {ι ι':Pl} {ob ob':Ob} (e:Evo w U ι ob w' U' ι' ob'):∀ (xs:List L) (vs:List Value),LF w U ι ob xs vs→LF w' U' ι' ob' xs vs
 | [],vs,h=>by simpa [LF] using h
 | x::xs,vs,h=>by
  simp only [LF] at h ⊢
  obtain ⟨v,vs',e1,h1,h2⟩:=h
  exact ⟨v,vs',e1,LR.evo e x v h1,LF.evo e xs vs' h2⟩
end
mutual
theorem VR.evo {w w':World} {U U':Nat→Prop} {ι ι':Pl} {ob ob':Ob} (e:Evo w U ι ob w' U' ι' ob'):∀ (x:V) (v:Value),VR w U ι ob x v→VR w' U' ι' ob' x v
 | .one x,v,h=>by simp only [VR] at h ⊢;exact LR.evo e x v h
 | .agg xs,v,h=>by
  simp only [VR] at h ⊢
  obtain ⟨cs,e1,hr⟩:=h
  exact ⟨cs,e1,LF.evo e xs cs.toList hr⟩
 | .tup xs,v,h=>by
  simp only [VR] at h ⊢
  obtain ⟨cs,e1,hr⟩:=h
  exact ⟨cs,e1,VF.evo e xs cs.toList hr⟩
theorem VF.evo {w w':World} {U U':Nat→Prop} {ι ι':Pl} {ob ob':Ob} (e:Evo w U ι ob w' U' ι' ob'):∀ (xs:List V) (vs:List Value),VF w U ι ob xs vs→VF w' U' ι' ob' xs vs
 | [],vs,h=>by simpa [VF] using h
 | x::xs,vs,h=>by
  simp only [VF] at h ⊢
  obtain ⟨v,vs',e1,h1,h2⟩:=h
  exact ⟨v,vs',e1,VR.evo e x v h1,VF.evo e xs vs' h2⟩
end
theorem ER.evo {w w':World} {U U':Nat→Prop} {ι ι':Pl} {ob ob':Ob} (e:Evo w U ι ob w' U' ι' ob'):∀ (ks:List Value) (xs:List L) (es:List MapEntry),ER w U ι ob ks xs es→ER w' U' ι' ob' ks xs es
 | [],[],[],_=>trivial
 | k::ks,x::xs,m::es,h=>by
  simp only [ER] at h ⊢
  exact ⟨h.1,h.2.1,LR.evo e x _ h.2.2.1,ER.evo e ks xs es h.2.2.2⟩
 | [],[],_::_,h=>by simp [ER] at h
 | [],_::_,_,h=>by simp [ER] at h
 | _::_,[],_,h=>by simp [ER] at h
 | _::_,_::_,[],h=>by simp [ER] at h
theorem BR.evo {w w':World} {U U':Nat→Prop} {size elem:Nat} (hk:∀ b,U b→w'.heap[b]?=w.heap[b]?) (hs:∀ b,U b→U' b):∀ (bs:List Nat) (rs:List (List D)),(∀ b∈bs,w'.heap[b]?=w.heap[b]?∧¬ U' b)→BR w U size elem bs rs→BR w' U' size elem bs rs
 | [],[],_,_=>trivial
 | b::bs,r::rs,hb,h=>by
  simp only [BR] at h ⊢
  obtain ⟨⟨cur,h1,h2⟩,h3,_,h4⟩:=h
  obtain ⟨h5,h6⟩:=hb b (by simp)
  exact ⟨⟨cur,h5.trans h1,FR.mono hk hs _ _ h2⟩,h3,h6,BR.evo hk hs bs rs (fun c hc=>hb c (by simp [hc])) h4⟩
 | [],_::_,_,h=>by simp [BR] at h
 | _::_,[],_,h=>by simp [BR] at h
theorem BR.at_ {w:World} {U:Nat→Prop} {size elem:Nat}:∀ {bs:List Nat} {rs:List (List D)},BR w U size elem bs rs→∀ {j b:Nat},bs[j]?=some b→∃ r cur,rs[j]?=some r∧w.heap[b]?=some (.cells cur elem (0,0))∧FR w U r cur.toList∧r.length=size∧¬ U b
 | [],[],_,j,b,hj=>by simp at hj
 | b'::bs,r::rs,h,0,b,hj=>by
  simp only [BR] at h
  obtain ⟨⟨cur,h1,h2⟩,h3,h4,_⟩:=h
  simp at hj;subst hj
  exact ⟨r,cur,rfl,h1,h2,h3,h4⟩
 | b'::bs,r::rs,h,j+1,b,hj=>by
  simp only [BR] at h
  simpa using h.2.2.2.at_ (by simpa using hj)
 | [],_::_,h,_,_,_=>by simp [BR] at h
 | _::_,[],h,_,_,_=>by simp [BR] at h
theorem BR.len {w:World} {U:Nat→Prop} {size elem:Nat}:∀ {bs:List Nat} {rs:List (List D)},BR w U size elem bs rs→bs.length=rs.length
 | [],[],_=>rfl
 | b'::bs,r::rs,h=>by simp only [BR] at h;simp [h.2.2.2.len]
 | [],_::_,h=>by simp [BR] at h
 | _::_,[],h=>by simp [BR] at h
theorem BR.lt {w:World} {U:Nat→Prop} {size elem:Nat} {bs:List Nat} {rs:List (List D)} (h:BR w U size elem bs rs) {b:Nat} (hb:b∈bs):b < w.heap.size∧¬ U b:=by
 obtain ⟨j,hj⟩:=List.mem_iff_getElem?.1 hb
 obtain ⟨_,cur,_,h1,_,_,h2⟩:=h.at_ hj
 exact ⟨(Array.getElem?_eq_some_iff.1 h1).1,h2⟩
end Go.VE
namespace Go.VE
inductive Q (α:Type) where
 | ret (a:α)
 | get (k:Nat) (f:Option O→Q α)
 | fail
def Q.bind {α β:Type}:Q α→(α→Q β)→Q β
 | .ret a,f=>f a
 | .get k g,f=>.get k fun o=>(g o).bind f
 | .fail,_=>.fail
def Q.run {α:Type} (ob:Ob):Q α→Option α
 | .ret a=>some a
 | .get k f=>(f (ob k)).run ob
 | .fail=>none
def Q.reads {α:Type} (ob:Ob):Q α→List Nat
 | .ret _=>[]
 | .get k f=>k::(f (ob k)).reads ob
 | .fail=>[]
def Q.mapM {α β:Type} (f:α→Q β):List α→Q (List β)
 | []=>.ret []
 | x::xs=>(f x).bind fun y=>(Q.mapM f xs).bind fun ys=>.ret (y::ys)
def Q.opt {α:Type}:Option α→Q α
 | some a=>.ret a
 | none=>.fail
def Q.guard {α:Type} (b:Bool) (q:Q α):Q α:=match b with | true=>q | false=>.fail
theorem Q.run_bind {α β:Type} (ob:Ob) (q:Q α) (f:α→Q β):(q.bind f).run ob=(q.run ob).bind fun a=>(f a).run ob:=by
 induction q with
 | ret a=>rfl
 | get k g ih=>simp only [Q.bind,Q.run];exact ih _
 | fail=>rfl
theorem Q.run_guard {α:Type} (ob:Ob) (b:Bool) (q:Q α):(Q.guard b q).run ob=if b=true then q.run ob else none:=by cases b<;>simp [Q.guard,Q.run]
theorem Q.run_opt {α:Type} (ob:Ob) (o:Option α):(Q.opt o).run ob=o:=by cases o<;>rfl
theorem Q.run_agree {α:Type} {ob ob':Ob}:∀ (q:Q α),(∀ k∈q.reads ob,ob' k=ob k)→q.run ob'=q.run ob∧q.reads ob'=q.reads ob
 | .ret a,_=>⟨rfl,rfl⟩
 | .get k f,h=>by
  have hk:ob' k=ob k:=h k (by simp [Q.reads])
  have:=Q.run_agree (f (ob k)) (fun j hj=>h j (by simp [Q.reads,hj]))
  simp only [Q.run,Q.reads,hk]
  exact ⟨this.1,by rw [this.2]⟩
 | .fail,_=>⟨rfl,rfl⟩
def sizeC (P:Program) (t:Nat):Option Nat:=(P.info? t).map (·.size)
def bytesC (P:Program) (t:Nat):Option Nat:=(P.info? t).map (·.bytes)
def zeroC (P:Program) (t:Nat):Option (List Value):=(P.info? t).bind fun i=>i.zero.bind fun z=>if z.cells.toList.all plain then some z.cells.toList else none
def isAggD:TypeDesc→Bool | .struct _ | .array _ _=>true | _=>false
def aggC (P:Program) (t:Nat):Option Bool:=(P.underlying t).map isAggD
def elemC (P:Program) (t:Nat):Option Nat:=match P.underlying t with | some (.slice e)=>some e | _=>none
def arrC (P:Program) (t:Nat):Option (Nat×Nat):=match P.underlying t with | some (.array n e)=>some (n,e) | _=>none
def fieldC (P:Program) (t f:Nat):Option (Nat×Nat×Bool):=match P.underlying t with
 | some (.struct fs)=>match fs[f]? with
  | some fd=>match sizeC P fd.type,aggC P fd.type with
   | some s,some g=>if s=0 then none else some (fd.offset,s,g)
   | _,_=>none
  | none=>none
 | _=>none
def intC (P:Program) (t:Nat):Option IntKind:=match P.underlying t with | some (.int k)=>some k | _=>none
def L.isDef:L→Bool | .undef=>false | _=>true
def V.cells:V→Option (List L)
 | .one x=>if x.isDef then some [x] else none
 | .agg xs=>if xs.all L.isDef then some xs else none
 | .tup _=>none
def litsL (vs:List Value):List L:=vs.map fun v=>.d (.lit v)
def mkV (agg:Bool) (xs:List L):Option V:=match agg,xs with
 | true,xs=>some (.agg xs)
 | false,[x]=>some (.one x)
 | false,_=>none
def toD:Nat→L→Q D
 | _,.d x=>.ret x
 | _,.slk k off n c=>.get k fun
  | some (.arr rows size _ _)=>Q.guard (decide (c=rows.length)) (.ret (.sl size ((rows.drop off).take n)))
  | _=>.fail
 | _,.pa k i off c=>.get k fun
  | some (.arr rows _ _ _)=>Q.guard (decide (c=rows.length)) ((Q.opt rows[i]?).bind fun r=>.ret (.dp r off))
  | _=>.fail
 | n+1,.ptr k off=>.get k fun
  | some (.box cells _)=>(Q.mapM (toD n) cells).bind fun ds=>.ret (.dp ds off)
  | _=>.fail
 | n+1,.fn f caps=>(Q.mapM (toD n) caps).bind fun ds=>.ret (.fn f ds)
 | _,.mk k=>.get k fun
  | some (.mp agg keys vals _)=>.ret (.mp agg keys vals)
  | _=>.fail
 | _,.sln k n=>if n=0 then .ret (.lit (.slice none 0 0)) else .get k fun
  | some (.arr rows size _ _)=>Q.guard (decide (n=rows.length)) (.ret (.sl size rows))
  | _=>.fail
 | _,_=>.fail
def frz:L→Q (D×List (Nat×O))
 | .d x=>.ret (x,[])
 | .slk k off n c=>.get k fun
  | some (.arr rows size elem _)=>Q.guard (decide (c=rows.length)) (.ret (.sl size ((rows.drop off).take n),[(k,.arr rows size elem false)]))
  | _=>.fail
 | .mk k=>.get k fun
  | some (.mp agg keys vals _)=>.ret (.mp agg keys vals,[(k,.mp agg keys vals false)])
  | _=>.fail
 | .sln k n=>.get k fun
  | none=>Q.guard (decide (n=0)) (.ret (.lit (.slice none 0 0),[(k,.nul)]))
  | some (.arr rows size elem _)=>Q.guard (decide (n=rows.length∧0 < n)) (.ret (.sl size rows,[(k,.arr rows size elem false)]))
  | _=>.fail
 | _=>.fail
abbrev Res:=V×List (Nat×O)
def fresh (dst:Option Nat) (o:O) (v:Nat→V):Q Res:=match dst with
 | some k=>.get k fun
  | none=>.ret (v k,[(k,o)])
  | some _=>.fail
 | none=>.fail
def pureR (o:Option V):Q Res:=(Q.opt o).bind fun v=>.ret (v,[])
def aBin (op:BinOp) (k:IntKind) (a:Int) (k':IntKind) (b:Int):Option Value:=match op with
 | .shl=>if b < 0 then none else some (.int k (k.wrap (a*2 ^ (min b.toNat k.bits))))
 | .shr=>if b < 0 then none else some (.int k (a.fdiv (2 ^ (min b.toNat k.bits))))
 | _=>if k=k' then match op with
   | .add=>some (.int k (k.wrap (a+b)))
   | .sub=>some (.int k (k.wrap (a - b)))
   | .mul=>some (.int k (k.wrap (a*b)))
   | .quo=>if b=0 then none else some (.int k (k.wrap (a.tdiv b)))
   | .rem=>if b=0 then none else some (.int k (a.tmod b))
   | .eql=>some (.bool (a==b))
   | .neq=>some (.bool (a != b))
   | .lss=>some (.bool (a < b))
   | .leq=>some (.bool (a≤b))
   | .gtr=>some (.bool (a > b))
   | .geq=>some (.bool (a≥b))
   | .and=>some (.int k (k.wrap (BitVec.ofInt k.bits a &&& BitVec.ofInt k.bits b).toNat))
   | .or=>some (.int k (k.wrap (BitVec.ofInt k.bits a ||| BitVec.ofInt k.bits b).toNat))
   | .xor=>some (.int k (k.wrap (BitVec.ofInt k.bits a ^^^ BitVec.ofInt k.bits b).toNat))
   | .andNot=>some (.int k (k.wrap (BitVec.ofInt k.bits a &&& ~~~(BitVec.ofInt k.bits b)).toNat))
   | _=>none
  else none
def aStr (op:BinOp) (a b:ByteArray):Option Value:=match op with
 | .add=>if ((a.size+b.size:Nat):Int) > IntKind.i64.max then none else some (.string (a++b))
 | .eql=>some (.bool (a.toList==b.toList))
 | .neq=>some (.bool !(a.toList==b.toList))
 | .lss=>some (.bool (Op.bytesLess a.toList b.toList))
 | .leq=>some (.bool (Op.bytesLess a.toList b.toList||a.toList==b.toList))
 | .gtr=>some (.bool !(Op.bytesLess a.toList b.toList||a.toList==b.toList))
 | .geq=>some (.bool !(Op.bytesLess a.toList b.toList))
 | _=>none
def V.lit?:V→Option Value
 | .one (.d (.lit v))=>some v
 | _=>none
def vlit (v:Value):V:=.one (.d (.lit v))
def vInt?:V→Option (IntKind×Int)
 | .one (.d (.lit (.int k n)))=>some (k,n)
 | _=>none
def vBool?:V→Option Bool
 | .one (.d (.lit (.bool b)))=>some b
 | _=>none
end Go.VE
namespace Go.VE
def constV:Value→V
 | .agg cs=>if cs.toList.all plain then .agg (litsL cs.toList) else .one .undef
 | v=>if plain v then .one (.d (.lit v)) else .one .undef
def ev (env:Nat→V):Operand→V
 | .tmp t=>env t
 | .const v=>constV v
 | .global _=>.one .undef
 | .func f=>if f < 2000000 then .one (.fn f []) else .one .undef
def put1 (ob:Ob) (k:Nat) (o:O):Ob:=fun j=>if j=k then some o else ob j
def del1 (ob:Ob) (k:Nat):Ob:=fun j=>if j=k then none else ob j
def putO (ob:Ob):List (Nat×O)→Ob
 | []=>ob
 | (k,.nul)::r=>putO (del1 ob k) r
 | (k,.box a b)::r=>putO (put1 ob k (.box a b)) r
 | (k,.arr a b c d)::r=>putO (put1 ob k (.arr a b c d)) r
 | (k,.mp a b c d)::r=>putO (put1 ob k (.mp a b c d)) r
 | (k,.ml a b)::r=>putO (put1 ob k (.ml a b)) r
 | (k,.am a b c d)::r=>putO (put1 ob k (.am a b c d)) r
def O.isNul:O→Bool
 | .nul=>true
 | _=>false
theorem putO_cons (ob:Ob) (k:Nat) (o:O) (r:List (Nat×O)) (h:o.isNul=false):putO ob ((k,o)::r)=putO (put1 ob k o) r:=by
 cases o<;>first | rfl | cases h
def O.val:O→Option O
 | .nul=>none
 | o=>some o
@[simp] theorem val_box (a:List L) (b:Nat):(O.box a b).val=some (.box a b):=rfl
@[simp] theorem val_arr (a:List (List D)) (b c:Nat) (d:Bool):(O.arr a b c d).val=some (.arr a b c d):=rfl
@[simp] theorem val_mp (a:Bool) (b:List Value) (c:List (List D)) (d:Bool):(O.mp a b c d).val=some (.mp a b c d):=rfl
@[simp] theorem val_ml (a:List Value) (b:List L):(O.ml a b).val=some (.ml a b):=rfl
@[simp] theorem val_am (a:List Value) (b:List (List D)) (c d:Nat):(O.am a b c d).val=some (.am a b c d):=rfl
@[simp] theorem val_nul:O.nul.val=none:=rfl
theorem O.val_some {a b:O} (h:a.val=some b):a=b:=by
 cases a<;>simp only [O.val] at h<;>first | (cases h;rfl) | cases h
theorem putO_step (ob:Ob) (k:Nat) (o:O) (r:List (Nat×O)):putO ob ((k,o)::r)=putO (fun j=>if j=k then o.val else ob j) r:=by
 cases o<;>rfl
theorem putO_other1 (ob:Ob) {k j:Nat} (o:O) (h:j≠k):putO ob [(k,o)] j=ob j:=by
 cases o<;>simp [putO,put1,del1,h]
theorem del1_none {ob:Ob} {k:Nat} (h:ob k=none):del1 ob k=ob:=by
 funext j
 unfold del1
 split
 ·rename_i e;rw [e,h]
 ·rfl
def fillL (place:Nat→Option (Nat×Nat)) (cells:List L):List (Nat×V)→Option (List L)
 | []=>some cells
 | (i,v)::rest=>match place i,v.cells with
  | some (off,size),some cs=>if cs.length=size∧off+size≤cells.length then fillL place (cells.take off++cs++cells.drop (off+size)) rest else none
  | _,_=>none
def placeC (P:Program) (t:Nat) (i:Nat):Option (Nat×Nat):=match arrC P t with
 | some (_,e)=>(sizeC P e).map fun s=>(i*s,s)
 | none=>(fieldC P t i).map fun (o,s,_)=>(o,s)
def getCells (agg:Bool) (s off:Nat) (cells:List L):Option V :=
 if agg then (if off+s≤cells.length then some (.agg ((cells.drop off).take s)) else none)
 else cells[off]?.map .one
def layC (P:Program) (t:Nat):Bool:=match P.underlying t with
 | some (.struct fs)=>fs.toList.all fun f=>(sizeC P f.type).isSome
 | some (.array _ e)=>(sizeC P e).isSome
 | _=>false
def loadQ (agg:Bool) (s:Nat):V→Q Res
 | .one (.ptr k off)=>.get k fun
  | some (.box cells _)=>pureR (getCells agg s off cells)
  | _=>.fail
 | .one (.pa k i off c)=>.get k fun
  | some (.arr rows _ _ _)=>Q.guard (decide (c=rows.length)) ((Q.opt rows[i]?).bind fun r=>pureR (getCells agg s off (r.map .d)))
  | _=>.fail
 | .one (.d (.dp r off))=>pureR (getCells agg s off (r.map .d))
 | .one (.pb k j off)=>.get k fun
  | some (.am _ rows _ _)=>(Q.opt rows[j]?).bind fun r=>pureR (getCells agg s off (r.map .d))
  | _=>.fail
 | _=>.fail
def frzs:List L→Q (List D×List (Nat×O))
 | []=>.ret ([],[])
 | x::xs=>(frz x).bind fun (d,u)=>(frzs xs).bind fun (ds,us)=>.ret (d::ds,u++us)
def storeQ:V→List L→Q Res
 | .one (.ptr k off),cs=>.get k fun
  | some (.box cells elem)=>Q.guard (decide (off+cs.length≤cells.length)) (.ret (.one .undef,[(k,.box (cells.take off++cs++cells.drop (off+cs.length)) elem)]))
  | _=>.fail
 | .one (.pa k i off c),cs=>.get k fun
  | some (.arr rows size elem own)=>Q.guard (own&&decide (c=rows.length)) ((Q.opt rows[i]?).bind fun r =>
    (frzs cs).bind fun (ds,us)=>Q.guard (decide (off+ds.length≤r.length)&&us.isEmpty) (.ret (.one .undef,[(k,.arr (rows.set i (r.take off++ds++r.drop (off+ds.length))) size elem own)])))
  | _=>.fail
 | .one (.pb k j off),cs=>.get k fun
  | some (.am keys rows size elem)=>(Q.opt rows[j]?).bind fun r =>
    (frzs cs).bind fun (ds,us)=>Q.guard (decide (off+ds.length≤r.length)&&us.isEmpty) (.ret (.one .undef,[(k,.am keys (rows.set j (r.take off++ds++r.drop (off+ds.length))) size elem)]))
  | _=>.fail
 | _,_=>.fail
def addrOff (n:Nat):V→Option V
 | .one (.ptr k off)=>some (.one (.ptr k (off+n)))
 | .one (.pa k i off c)=>some (.one (.pa k i (off+n) c))
 | .one (.d (.dp r off))=>some (.one (.d (.dp r (off+n))))
 | .one (.pb k j off)=>some (.one (.pb k j (off+n)))
 | _=>none
def indexQ (arr:Option (Nat×Nat)) (es:Nat) (x:V) (i:Int):Q Res:=match arr with
 | some (n,_)=>pureR (if 0≤i∧i < n then addrOff (i.toNat*es) x else none)
 | none=>match x with
  | .one (.slk k off n c)=>.get k fun
   | some (.arr rows size _ _)=>Q.guard (decide (c=rows.length∧size=es)) (pureR (if 0≤i∧i < n then some (.one (.pa k (off+i.toNat) 0 c)) else none))
   | _=>.fail
  | .one (.sln k n)=>.get k fun
   | some (.arr rows size _ _)=>Q.guard (decide (n=rows.length∧size=es)) (pureR (if 0≤i∧i < n then some (.one (.pa k (0+i.toNat) 0 n)) else none))
   | _=>.fail
  | .one (.d (.sl size rows))=>Q.guard (decide (size=es)) (pureR (if 0≤i then rows[i.toNat]?.map fun r=>.one (.d (.dp r 0)) else none))
  | _=>.fail
def cutQ (es:Nat) (x:V) (l h:Option Int):Q Res:=match x with
 | .one (.slk k off n c)=>.get k fun
  | some (.arr rows size _ _)=>Q.guard (decide (c=rows.length∧size=es)) (pureR (
    if 0≤l.getD 0∧l.getD 0≤h.getD n∧h.getD n≤n then
     (if l.getD 0=0∨l.getD 0 < h.getD n then some (.one (.slk k (off+(l.getD 0).toNat) (h.getD n - l.getD 0).toNat c)) else some (.one (.d (.sl es []))))
    else none))
  | _=>.fail
 | .one (.d (.sl size rows))=>Q.guard (decide (size=es)) (pureR (
   if 0≤l.getD 0∧l.getD 0≤h.getD rows.length∧h.getD rows.length≤rows.length then some (.one (.d (.sl size ((rows.drop (l.getD 0).toNat).take (h.getD rows.length - l.getD 0).toNat)))) else none))
 | .one (.d (.lit (.slice none 0 0)))=>pureR (if l.getD 0=0∧h.getD 0=0 then some x else none)
 | _=>.fail
def lenQ:V→Option Nat
 | .one (.slk _ _ n _)=>some n
 | .one (.sln _ n)=>some n
 | .one (.d (.sl _ rows))=>some rows.length
 | .one (.d (.lit (.slice none 0 0)))=>some 0
 | _=>none
def isAggV:V→Bool | .agg _=>true | _=>false
def strC (P:Program) (t:Nat):Bool:=match P.underlying t with | some .string=>true | _=>false
def strLen:V→Option Nat
 | .one (.d (.lit (.string s)))=>some s.size
 | _=>none
def strAt:V→Int→Option Value
 | .one (.d (.lit (.string s))),i=>if 0≤i then (s[i.toNat]?).map fun b=>.int .u8 b.toNat else none
 | _,_=>none
def strCut:V→Option Int→Option Int→Option Value
 | .one (.d (.lit (.string s))),l,h=>if 0≤l.getD 0∧l.getD 0≤h.getD s.size∧h.getD s.size≤s.size then some (.string (s.extract (l.getD 0).toNat (h.getD s.size).toNat)) else none
 | _,_,_=>none
def rowInts:List (List D)→Option (List Int)
 | []=>some []
 | [.lit (.int .u8 n)]::r=>(rowInts r).map (n::·)
 | _=>none
def strOfI (l:List Int):ByteArray:=l.foldl (fun r n=>r.push (UInt8.ofNat n.toNat)) ByteArray.empty
def oInt (ρ:Operand→V):Option Operand→Option (Option Int)
 | none=>some none
 | some x=>(vInt? (ρ x)).map fun p=>some p.2
def mm2 (mx:Bool) (a b:V):Option V:=match vInt? a,vInt? b with
 | some p,some q=>if p.1=q.1 then some (vlit (.int p.1 (if mx then max p.2 q.2 else min p.2 q.2))) else none
 | _,_=>none
def mmF (mx:Bool):V→List V→Option V
 | a,[]=>some a
 | a,y::r=>(mm2 mx a y).bind fun z=>mmF mx z r
def mmList (mx:Bool):List V→Option V
 | []=>none
 | x::r=>mmF mx x r
def oneCells:List V→Option (List L)
 | []=>some []
 | .one x::r=>if x.isDef then (oneCells r).map (x::·) else none
 | _::_=>none
def rowsOf (ρ:Operand→V) (size:Nat) (rows:List (List D)):List (Nat×Operand)→Q (List (List D)×List (Nat×O))
 | []=>.ret (rows,[])
 | (i,x)::rest=>(Q.opt (ρ x).cells).bind fun cs=>Q.guard (decide (cs.length=size∧i < rows.length)) ((frzs cs).bind fun (ds,us) =>
   (rowsOf ρ size (rows.set i ds) rest).bind fun (rows',us')=>.ret (rows',us++us'))
def srcRows0 (es:Nat):V→Q (List (List D))
 | .one (.d (.lit (.slice none 0 0)))=>.ret []
 | .one (.d (.sl size rows))=>Q.guard (decide (size=es)) (.ret rows)
 | .one (.slk k off n c)=>.get k fun
  | some (.arr rows size _ _)=>Q.guard (decide (c=rows.length∧size=es)) (.ret ((rows.drop off).take n))
  | _=>.fail
 | _=>.fail
def srcRows (es:Nat):V→Q (List (List D))
 | .one (.sln k n)=>if n=0 then .ret [] else srcRows0 es (.one (.slk k 0 n n))
 | x=>srcRows0 es x
def appendQ0 (dst:Option Nat) (elem size bytes:Nat) (s:V) (new:List (List D)):Q Res:=match s with
 | .one (.d (.lit (.slice none 0 0))) =>
  if new=[] then .ret (s,[]) else Q.guard (decide (new.length*bytes≤140737488355328∧new.length≤maxLen)) (fresh dst (.arr new size elem true) fun k=>.one (.slk k 0 new.length new.length))
 | .one (.slk k 0 n c)=>.get k fun
  | some (.arr rows size' elem' own)=>Q.guard (own&&decide (c=rows.length∧n=rows.length∧size'=size∧elem'=elem∧(n+new.length)*bytes≤140737488355328∧n+new.length≤maxLen))
    (.ret (.one (.slk k 0 (n+new.length) (n+new.length)),[(k,.arr (rows++new) size elem true)]))
  | _=>.fail
 | _=>.fail
def appendQ (dst:Option Nat) (elem size bytes:Nat) (s:V) (new:List (List D)):Q Res:=match s with
 | .one (.sln k n)=>.get k fun
  | none=>Q.guard (decide (n=0∧new.length*bytes≤140737488355328∧new.length≤maxLen)) (.ret (.one (.sln k new.length),[(k,if new=[] then .nul else .arr new size elem true)]))
  | some (.arr rows size' elem' own)=>Q.guard (own&&decide (0 < n∧n=rows.length∧size'=size∧elem'=elem∧(n+new.length)*bytes≤140737488355328∧n+new.length≤maxLen))
    (.ret (.one (.sln k (n+new.length)),[(k,.arr (rows++new) size elem true)]))
  | _=>.fail
 | s=>appendQ0 dst elem size bytes s new
def zshape (P:Program) (t:Nat) (g:Bool):Bool:=match (P.info? t).bind (·.zero) with
 | some (.agg _)=>g
 | some _=>!g
 | none=>false
def keyD:TypeDesc→Option Nat
 | .int _=>some 0
 | .string=>some 1
 | .bool=>some 2
 | _=>none
def mapO (P:Program) (e:Nat) (g:Bool):Option O:=match P.underlying e with
 | some (.pointer t)=>(sizeC P t).map fun s=>.am [] [] s t
 | some (.func ..)=>some (.ml [] [])
 | _=>some (.mp g [] [] true)
def mapL (o:O) (k:Nat):V:=match o with
 | .mp ..=>.one (.mk k)
 | _=>.one (.mq k)
def keyC (P:Program) (t:Nat):Option Nat:=match P.underlying t with
 | some (.map k _)=>(P.underlying k).bind keyD
 | _=>none
def melemC (P:Program) (t:Nat):Option Nat:=match P.underlying t with
 | some (.map _ e)=>some e
 | _=>none
def kEq:Nat→Value→Value→Option Bool
 | 0,.int k a,.int k' b=>if k=k' then some (a==b) else none
 | 1,.string a,.string b=>some (a==b)
 | 2,.bool a,.bool b=>some (a==b)
 | _,_,_=>none
def mFind (kd:Nat) (k:Value):List Value→Nat→Option (Option Nat)
 | [],_=>some none
 | x::xs,i=>match kEq kd k x with
  | some true=>some (some i)
  | some false=>mFind kd k xs (i+1)
  | none=>none
def mGet (agg:Bool) (zs:List Value) (vals:List (List D)):Option Nat→Option (V×Bool)
 | some j=>vals[j]?.bind fun r=>(mkV agg (r.map .d)).map fun v=>(v,true)
 | none=>(mkV agg (litsL zs)).map fun v=>(v,false)
def lookP (kd:Nat) (key:Nat) (k:Value) (zs:List Value):Q Res:=.get key fun
 | some (.ml keys vals)=>(Q.opt ((mFind kd k keys 0).bind fun q=>q.bind fun j=>vals[j]?)).bind fun x=>.ret (.one x,[])
 | some (.am keys _ _ _)=>(Q.opt (mFind kd k keys 0)).bind fun
  | some j=>.ret (.one (.pb key j 0),[])
  | none=>match zs with
   | [z]=>.ret (vlit z,[])
   | _=>.fail
 | _=>.fail
def lookQ (kd:Nat) (agg ok:Bool) (zs:List Value) (x:V) (k:Value):Q Res :=
 (match x with
  | .one (.d (.mp agg' keys vals))=>Q.guard (agg==agg') (Q.opt ((mFind kd k keys 0).bind (mGet agg zs vals)))
  | .one (.mk key)=>Q.get key fun
   | some (.mp agg' keys vals _)=>Q.guard (agg==agg') (Q.opt ((mFind kd k keys 0).bind (mGet agg zs vals)))
   | _=>.fail
  | .one (.d (.lit (.map none)))=>Q.opt (mGet agg zs [] none)
  | _=>.fail).bind fun p=>.ret (if ok then .tup [p.1,vlit (.bool p.2)] else p.1,[])
def isKey:Nat→Value→Bool
 | 0,.int _ _=>true
 | 1,.string _=>true
 | 2,.bool _=>true
 | _,_=>false
def updQ (kd:Nat) (agg:Bool) (x:V) (k:Value) (v:V):Q Res:=match x with
 | .one (.mq key)=>.get key fun
  | some (.ml keys vals)=>Q.guard (isKey kd k) (match v with
   | .one x=>Q.guard x.isDef ((Q.opt (mFind kd k keys 0)).bind fun
    | some _=>.fail
    | none=>.ret (.one .undef,[(key,.ml (keys++[k]) (vals++[x]))]))
   | _=>.fail)
  | some (.am keys rows size elem)=>Q.guard (isKey kd k) (match v with
   | .one (.pb key' j 0)=>Q.guard (decide (key'=key∧j=keys.length∧j < rows.length)) ((Q.opt (mFind kd k keys 0)).bind fun
    | some _=>.fail
    | none=>.ret (.one .undef,[(key,.am (keys++[k]) rows size elem)]))
   | _=>.fail)
  | _=>.fail
 | .one (.mk key)=>.get key fun
  | some (.mp agg' keys vals own)=>Q.guard (own&&agg==agg'&&isAggV v==agg&&isKey kd k) ((Q.opt v.cells).bind fun cs=>(frzs cs).bind fun (ds,us)=>Q.guard us.isEmpty ((Q.opt (mFind kd k keys 0)).bind fun
    | some j=>.ret (.one .undef,[(key,.mp agg keys (vals.set j ds) true)])
    | none=>.ret (.one .undef,[(key,.mp agg (keys++[k]) (vals++[ds]) true)])))
  | _=>.fail
 | _=>.fail
def conC (P:Program) (t:Nat):Bool:=match P.underlying t with | some (.interface _)=>false | some _=>true | none=>false
def metC (P:Program) (t:Nat) (name:String):Option Nat:=match P.info? t with
 | some i=>match i.methods.find? (fun m=>m.name==name) with
  | some m=>match m.path.toList,m.func,P.underlying t with
   | [],some (_,false),some (.pointer _)=>none
   | [],some (f,false),some _=>some f
   | _,_,_=>none
  | none=>none
 | none=>none
def ifcOf (P:Program) (name:String):V→Option (Nat×V)
 | .one (.d (.ifc t true row))=>(metC P t name).map fun f=>(f,.agg (row.map .d))
 | .one (.d (.ifc t false [x]))=>(metC P t name).map fun f=>(f,.one (.d x))
 | _=>none
def boolC (P:Program) (t:Nat):Bool:=match P.underlying t with | some .bool=>true | _=>false
def flatF (rec:Nat→Option (List Nat)) (P:Program):Nat→List Field→Option (List Nat)
 | _,[]=>some []
 | off,f::fs=>match rec f.type with
  | some ks=>if f.offset=off∧f.name ≠ "_" ∧ sizeC P f.type=some ks.length∧0 < ks.length then (flatF rec P (off+ks.length) fs).map (ks++·) else none
  | none=>none
def flatC (P:Program):Nat→Nat→Option (List Nat)
 | 0,_=>none
 | d+1,t=>match P.underlying t with
  | some (.int _)=>some [1]
  | some .bool=>some [0]
  | some .string=>some [2]
  | some (.struct fs)=>if P.stoodInHeld t=true∨P.eqGuardType P.depth t=true then none else flatF (flatC P d) P 0 fs.toList
  | some (.array k e)=>if P.eqGuardType P.depth t=true then none else (match flatC P d e with
   | some ks=>if sizeC P e=some ks.length∧0 < ks.length then some (List.replicate k ks).flatten else none
   | none=>none)
  | _=>none
def litEq:Nat→Value→Value→Option Bool
 | 1,.int k a,.int k' b=>if k=k' then some (a==b) else none
 | 0,.bool a,.bool b=>some (a==b)
 | 2,.string a,.string b=>some (a.toList==b.toList)
 | _,_,_=>none
def cellsEq:List Nat→List L→List L→Option Bool
 | [],[],[]=>some true
 | k::ks,.d (.lit u)::xs,.d (.lit v)::ys=>match litEq k u v,cellsEq ks xs ys with
  | some b,some c=>some (b&&c)
  | _,_=>none
 | _,_,_=>none
def nilQ (op:BinOp):V→V→Option V
 | .one (.d (.sl _ _)),.one (.d (.lit (.slice none 0 0)))=>match op with
  | .eql=>some (vlit (.bool false))
  | .neq=>some (vlit (.bool true))
  | _=>none
 | .one (.d (.lit (.slice none 0 0))),.one (.d (.lit (.slice none 0 0)))=>match op with
  | .eql=>some (vlit (.bool true))
  | .neq=>some (vlit (.bool false))
  | _=>none
 | _,_=>none
def ptrC (P:Program) (t:Nat):Bool:=match P.underlying t with | some (.pointer _)=>true | _=>false
def nilP (op:BinOp):V→V→Option V
 | .one (.pb _ _ _),.one (.d (.lit (.pointer none)))=>match op with
  | .eql=>some (vlit (.bool false))
  | .neq=>some (vlit (.bool true))
  | _=>none
 | .one (.d (.lit (.pointer none))),.one (.d (.lit (.pointer none)))=>match op with
  | .eql=>some (vlit (.bool true))
  | .neq=>some (vlit (.bool false))
  | _=>none
 | _,_=>none
def binQ (P:Program) (op:BinOp) (t:Nat) (x y:V):Option V:=match x,y with
 | .one (.d (.lit (.int k a))),.one (.d (.lit (.int k' b)))=>(aBin op k a k' b).map vlit
 | .one (.d (.lit (.bool a))),.one (.d (.lit (.bool b)))=>if boolC P t=true then (match op with
   | .eql=>some (vlit (.bool (a==b)))
   | .neq=>some (vlit (.bool (a != b)))
   | _=>none) else none
 | .one (.d (.lit (.string a))),.one (.d (.lit (.string b)))=>(aStr op a b).map vlit
 | .agg xs,.agg ys=>match flatC P 8 t with
  | some ks=>if aggC P t=some true then (match op,cellsEq ks xs ys with
   | .eql,some b=>some (vlit (.bool b))
   | .neq,some b=>some (vlit (.bool !b))
   | _,_=>none) else none
  | none=>none
 | x,y=>if (elemC P t).isSome=true then nilQ op x y else if ptrC P t=true then nilP op x y else none
def clearQ (zs:List Value):V→Q Res
 | .one (.d (.lit (.slice none 0 0)))=>.ret (.tup [],[])
 | .one (.slk key off n c)=>.get key fun
  | some (.arr rows size elem own)=>Q.guard (own&&decide (c=rows.length∧size=zs.length∧off+n=rows.length)) (.ret (.tup [],[(key,.arr (rows.take off++List.replicate n (zs.map .lit)) size elem true)]))
  | _=>.fail
 | _=>.fail
def boxQ (dst:Option Nat) (cs:List L) (elem:Nat):Q Res:=match dst with
 | some k=>.get k fun
  | none=>.ret (.one (.ptr k 0),[(k,.box cs elem)])
  | some (.am keys rows size elem')=>Q.guard (decide (elem'=elem∧cs.length=size)) ((frzs cs).bind fun (ds,us)=>Q.guard us.isEmpty (.ret (.one (.pb k rows.length 0),[(k,.am keys (rows++[ds]) size elem)])))
  | some _=>.fail
 | none=>.fail
def copyQ (es:Nat) (x:V) (src:List (List D)):Q Res:=match x with
 | .one (.slk k 0 n c)=>.get k fun
  | some (.arr rows size elem own)=>Q.guard (own&&decide (c=rows.length∧n=rows.length∧size=es)) (.ret (vlit (.int .i64 ((min n src.length:Nat):Int)),[(k,.arr (src.take n++rows.drop src.length) size elem true)]))
  | _=>.fail
 | _=>.fail
def layRow (dst:Option Nat) (rows:List (List D)) (s e len:Nat):Q Res:=match dst with
 | some _=>fresh dst (.arr rows s e true) fun k=>.one (.slk k 0 len len)
 | none=>.ret (.one (.d (.sl s rows)),[])
def aop (P:Program) (dst:Option Nat) (ρ:Operand→V):Op→Q Res
 | .move x | .assign x=>.ret (ρ x,[])
 | .pick c a b=>pureR ((vBool? (ρ c)).map fun t=>if t=true then ρ a else ρ b)
 | .box elem x=>(Q.opt (ρ x).cells).bind fun cs=>match dst with
  | some _=>boxQ dst cs elem
  | none=>(frzs cs).bind fun (ds,us)=>.ret (.one (.d (.dp ds 0)),us)
 | .alloc elem=>(Q.opt (zeroC P elem)).bind fun zs=>fresh dst (.box (litsL zs) elem) fun k=>.one (.ptr k 0)
 | .build t parts=>(Q.opt (zeroC P t)).bind fun zs=>Q.guard (aggC P t==some true&&layC P t) (pureR ((fillL (placeC P t) (litsL zs) (parts.toList.map fun p=>(p.1,ρ p.2))).map .agg))
 | .buildSlice t len parts=>(Q.opt (elemC P t)).bind fun e=>(Q.opt (sizeC P e)).bind fun s=>(Q.opt (zeroC P e)).bind fun zs =>
   Q.guard (decide (0 < s∧zs.length=s∧len*s≤16777216)) ((rowsOf ρ s (List.replicate len (zs.map .lit)) parts.toList).bind fun (rows,us) =>
    (layRow dst rows s e len).bind fun (v,u)=>.ret (v,us++u))
 | .load t a=>(Q.opt (aggC P t)).bind fun g=>(Q.opt (sizeC P t)).bind fun s=>loadQ g s (ρ a)
 | .store t a x=>(Q.opt (ρ x).cells).bind fun cs=>Q.guard (sizeC P t==some cs.length) (storeQ (ρ a) cs)
 | .nilCheck x=>match ρ x with
  | .one (.ptr ..) | .one (.pa ..) | .one (.pb ..) | .one (.d (.dp ..))=>.ret (ρ x,[])
  | _=>.fail
 | .binOp op t x y _=>pureR (binQ P op t (ρ x) (ρ y))
 | .unOp op _ x=>pureR (match op,(ρ x).lit? with
  | .not,some (.bool b)=>some (vlit (.bool !b))
  | .neg,some (.int k n)=>some (vlit (.int k (k.wrap (0 - n))))
  | _,_=>none)
 | .makeFunc fn first captured=>match fn,oneCells (first.toList.map ρ),oneCells (captured.toList.map ρ) with
  | .func f,some [],some caps=>if f < 2000000 then .ret (.one (.fn f caps),[]) else .fail
  | .func f,some (c::cs),some []=>.ret (.one (.fn (f+2000000) (c::cs)),[])
  | _,_,_=>.fail
 | .makeInterface t x=>Q.guard (conC P t&&aggC P t==some (isAggV (ρ x))) ((Q.opt (ρ x).cells).bind fun cs=>(frzs cs).bind fun (ds,us)=>match us with
   | []=>.ret (.one (.d (.ifc t (isAggV (ρ x)) ds)),[])
   | _=>.fail)
 | .makeSlice t l c=>(Q.opt (elemC P t)).bind fun e=>(Q.opt (sizeC P e)).bind fun s=>(Q.opt (zeroC P e)).bind fun zs=>(Q.opt (bytesC P e)).bind fun bs =>
   (Q.opt (vInt? (ρ l))).bind fun n=>(Q.opt (vInt? (ρ c))).bind fun m=>Q.guard (decide (0 < s∧zs.length=s∧n=m∧0≤n.2∧bs*n.2≤140737488355328∧n.2≤9223372036854775807))
    (fresh dst (.arr (List.replicate n.2.toNat (zs.map .lit)) s e true) fun k=>.one (.slk k 0 n.2.toNat n.2.toNat))
 | .slice t x lo hi mx=>if strC P t=true then Q.guard mx.isNone ((Q.opt (oInt ρ lo)).bind fun l=>(Q.opt (oInt ρ hi)).bind fun h=>pureR ((strCut (ρ x) l h).map vlit)) else Q.guard ((elemC P t).isSome&&mx.isNone) ((Q.opt (oInt ρ lo)).bind fun l=>(Q.opt (oInt ρ hi)).bind fun h=>(Q.opt (elemC P t)).bind fun e=>(Q.opt (sizeC P e)).bind fun s=>cutQ s (ρ x) l h)
 | .fieldAddr s x f=>(Q.opt (fieldC P s f)).bind fun p=>pureR (addrOff p.1 (ρ x))
 | .field s x f=>(Q.opt (fieldC P s f)).bind fun p=>match ρ x with
  | .agg cs=>pureR (getCells p.2.2 p.2.1 p.1 cs)
  | _=>.fail
 | .indexAddr t x ix=>(Q.opt (vInt? (ρ ix))).bind fun i=>match arrC P t,elemC P t with
  | some (n,e),_=>(Q.opt (sizeC P e)).bind fun s=>indexQ (some (n,e)) s (ρ x) i.2
  | none,some e=>(Q.opt (sizeC P e)).bind fun s=>indexQ none s (ρ x) i.2
  | none,none=>.fail
 | .index t x ix=>if strC P t=true then (Q.opt (vInt? (ρ ix))).bind fun i=>pureR ((strAt (ρ x) i.2).map vlit) else (Q.opt (vInt? (ρ ix))).bind fun i=>(Q.opt (arrC P t)).bind fun p=>(Q.opt (sizeC P p.2)).bind fun s=>(Q.opt (aggC P p.2)).bind fun g=>match ρ x with
  | .agg cs=>Q.guard (decide (0≤i.2∧i.2 < p.1)) (pureR (getCells g s (i.2.toNat*s) cs))
  | _=>.fail
 | .convert src dst x=>if strC P dst=true then (Q.opt (elemC P src)).bind fun e=>Q.guard (intC P e==some .u8) ((srcRows 1 (ρ x)).bind fun rows=>pureR ((rowInts rows).map fun l=>vlit (.string (strOfI l)))) else (Q.opt (intC P src)).bind fun _=>(Q.opt (intC P dst)).bind fun k=>(Q.opt (vInt? (ρ x))).bind fun n=>.ret (vlit (.int k (k.wrap n.2)),[])
 | .makeMap t none=>Q.guard ((keyC P t).isSome) ((Q.opt ((melemC P t).bind (aggC P))).bind fun g=>(Q.opt ((melemC P t).bind fun e=>mapO P e g)).bind fun o=>fresh dst o (mapL o))
 | .lookup t x ix ok=>(Q.opt (keyC P t)).bind fun kd=>(Q.opt (melemC P t)).bind fun e=>(Q.opt (aggC P e)).bind fun g=>(Q.opt (zeroC P e)).bind fun zs=>(Q.opt (ρ ix).lit?).bind fun k=>(match ρ x with
   | .one (.mq key)=>Q.guard (isKey kd k&&!ok&&!g&&zshape P e g) (lookP kd key k zs)
   | _=>Q.guard (isKey kd k&&zshape P e g) (lookQ kd g ok zs (ρ x) k))
 | .mapUpdate t m k v=>(Q.opt (keyC P t)).bind fun kd=>(Q.opt (melemC P t)).bind fun e=>(Q.opt (aggC P e)).bind fun g=>(Q.opt (ρ k).lit?).bind fun kv=>updQ kd g (ρ m) kv (ρ v)
 | .insert t m k v=>(Q.opt (keyC P t)).bind fun kd=>(Q.opt (melemC P t)).bind fun e=>(Q.opt (aggC P e)).bind fun g=>(Q.opt (ρ k).lit?).bind fun kv=>updQ kd g (ρ m) kv (ρ v)
 | .extract t i=>match ρ t with
  | .tup vs=>pureR vs[i]?
  | _=>.fail
 | .call c=>match c.callee with
  | .builtin .len=>match c.args.toList with
   | [x]=>match c.argTypes.toList with
    | [t]=>match elemC P t with
     | some _=>pureR ((lenQ (ρ x)).map fun (n:Nat)=>vlit (.int .i64 (n:Int)))
     | none=>Q.guard (strC P t) (pureR ((strLen (ρ x)).map fun (n:Nat)=>vlit (.int .i64 (n:Int))))
    | _=>.fail
   | _=>.fail
  | .builtin .cap=>match c.args.toList,c.argTypes.toList with
   | [x],[t]=>match ρ x with
    | .one (.d (.lit (.slice none 0 0)))=>Q.guard (elemC P t).isSome (.ret (vlit (.int .i64 0),[]))
    | _=>.fail
   | _,_=>.fail
  | .builtin .clear=>match c.args.toList,c.argTypes.toList with
   | [x],[t]=>(Q.opt (elemC P t)).bind fun e=>(Q.opt (zeroC P e)).bind fun zs=>Q.guard (decide (0 < zs.length)) (clearQ zs (ρ x))
   | _,_=>.fail
  | .builtin .copy=>match c.args.toList,c.argTypes.toList with
   | [x,y],[t,t']=>(Q.opt (elemC P t)).bind fun e=>(Q.opt (sizeC P e)).bind fun sz=>Q.guard (decide (t=t'∧0 < sz)) ((srcRows sz (ρ y)).bind fun new=>copyQ sz (ρ x) new)
   | _,_=>.fail
  | .builtin .min=>pureR (mmList false (c.args.toList.map ρ))
  | .builtin .max=>pureR (mmList true (c.args.toList.map ρ))
  | .builtin .append=>match c.args.toList,c.argTypes.toList with
   | [s,x],[t,t']=>match intC P t' with
    | some _=>match ρ s with
     | .one (.d (.lit (.slice none 0 0)))=>(Q.opt (elemC P t)).bind fun e=>(Q.opt (sizeC P e)).bind fun sz=>(Q.opt (bytesC P e)).bind fun bs=>(Q.opt (zeroC P e)).bind fun zs=>(Q.opt (vInt? (ρ x))).bind fun n =>
      Q.guard (decide (0 < sz∧zs.length=sz∧0 < n.2∧bs*n.2≤140737488355328∧n.2≤9223372036854775807)) (fresh dst (.arr (List.replicate n.2.toNat (zs.map .lit)) sz e true) fun k=>.one (.slk k 0 n.2.toNat n.2.toNat))
     | _=>.fail
    | none=>(Q.opt (elemC P t)).bind fun e=>(Q.opt (sizeC P e)).bind fun sz=>(Q.opt (bytesC P e)).bind fun bs=>(Q.opt (zeroC P e)).bind fun zs=>Q.guard (decide (t=t'∧0 < sz∧0 < bs∧zs.length=sz)) ((srcRows sz (ρ x)).bind fun new=>appendQ dst e sz bs (ρ s) new)
   | _,_=>.fail
  | _=>.fail
 | _=>.fail
end Go.VE
namespace Go.VE
variable {P:Program} {w:World} {U:Nat→Prop} {ι:Pl} {ob:Ob}
def updP (ι:Pl) (k:Nat) (p:Pt):Pl:=fun j=>if j=k then p else ι j
theorem put1_same (ob:Ob) (k:Nat) (o:O):put1 ob k o k=some o:=by simp [put1]
theorem put1_other (ob:Ob) {k j:Nat} (o:O) (h:j≠k):put1 ob k o j=ob j:=by simp [put1,h]
theorem updP_same (ι:Pl) (k:Nat) (p:Pt):updP ι k p k=p:=by simp [updP]
theorem updP_other (ι:Pl) {k j:Nat} (p:Pt) (h:j≠k):updP ι k p j=ι j:=by simp [updP,h]
theorem Mem.foot {k:Nat} {o:O} (hm:Mem w U ι ob) (h:ob k=some o) {b:Nat} (hb:b∈(ι k).foot):b < w.heap.size:=by
 have:=hm.obj k o h
 cases o with
 | box cells elem=>obtain ⟨cur,h1,_⟩:=this;simp [Pt.foot,hm.one _ _ h rfl] at hb;subst hb;exact (Array.getElem?_eq_some_iff.1 h1).1
 | arr rows size elem own=>obtain ⟨cur,h1,_⟩:=this;simp [Pt.foot,hm.one _ _ h rfl] at hb;subst hb;exact (Array.getElem?_eq_some_iff.1 h1).1
 | mp agg keys vals own=>obtain ⟨es,clock,h1,_⟩:=this;simp [Pt.foot,hm.one _ _ h rfl] at hb;subst hb;exact (Array.getElem?_eq_some_iff.1 h1).1
 | ml keys vals=>obtain ⟨es,clock,h1,_⟩:=this;simp [Pt.foot,hm.one _ _ h rfl] at hb;subst hb;exact (Array.getElem?_eq_some_iff.1 h1).1
 | am keys rows size elem =>
  obtain ⟨es,clock,h1,_,h2,_⟩:=this
  rcases List.mem_cons.1 hb with rfl | hb
  ·exact (Array.getElem?_eq_some_iff.1 h1).1
  ·exact (h2.lt hb).1
 | nul=>exact this.elim
theorem Mem.block {k:Nat} {o:O} (hm:Mem w U ι ob) (h:ob k=some o):(ι k).1 < w.heap.size:=hm.foot h (by simp [Pt.foot])
theorem Mem.footU {k:Nat} {o:O} (hm:Mem w U ι ob) (h:ob k=some o) (ho:o.owned=true) {b:Nat} (hb:b∈(ι k).foot):¬ U b:=by
 have:=hm.obj k o h
 cases o with
 | box cells elem=>obtain ⟨cur,_,_,h1⟩:=this;simp [Pt.foot,hm.one _ _ h rfl] at hb;subst hb;exact h1
 | arr rows size elem own =>
  obtain ⟨cur,_,_,_,_,_,h1⟩:=this
  simp [Pt.foot,hm.one _ _ h rfl] at hb;subst hb
  simp [O.owned] at ho
  simpa [ho] using h1
 | mp agg keys vals own =>
  obtain ⟨es,clock,_,_,h1⟩:=this
  simp [Pt.foot,hm.one _ _ h rfl] at hb;subst hb
  simp [O.owned] at ho
  simpa [ho] using h1
 | ml keys vals=>obtain ⟨es,clock,_,_,h1⟩:=this;simp [Pt.foot,hm.one _ _ h rfl] at hb;subst hb;exact h1
 | am keys rows size elem =>
  obtain ⟨es,clock,_,_,h2,h1,_⟩:=this
  rcases List.mem_cons.1 hb with rfl | hb
  ·exact h1
  ·exact (h2.lt hb).2
 | nul=>exact this.elim
theorem Mem.notU {k:Nat} {o:O} (hm:Mem w U ι ob) (h:ob k=some o) (ho:o.owned=true):¬ U (ι k).1:=hm.footU h ho (by simp [Pt.foot])
theorem OR.blk {k:Nat} {o:O} (h:OR w U ι ob k o) (ho:o.owned=false):U (ι k).1:=by
 cases o with
 | box=>simp [O.owned] at ho
 | arr rows size elem own=>simp only [O.owned] at ho;subst ho;obtain ⟨_,_,_,_,_,_,h6⟩:=h;simpa using h6
 | mp agg keys vals own=>simp only [O.owned] at ho;subst ho;obtain ⟨_,_,_,_,h6⟩:=h;simpa using h6
 | ml=>simp [O.owned] at ho
 | am=>simp [O.owned] at ho
 | nul=>exact h.elim
theorem O.owned_nul {o:O} (h:o.owned=true):o.isNul=false:=by cases o<;>simp_all [O.owned,O.isNul]
theorem O.isAm_owned {o:O} (h:o.owned=false):o.isAm=false:=by cases o<;>simp_all [O.owned,O.isAm]
theorem Mem.footU' {k:Nat} {o:O} (hm:Mem w U ι ob) (h:ob k=some o) (ho:o.owned=false) {b:Nat} (hb:b∈(ι k).foot):U b:=by
 simp [Pt.foot,hm.one _ _ h (O.isAm_owned ho)] at hb
 subst hb
 exact (hm.obj k o h).blk ho
theorem Mem.apart {k k':Nat} {o o':O} (hm:Mem w U ι ob) (h:ob k=some o) (h':ob k'=some o') (ho':o'.owned=true) (hne:k≠k') {b:Nat} (hb:b∈(ι k).foot):b∉(ι k').foot:=by
 intro hb'
 cases ho:o.owned with
 | true=>exact hm.inj k k' o o' h h' ho ho' hne b hb hb'
 | false=>exact hm.footU h' ho' hb' (hm.footU' h ho hb)
theorem Mem.inj1 (hm:Mem w U ι ob) (k k':Nat) (o o':O) (h:ob k=some o) (h':ob k'=some o') (ho:o.owned=true) (ho':o'.owned=true) (hne:k≠k'):(ι k).1≠(ι k').1 :=
 fun e=>hm.inj k k' o o' h h' ho ho' hne (ι k).1 (by simp [Pt.foot]) (by simp [Pt.foot,e])
theorem Mem.foot1 (hm:Mem w U ι ob) {k:Nat} {o:O} (h:ob k=some o) (ha:o.isAm=false) {b:Nat}:b∈(ι k).foot↔b=(ι k).1:=by simp [Pt.foot,hm.one _ _ h ha]
theorem OR.evo {w':World} {U':Nat→Prop} {ι':Pl} {ob':Ob} {k:Nat} {o:O} (e:Evo w U ι ob w' U' ι' ob') (hι:ι' k=ι k) (hb:∀ b∈(ι k).foot,w'.heap[b]?=w.heap[b]?) (hU:∀ b∈(ι k).foot,(U' b↔U b))
  (h:OR w U ι ob k o):OR w' U' ι' ob' k o:=by
 have hb1:=hb (ι k).1 (by simp [Pt.foot])
 have hU1:=hU (ι k).1 (by simp [Pt.foot])
 cases o with
 | box cells elem =>
  obtain ⟨cur,h1,h2,h3⟩:=h
  exact ⟨cur,by rw [hι,hb1];exact h1,LF.evo e _ _ h2,by rw [hι,hU1];exact h3⟩
 | arr rows size elem own =>
  obtain ⟨cur,h1,h2,h3,h4,h5,h6⟩:=h
  refine ⟨cur,by rw [hι,hb1];exact h1,by rw [hι];exact h2,by rw [hι];exact h3,by rw [hι];exact h4,by rw [hι];exact RR.mono e.kept e.sub _ hb1 rows 0 size h5,?_⟩
  rw [hι]
  cases own
  ·simpa [hU1] using h6
  ·simpa [hU1] using h6
 | mp agg keys vals own =>
  obtain ⟨es,clock,h1,h2,h3⟩:=h
  refine ⟨es,clock,by rw [hι,hb1];exact h1,KR.mono e.kept e.sub vals agg keys es.toList h2,?_⟩
  rw [hι]
  cases own
  ·simpa [hU1] using h3
  ·simpa [hU1] using h3
 | ml keys vals =>
  obtain ⟨es,clock,h1,h2,h3⟩:=h
  exact ⟨es,clock,by rw [hι,hb1];exact h1,ER.evo e _ _ _ h2,by rw [hι,hU1];exact h3⟩
 | am keys rows size elem =>
  obtain ⟨es,clock,h1,h2,h3,h4,h5⟩:=h
  refine ⟨es,clock,by rw [hι,hb1];exact h1,by rw [hι];exact h2,?_,by rw [hι,hU1];exact h4,by rw [hι];exact h5⟩
  rw [hι]
  exact BR.evo e.kept e.sub _ _ (fun b hb'=>⟨hb b (by simp [Pt.foot,hb']),by rw [hU b (by simp [Pt.foot,hb'])];exact (h3.lt hb').2⟩) h3
 | nul=>exact h.elim
def FitsA (o new:O) (p q:Pt):Prop:=match o,new with
 | .box _ elem,.box _ elem'=>elem'=elem∧q.1=p.1
 | .arr rows size elem _,.arr rows' size' elem' _=>size'=size∧elem'=elem∧rows.length≤rows'.length∧(rows'.length=rows.length→q=p)
 | .mp agg _ _ _,.mp agg' _ _ _=>agg'=agg∧q.1=p.1
 | .ml _ _,.ml _ _=>q.1=p.1
 | .am _ _ size elem,.am _ _ size' elem'=>size'=size∧elem'=elem∧q.1=p.1∧p.3 <+: q.3
 | _,_=>False
theorem mem_stepA {w':World} (hm:Mem w U ι ob) (k:Nat) (new:O) (p:Pt)
  (os:w'.os=w.os) (tape:w'.tape=w.tape) (output:w'.output=w.output) (size:w.heap.size≤w'.heap.size)
  (hold:∀ b,b < w.heap.size→(ob k=none∨b∉(ι k).foot)→w'.heap[b]?=w.heap[b]?)
  (hown:∀ o,ob k=some o→o.owned=true∧FitsA o new (ι k) p)
  (hp:∀ b∈p.foot,w.heap.size≤b∨(ob k≠none∧b∈(ι k).foot)) (hone:new.isAm=false→p.3=[]) (hnew:new.owned=true)
  (hor:Evo w U ι ob w' U (updP ι k p) (put1 ob k new)→OR w' U (updP ι k p) (put1 ob k new) k new) :
  Mem w' U (updP ι k p) (put1 ob k new)∧Evo w U ι ob w' U (updP ι k p) (put1 ob k new):=by
 have keptU:∀ b,U b→w'.heap[b]?=w.heap[b]?:=fun b hb=>hold b (hm.lt b hb) (by
  cases hk:ob k with
  | none=>exact .inl rfl
  | some o=>exact .inr fun e=>hm.footU hk (hown o hk).1 e hb)
 have e:Evo w U ι ob w' U (updP ι k p) (put1 ob k new):=by
  refine ⟨os,tape,output,size,keptU,fun _ h=>h,?_,?_,?_,?_,?_,?_,?_,fun _ h=>.inl h⟩
  ·intro j cells elem hj
   by_cases hjk:j=k
   ·subst hjk
    have:=(hown _ hj).2
    cases new<;>simp [FitsA] at this
    rename_i c' e'
    exact ⟨c',by rw [put1_same,this.1],by rw [updP_same];exact this.2⟩
   ·exact ⟨cells,by rw [put1_other _ _ hjk];exact hj,by rw [updP_other _ _ hjk]⟩
  ·intro j rows sz elem own hj
   by_cases hjk:j=k
   ·subst hjk
    have:=(hown _ hj).2
    cases new<;>simp [FitsA] at this
    rename_i r' s' e' o'
    obtain ⟨h1,h2,h3,h4⟩:=this
    exact ⟨r',o',by rw [put1_same,h1,h2],h3,by rw [updP_same];exact h4⟩
   ·exact ⟨rows,own,by rw [put1_other _ _ hjk];exact hj,Nat.le_refl _,fun _=>by rw [updP_other _ _ hjk]⟩
  ·intro j agg keys vals own hj
   by_cases hjk:j=k
   ·subst hjk
    have:=(hown _ hj).2
    cases new<;>simp [FitsA] at this
    rename_i a' k' v' o'
    obtain ⟨rfl,h2⟩:=this
    exact ⟨k',v',o',put1_same _ _ _,by rw [updP_same];exact h2⟩
   ·exact ⟨keys,vals,own,by rw [put1_other _ _ hjk];exact hj,by rw [updP_other _ _ hjk]⟩
  ·intro j keys vals hj
   by_cases hjk:j=k
   ·subst hjk
    have:=(hown _ hj).2
    cases new<;>simp [FitsA] at this
    rename_i k' v'
    exact ⟨k',v',put1_same _ _ _,by rw [updP_same];exact this⟩
   ·exact ⟨keys,vals,by rw [put1_other _ _ hjk];exact hj,by rw [updP_other _ _ hjk]⟩
  ·intro j keys rows sz elem hj
   by_cases hjk:j=k
   ·subst hjk
    have:=(hown _ hj).2
    cases new<;>simp [FitsA] at this
    rename_i k' r' s' e'
    obtain ⟨rfl,rfl,h2,h3⟩:=this
    exact ⟨k',r',put1_same _ _ _,by rw [updP_same];exact h2,by rw [updP_same];exact h3⟩
   ·exact ⟨keys,rows,by rw [put1_other _ _ hjk];exact hj,by rw [updP_other _ _ hjk],by rw [updP_other _ _ hjk];exact List.prefix_refl _⟩
  ·intro b hb hno
   refine hold b hb ?_
   cases hk:ob k with
   | none=>exact .inl rfl
   | some o=>exact .inr fun e=>hno k o hk (hown o hk).1 e
  ·intro j o hj ho b hb
   by_cases hjk:j=k
   ·subst hjk
    rw [updP_same] at hb
    rcases hp b hb with h | ⟨h,h'⟩
    ·exact .inl h
    ·cases hk:ob j with
     | none=>exact absurd hk h
     | some o0=>exact .inr ⟨j,o0,hk,(hown _ hk).1,h'⟩
   ·rw [put1_other _ _ hjk] at hj
    rw [updP_other _ _ hjk] at hb
    exact .inr ⟨j,o,hj,ho,hb⟩
 refine ⟨⟨fun b hb=>Nat.lt_of_lt_of_le (hm.lt b hb) size,?_,?_,?_,hm.lay.mono e.kept e.sub⟩,e⟩
 ·intro j o hj
  by_cases hjk:j=k
  ·subst hjk
   rw [put1_same] at hj
   cases hj
   exact hor e
  ·rw [put1_other _ _ hjk] at hj
   refine OR.evo e (updP_other _ _ hjk) (fun b hb=>hold _ (hm.foot hj hb) ?_) (fun _ _=>Iff.rfl) (hm.obj j o hj)
   cases hk:ob k with
   | none=>exact .inl rfl
   | some ok=>exact .inr (hm.apart hj hk (hown _ hk).1 hjk hb)
 ·intro j j' o o' hj hj' ho ho' hne b hb hb'
  have far:∀ i oi,ob i=some oi→i≠k→b∈(ι i).foot→b∈p.foot→False:=by
   intro i oi hi hik hbi hbp
   rcases hp b hbp with hp | ⟨hk,hp⟩
   ·have:=hm.foot hi hbi;omega
   ·cases hk':ob k with
    | none=>exact hk hk'
    | some ok=>exact hm.apart hi hk' (hown _ hk').1 hik hbi hp
  by_cases hjk:j=k
  ·subst hjk
   have hj'k:j'≠j:=fun e=>hne e.symm
   rw [put1_other _ _ hj'k] at hj'
   rw [updP_same] at hb
   rw [updP_other _ _ hj'k] at hb'
   exact far j' o' hj' hj'k hb' hb
  ·rw [put1_other _ _ hjk] at hj
   rw [updP_other _ _ hjk] at hb
   by_cases hj'k:j'=k
   ·subst hj'k
    rw [updP_same] at hb'
    exact far j o hj hjk hb hb'
   ·rw [put1_other _ _ hj'k] at hj'
    rw [updP_other _ _ hj'k] at hb'
    exact hm.inj j j' o o' hj hj' ho ho' hne b hb hb'
 ·intro j o hj ha
  by_cases hjk:j=k
  ·subst hjk
   rw [put1_same] at hj
   cases hj
   rw [updP_same]
   exact hone ha
  ·rw [put1_other _ _ hjk] at hj
   rw [updP_other _ _ hjk]
   exact hm.one j o hj ha
def Fits (o new:O) (p q:Nat×Nat):Prop:=match o,new with
 | .box _ elem,.box _ elem'=>elem'=elem∧q.1=p.1
 | .arr rows size elem _,.arr rows' size' elem' _=>size'=size∧elem'=elem∧rows.length≤rows'.length∧(rows'.length=rows.length→q=p)
 | .mp agg _ _ _,.mp agg' _ _ _=>agg'=agg∧q.1=p.1
 | .ml _ _,.ml _ _=>q.1=p.1
 | _,_=>False
theorem mem_step {w':World} (hm:Mem w U ι ob) (k:Nat) (new:O) (p:Nat×Nat)
  (os:w'.os=w.os) (tape:w'.tape=w.tape) (output:w'.output=w.output) (size:w.heap.size≤w'.heap.size)
  (hold:∀ b,b < w.heap.size→(ob k=none∨b≠(ι k).1)→w'.heap[b]?=w.heap[b]?)
  (hown:∀ o,ob k=some o→o.owned=true∧Fits o new ((ι k).1,(ι k).2) p)
  (hp:w.heap.size≤p.1∨(ob k≠none∧p.1=(ι k).1)) (hnew:new.owned=true)
  (hor:Evo w U ι ob w' U (updP ι k ⟨p.1,p.2,[]⟩) (put1 ob k new)→OR w' U (updP ι k ⟨p.1,p.2,[]⟩) (put1 ob k new) k new) :
  Mem w' U (updP ι k ⟨p.1,p.2,[]⟩) (put1 ob k new)∧Evo w U ι ob w' U (updP ι k ⟨p.1,p.2,[]⟩) (put1 ob k new):=by
 have noam:∀ o,ob k=some o→o.isAm=false:=fun o h=>by
  have:=(hown o h).2
  cases o<;>cases new<;>simp_all [Fits,O.isAm]
 refine mem_stepA hm k new ⟨p.1,p.2,[]⟩ os tape output size (fun b hb h=>hold b hb (h.imp_right fun h' e=>h' (by simp [Pt.foot,e]))) (fun o h=>⟨(hown o h).1,?_⟩) (fun b hb=>?_) (fun _=>rfl) hnew hor
 ·have h1:=(hown o h).2
  have h3:=hm.one k o h (noam o h)
  cases o<;>cases new<;>simp only [Fits,FitsA] at h1 ⊢<;>first | exact h1 | skip
  obtain ⟨a1,a2,a3,a4⟩:=h1
  refine ⟨a1,a2,a3,fun e=>?_⟩
  have:=a4 e
  subst this
  cases hι:ι k with
  | mk x y z=>rw [hι] at h3;simp at h3;simp [h3]
 ·simp [Pt.foot] at hb
  subst hb
  exact hp.imp_right fun h=>⟨h.1,by simp [Pt.foot,h.2]⟩
theorem mem_add {w':World} {U':Nat→Prop} {ι1:Pl} {ob1:Ob} (hm:Mem w' U' ι1 ob1) (e:Evo w U ι ob w' U' ι1 ob1) (k:Nat) (new:O) (p:Pt) (hp3:p.3=[]) (hk:ob1 k=none)
  (hp:w.heap.size≤p.1) (_:p.1 < w'.heap.size) (_:¬ U' p.1) (hfar:∀ i oi,ob1 i=some oi→oi.owned=true→p.1∉(ι1 i).foot)
  (hor:OR w' U' (updP ι1 k p) (put1 ob1 k new) k new) :
  Mem w' U' (updP ι1 k p) (put1 ob1 k new)∧Evo w U ι ob w' U' (updP ι1 k p) (put1 ob1 k new)∧(∀ x v,LR w' U' ι1 ob1 x v→LR w' U' (updP ι1 k p) (put1 ob1 k new) x v):=by
 have nk:∀ j o,ob1 j=some o→j≠k:=by rintro j o hj rfl;rw [hk] at hj;cases hj
 have mono:∀ x v,LR w' U' ι1 ob1 x v→LR w' U' (updP ι1 k p) (put1 ob1 k new) x v:=by
  have both:(∀ x:L,∀ v,LR w' U' ι1 ob1 x v→LR w' U' (updP ι1 k p) (put1 ob1 k new) x v):=by
   intro x
   refine L.rec (motive_1:=fun x=>∀ v,LR w' U' ι1 ob1 x v→LR w' U' (updP ι1 k p) (put1 ob1 k new) x v)
    (motive_2:=fun xs=>∀ vs,LF w' U' ι1 ob1 xs vs→LF w' U' (updP ι1 k p) (put1 ob1 k new) xs vs) ?_ ?_ ?_ ?_ ?_ ?_ ?_ ?_ ?_ ?_ ?_ ?_ x
   ·intro x v h;simpa only [LR] using h
   ·intro k0 off n c v h
    simp only [LR] at h ⊢
    obtain ⟨rows,size,elem,own,h1,h2,h3,h4⟩:=h
    have:=nk _ _ h1
    exact ⟨rows,size,elem,own,by rw [put1_other _ _ this];exact h1,h2,by rw [updP_other _ _ this];exact h3,h4⟩
   ·intro k0 i off c v h
    simp only [LR] at h ⊢
    obtain ⟨rows,size,elem,own,h1,h2,h3,h4⟩:=h
    have:=nk _ _ h1
    exact ⟨rows,size,elem,own,by rw [put1_other _ _ this];exact h1,h2,by rw [updP_other _ _ this];exact h3,h4⟩
   ·intro k0 off v h
    simp only [LR] at h ⊢
    obtain ⟨cells,elem,h1,h2⟩:=h
    have:=nk _ _ h1
    exact ⟨cells,elem,by rw [put1_other _ _ this];exact h1,by rw [updP_other _ _ this];exact h2⟩
   ·intro f caps ih v h
    simp only [LR] at h ⊢
    obtain ⟨cs,h1,h2⟩:=h
    exact ⟨cs,h1,ih _ h2⟩
   ·intro k0 v h
    simp only [LR] at h ⊢
    obtain ⟨agg,keys,vals,own,h1,h2⟩:=h
    have:=nk _ _ h1
    exact ⟨agg,keys,vals,own,by rw [put1_other _ _ this];exact h1,by rw [updP_other _ _ this];exact h2⟩
   ·intro k0 v h
    simp only [LR] at h ⊢
    obtain ⟨h1 | ⟨keys,rows,size,elem,h1⟩,h2⟩:=h
    ·obtain ⟨keys,vals,h1⟩:=h1
     have:=nk _ _ h1
     exact ⟨.inl ⟨keys,vals,by rw [put1_other _ _ this];exact h1⟩,by rw [updP_other _ _ this];exact h2⟩
    ·have:=nk _ _ h1
     exact ⟨.inr ⟨keys,rows,size,elem,by rw [put1_other _ _ this];exact h1⟩,by rw [updP_other _ _ this];exact h2⟩
   ·intro k0 j off v h
    simp only [LR] at h ⊢
    obtain ⟨⟨keys,rows,size,elem,h1⟩,b,h2,h3⟩:=h
    have:=nk _ _ h1
    exact ⟨⟨keys,rows,size,elem,by rw [put1_other _ _ this];exact h1⟩,b,by rw [updP_other _ _ this];exact h2,h3⟩
   ·intro k0 n v h
    simp only [LR] at h ⊢
    refine h.imp id ?_
    rintro ⟨h0,rows,size,elem,own,h1,h2,h3,h4⟩
    have:=nk _ _ h1
    exact ⟨h0,rows,size,elem,own,by rw [put1_other _ _ this];exact h1,h2,by rw [updP_other _ _ this];exact h3,h4⟩
   ·intro v h;simp [LR]
   ·intro vs h;simpa [LF] using h
   ·intro x xs ih1 ih2 vs h
    simp only [LF] at h ⊢
    obtain ⟨v,vs',h1,h2,h3⟩:=h
    exact ⟨v,vs',h1,ih1 _ h2,ih2 _ h3⟩
  exact both
 have monoF:∀ xs vs,LF w' U' ι1 ob1 xs vs→LF w' U' (updP ι1 k p) (put1 ob1 k new) xs vs:=by
  intro xs
  induction xs with
  | nil=>intro vs h;simpa [LF] using h
  | cons x xs ih=>intro vs h;simp only [LF] at h ⊢;obtain ⟨v,vs',h1,h2,h3⟩:=h;exact ⟨v,vs',h1,mono _ _ h2,ih _ h3⟩
 have monoE:∀ ks xs es,ER w' U' ι1 ob1 ks xs es→ER w' U' (updP ι1 k p) (put1 ob1 k new) ks xs es:=by
  intro ks
  induction ks with
  | nil=>intro xs es h;cases xs<;>cases es<;>simp_all [ER]
  | cons q ks ih=>intro xs es h;cases xs<;>cases es<;>simp only [ER] at h ⊢;exact ⟨h.1,h.2.1,mono _ _ h.2.2.1,ih _ _ h.2.2.2⟩
 refine ⟨⟨hm.lt,?_,?_,?_,hm.lay⟩,⟨e.os,e.tape,e.output,e.size,e.kept,e.sub,?_,?_,?_,?_,?_,e.same,?_,e.orig⟩,mono⟩
 ·intro j o hj
  by_cases hjk:j=k
  ·subst hjk
   rw [put1_same] at hj
   cases hj
   exact hor
  ·rw [put1_other _ _ hjk] at hj
   have h:=hm.obj j o hj
   cases o with
   | box cells elem=>obtain ⟨cur,h1,h2,h3⟩:=h;exact ⟨cur,by rw [updP_other _ _ hjk];exact h1,monoF _ _ h2,by rw [updP_other _ _ hjk];exact h3⟩
   | arr rows size elem own=>obtain ⟨cur,h1,h2,h3,h4,h5,h6⟩:=h;exact ⟨cur,by rw [updP_other _ _ hjk];exact h1,by rw [updP_other _ _ hjk];exact h2,by rw [updP_other _ _ hjk];exact h3,by rw [updP_other _ _ hjk];exact h4,by rw [updP_other _ _ hjk];exact h5,by rw [updP_other _ _ hjk];exact h6⟩
   | mp agg keys vals own=>obtain ⟨es,clock,h1,h2,h3⟩:=h;exact ⟨es,clock,by rw [updP_other _ _ hjk];exact h1,h2,by rw [updP_other _ _ hjk];exact h3⟩
   | ml keys vals=>obtain ⟨es,clock,h1,h2,h3⟩:=h;exact ⟨es,clock,by rw [updP_other _ _ hjk];exact h1,monoE _ _ _ h2,by rw [updP_other _ _ hjk];exact h3⟩
   | am keys rows size elem=>simp only [OR] at h ⊢;rw [updP_other _ _ hjk];exact h
   | nul=>exact h.elim
 ·intro j j' o o' hj hj' ho ho' hne b hb hb'
  by_cases hjk:j=k
  ·subst hjk
   have hj'k:j'≠j:=fun e=>hne e.symm
   rw [put1_other _ _ hj'k] at hj'
   rw [updP_same] at hb
   rw [updP_other _ _ hj'k] at hb'
   simp [Pt.foot,hp3] at hb
   subst hb
   exact hfar j' o' hj' ho' hb'
  ·rw [put1_other _ _ hjk] at hj
   rw [updP_other _ _ hjk] at hb
   by_cases hj'k:j'=k
   ·subst hj'k
    rw [updP_same] at hb'
    simp [Pt.foot,hp3] at hb'
    subst hb'
    exact hfar j o hj ho hb
   ·rw [put1_other _ _ hj'k] at hj'
    rw [updP_other _ _ hj'k] at hb'
    exact hm.inj j j' o o' hj hj' ho ho' hne b hb hb'
 ·intro j o hj ha
  by_cases hjk:j=k
  ·subst hjk;rw [updP_same];exact hp3
  ·rw [put1_other _ _ hjk] at hj
   rw [updP_other _ _ hjk]
   exact hm.one j o hj ha
 ·intro j cells elem hj
  obtain ⟨c',h1,h2⟩:=e.box j cells elem hj
  have:=nk _ _ h1
  exact ⟨c',by rw [put1_other _ _ this];exact h1,by rw [updP_other _ _ this];exact h2⟩
 ·intro j rows size elem own hj
  obtain ⟨r',o',h1,h2,h3⟩:=e.arr j rows size elem own hj
  have:=nk _ _ h1
  exact ⟨r',o',by rw [put1_other _ _ this];exact h1,h2,by rw [updP_other _ _ this];exact h3⟩
 ·intro j agg keys vals own hj
  obtain ⟨k',v',o',h1,h2⟩:=e.mp j agg keys vals own hj
  have:=nk _ _ h1
  exact ⟨k',v',o',by rw [put1_other _ _ this];exact h1,by rw [updP_other _ _ this];exact h2⟩
 ·intro j keys vals hj
  obtain ⟨k',v',h1,h2⟩:=e.ml j keys vals hj
  have:=nk _ _ h1
  exact ⟨k',v',by rw [put1_other _ _ this];exact h1,by rw [updP_other _ _ this];exact h2⟩
 ·intro j keys rows size elem hj
  obtain ⟨k',v',h1,h2,h3⟩:=e.am j keys rows size elem hj
  have:=nk _ _ h1
  exact ⟨k',v',by rw [put1_other _ _ this];exact h1,by rw [updP_other _ _ this];exact h2,by rw [updP_other _ _ this];exact h3⟩
 ·intro j o hj ho b hb
  by_cases hjk:j=k
  ·subst hjk;rw [updP_same] at hb;simp [Pt.foot,hp3] at hb;subst hb;exact .inl hp
  ·rw [put1_other _ _ hjk] at hj
   rw [updP_other _ _ hjk] at hb
   exact e.ownd j o hj ho b hb
def O.shut:O→O
 | .arr rows size elem _=>.arr rows size elem false
 | .mp agg keys vals _=>.mp agg keys vals false
 | o=>o
def O.isBox:O→Bool
 | .box ..=>true
 | _=>false
def O.isRow:O→Bool
 | .arr ..=>true
 | .mp ..=>true
 | _=>false
theorem mem_freeze (hm:Mem w U ι ob) {k:Nat} {ok:O} (hk:ob k=some ok) (hnb:ok.isRow=true) :
  Mem w (fun b=>U b∨b=(ι k).1) ι (put1 ob k ok.shut)∧Evo w U ι ob w (fun b=>U b∨b=(ι k).1) ι (put1 ob k ok.shut):=by
 have hna:ok.isAm=false:=by cases ok<;>simp_all [O.isRow,O.isAm]
 have hkf:∀ {b},b∈(ι k).foot↔b=(ι k).1:=hm.foot1 hk hna
 have hsho:ok.shut.owned=false:=by cases ok<;>simp_all [O.shut,O.owned,O.isRow]
 have e:Evo w U ι ob w (fun b=>U b∨b=(ι k).1) ι (put1 ob k ok.shut):=by
  refine ⟨rfl,rfl,rfl,Nat.le_refl _,fun _ _=>rfl,fun _ h=>.inl h,?_,?_,?_,?_,?_,fun _ _ _=>rfl,?_,?_⟩
  ·intro j cells el hj
   have hjk:j≠k:=by rintro rfl;rw [hk] at hj;cases hj;simp [O.isRow] at hnb
   exact ⟨cells,by rw [put1_other _ _ hjk];exact hj,rfl⟩
  ·intro j r s el o hj
   by_cases hjk:j=k
   ·subst hjk
    rw [hk] at hj
    cases hj
    exact ⟨r,false,put1_same _ _ _,Nat.le_refl _,fun _=>rfl⟩
   ·exact ⟨r,o,by rw [put1_other _ _ hjk];exact hj,Nat.le_refl _,fun _=>rfl⟩
  ·intro j agg keys vals o hj
   by_cases hjk:j=k
   ·subst hjk
    rw [hk] at hj
    cases hj
    exact ⟨keys,vals,false,put1_same _ _ _,rfl⟩
   ·exact ⟨keys,vals,o,by rw [put1_other _ _ hjk];exact hj,rfl⟩
  ·intro j keys vals hj
   have hjk:j≠k:=by rintro rfl;rw [hk] at hj;cases hj;simp [O.isRow] at hnb
   exact ⟨keys,vals,by rw [put1_other _ _ hjk];exact hj,rfl⟩
  ·intro j keys rows sz el hj
   have hjk:j≠k:=by rintro rfl;rw [hk] at hj;cases hj;simp [O.isRow] at hnb
   exact ⟨keys,rows,by rw [put1_other _ _ hjk];exact hj,rfl,List.prefix_refl _⟩
  ·intro j o hj ho b hb
   by_cases hjk:j=k
   ·subst hjk
    rw [put1_same] at hj
    cases hj
    rw [hsho] at ho
    cases ho
   ·rw [put1_other _ _ hjk] at hj
    exact .inr ⟨j,o,hj,ho,hb⟩
  ·rintro b (hb | rfl)
   ·exact .inl hb
   ·cases hok:ok.owned with
    | true=>exact .inr (.inr ⟨k,ok,hk,hok,hkf.2 rfl⟩)
    | false=>exact .inl ((hm.obj _ _ hk).blk hok)
 refine ⟨⟨?_,?_,?_,?_,hm.lay.mono e.kept e.sub⟩,e⟩
 ·rintro b (hb | rfl)
  ·exact hm.lt b hb
  ·exact hm.block hk
 ·intro j o hj
  by_cases hjk:j=k
  ·subst hjk
   rw [put1_same] at hj
   cases hj
   have h0:=hm.obj _ _ hk
   cases ok with
   | box=>simp [O.isRow] at hnb
   | ml=>simp [O.isRow] at hnb
   | am=>simp [O.isRow] at hnb
   | nul=>simp [O.isRow] at hnb
   | arr rows size elem own =>
    obtain ⟨cur,h1,h2,h3,h4,h5,h6⟩:=h0
    exact ⟨cur,h1,h2,h3,h4,RR.mono e.kept e.sub _ rfl rows 0 size h5,by simp⟩
   | mp agg keys vals own =>
    obtain ⟨es,clock,h1,h2,h3⟩:=h0
    exact ⟨es,clock,h1,KR.mono e.kept e.sub _ _ _ _ h2,by simp⟩
  ·rw [put1_other _ _ hjk] at hj
   have h1:=hm.obj j o hj
   cases ho:o.owned with
   | true =>
    refine OR.evo e rfl (fun _ _=>rfl) (fun b hb=>⟨fun h=>h.elim id fun e'=>?_,.inl⟩) h1
    subst e'
    cases hok:ok.owned with
    | true=>exact absurd (hkf.2 rfl) (hm.apart hj hk hok hjk hb)
    | false=>exact (hm.obj _ _ hk).blk hok
   | false =>
    cases o with
    | box=>simp [O.owned] at ho
    | ml=>simp [O.owned] at ho
    | am=>simp [O.owned] at ho
    | nul=>exact h1.elim
    | arr r s el o =>
     obtain ⟨cur,h2,h3,h4,h5,h6,h7⟩:=h1
     refine ⟨cur,h2,h3,h4,h5,RR.mono e.kept e.sub _ rfl r 0 s h6,?_⟩
     simp [O.owned] at ho
     subst ho
     simp at h7 ⊢;exact .inl h7
    | mp agg keys vals o =>
     obtain ⟨es,clock,h2,h3,h7⟩:=h1
     refine ⟨es,clock,h2,KR.mono e.kept e.sub _ _ _ _ h3,?_⟩
     simp [O.owned] at ho
     subst ho
     simp at h7 ⊢;exact .inl h7
 ·intro j j' o o' hj hj' ho ho' hne
  have hj1:j≠k:=by rintro rfl;rw [put1_same] at hj;cases hj;rw [hsho] at ho;cases ho
  have hj2:j'≠k:=by rintro rfl;rw [put1_same] at hj';cases hj';rw [hsho] at ho';cases ho'
  rw [put1_other _ _ hj1] at hj
  rw [put1_other _ _ hj2] at hj'
  exact hm.inj j j' o o' hj hj' ho ho' hne
 ·intro j o hj ha
  by_cases hjk:j=k
  ·subst hjk;exact hm.one j ok hk hna
  ·rw [put1_other _ _ hjk] at hj;exact hm.one j o hj ha
def Good (P:Program) (w:World) (U:Nat→Prop) (ι:Pl) (ob:Ob) (s:Sem Value) (r:Res):Prop :=
 ∃ v w' U' ι',s.run P w=.ok v w'∧Mem w' U' ι' (putO ob r.2)∧Evo w U ι ob w' U' ι' (putO ob r.2)∧VR w' U' ι' (putO ob r.2) r.1 v
theorem good_pure (hm:Mem w U ι ob) {s:Sem Value} {v:V} {u:Value} (h:s.run P w=.ok u w) (hv:VR w U ι ob v u):Good P w U ι ob s (v,[]) :=
 ⟨u,w,U,ι,h,hm,Evo.refl _ _ _ _,hv⟩
theorem LF.len {xs:List L} {vs:List Value} (h:LF w U ι ob xs vs):vs.length=xs.length:=by
 induction xs generalizing vs with
 | nil=>simp only [LF] at h;simp [h]
 | cons x xs ih=>simp only [LF] at h;obtain ⟨v,vs',rfl,_,h2⟩:=h;simp [ih h2]
theorem LF.at_ {xs:List L} {vs:List Value} (h:LF w U ι ob xs vs):∀ {j:Nat} {x:L},xs[j]?=some x→∃ v,vs[j]?=some v∧LR w U ι ob x v:=by
 induction xs generalizing vs with
 | nil=>intro j x hj;simp at hj
 | cons y ys ih =>
  simp only [LF] at h
  obtain ⟨v,vs',rfl,h1,h2⟩:=h
  intro j x hj
  cases j with
  | zero=>simp at hj;subst hj;exact ⟨v,rfl,h1⟩
  | succ j=>simpa using ih h2 (by simpa using hj)
theorem LF.mk {xs:List L} {vs:List Value} (hl:vs.length=xs.length) (h:∀ (j:Nat) (x:L) (v:Value),xs[j]?=some x→vs[j]?=some v→LR w U ι ob x v):LF w U ι ob xs vs:=by
 induction xs generalizing vs with
 | nil=>simp only [LF];exact List.eq_nil_of_length_eq_zero hl
 | cons y ys ih =>
  cases vs with
  | nil=>simp at hl
  | cons v vs =>
   simp only [LF]
   exact ⟨v,vs,rfl,h 0 y v rfl rfl,ih (by simpa using hl) fun j x u hx hu=>h (j+1) x u (by simpa using hx) (by simpa using hu)⟩
theorem LF.append {xs ys:List L} {vs us:List Value} (h:LF w U ι ob xs vs) (k:LF w U ι ob ys us):LF w U ι ob (xs++ys) (vs++us):=by
 induction xs generalizing vs with
 | nil=>simp only [LF] at h;simpa [h] using k
 | cons x xs ih=>simp only [LF] at h;obtain ⟨v,vs',rfl,h1,h2⟩:=h;simp only [List.cons_append,LF];exact ⟨v,_,rfl,h1,ih h2⟩
theorem LF.take {xs:List L} {vs:List Value} (h:LF w U ι ob xs vs) (n:Nat):LF w U ι ob (xs.take n) (vs.take n):=by
 induction xs generalizing vs n with
 | nil=>simp only [LF] at h;simp [h,LF]
 | cons x xs ih =>
  simp only [LF] at h;obtain ⟨v,vs',rfl,h1,h2⟩:=h
  cases n with
  | zero=>simp [LF]
  | succ n=>simp only [List.take_succ_cons,LF];exact ⟨v,_,rfl,h1,ih h2 n⟩
theorem LF.drop {xs:List L} {vs:List Value} (h:LF w U ι ob xs vs) (n:Nat):LF w U ι ob (xs.drop n) (vs.drop n):=by
 induction xs generalizing vs n with
 | nil=>simp only [LF] at h;simp [h,LF]
 | cons x xs ih =>
  simp only [LF] at h;obtain ⟨v,vs',rfl,h1,h2⟩:=h
  cases n with
  | zero=>simp only [List.drop_zero,LF];exact ⟨v,_,rfl,h1,h2⟩
  | succ n=>simpa using ih h2 n
theorem VF.at_ {xs:List V} {vs:List Value} (h:VF w U ι ob xs vs):∀ {j:Nat} {x:V},xs[j]?=some x→∃ v,vs[j]?=some v∧VR w U ι ob x v:=by
 induction xs generalizing vs with
 | nil=>intro j x hj;simp at hj
 | cons y ys ih =>
  simp only [VF] at h
  obtain ⟨v,vs',rfl,h1,h2⟩:=h
  intro j x hj
  cases j with
  | zero=>simp at hj;subst hj;exact ⟨v,rfl,h1⟩
  | succ j=>simpa using ih h2 (by simpa using hj)
theorem plain_cells {v:Value} (h:plain v=true):v.cells=#[v]:=by cases v<;>simp_all [plain,Value.cells]
theorem plain_one {v:Value} (h:plain v=true):v.oneCell'=true:=by cases v<;>simp_all [plain,Value.oneCell']
theorem fnVal_cells (f:Nat) (a:Array Value):(fnVal f a).cells=#[fnVal f a]∧(fnVal f a).oneCell'=true:=by unfold fnVal;split<;>exact ⟨rfl,rfl⟩
theorem DR.cells {x:D} {v:Value} (h:DR w U x v):v.cells=#[v]∧v.oneCell'=true:=by
 cases x with
 | lit u=>simp only [DR] at h;obtain ⟨rfl,h⟩:=h;exact ⟨plain_cells h,plain_one h⟩
 | sl size rows=>simp only [DR] at h;obtain ⟨a,cap,rfl,_⟩:=h;exact ⟨rfl,rfl⟩
 | dp row off=>simp only [DR] at h;obtain ⟨a,cap,rfl,_⟩:=h;exact ⟨rfl,rfl⟩
 | fn f caps=>simp only [DR] at h;obtain ⟨a,rfl,_⟩:=h;exact fnVal_cells f a
 | mp agg keys vals=>simp only [DR] at h;obtain ⟨_,_,_,rfl,_⟩:=h;exact ⟨rfl,rfl⟩
 | ifc t agg row=>simp only [DR] at h;obtain ⟨_,rfl,_⟩:=h;exact ⟨rfl,rfl⟩
theorem LR.cells {x:L} {v:Value} (h:LR w U ι ob x v) (hx:x.isDef=true):v.cells=#[v]∧v.oneCell'=true:=by
 cases x with
 | d x=>simp only [LR] at h;exact DR.cells h
 | slk k off n c=>simp only [LR] at h;obtain ⟨_,_,_,_,_,_,_,a,c',rfl,_⟩:=h;exact ⟨rfl,rfl⟩
 | pa k i off c=>simp only [LR] at h;obtain ⟨_,_,_,_,_,_,_,a,rfl⟩:=h;exact ⟨rfl,rfl⟩
 | ptr k off=>simp only [LR] at h;obtain ⟨_,_,_,rfl⟩:=h;exact ⟨rfl,rfl⟩
 | fn f caps=>simp only [LR] at h;obtain ⟨a,rfl,_⟩:=h;exact fnVal_cells f a
 | mk k=>simp only [LR] at h;obtain ⟨_,_,_,_,_,rfl⟩:=h;exact ⟨rfl,rfl⟩
 | mq k=>simp only [LR] at h;obtain ⟨_,rfl⟩:=h;exact ⟨rfl,rfl⟩
 | pb k j off=>simp only [LR] at h;obtain ⟨_,_,_,rfl⟩:=h;exact ⟨rfl,rfl⟩
 | sln k n=>simp only [LR] at h;rcases h with ⟨_,rfl⟩ | ⟨_,_,_,_,_,_,_,_,a,c',rfl,_⟩<;>exact ⟨rfl,rfl⟩
 | undef=>simp [L.isDef] at hx
theorem VR.cells {x:V} {v:Value} {cs:List L} (h:VR w U ι ob x v) (hc:x.cells=some cs):LF w U ι ob cs v.cells.toList∧(∀ u∈v.cells.toList,u.oneCell'=true):=by
 cases x with
 | one x =>
  simp only [V.cells] at hc
  split at hc
  ·cases hc
   simp only [VR] at h
   have:=LR.cells h ‹_›
   rw [this.1]
   exact ⟨by simp only [LF];exact ⟨v,[],rfl,h,rfl⟩,by simpa using this.2⟩
  ·cases hc
 | agg xs =>
  simp only [V.cells] at hc
  split at hc
  ·rename_i hd
   cases hc
   simp only [VR] at h
   obtain ⟨vs,rfl,hl⟩:=h
   refine ⟨hl,fun u hu=>?_⟩
   simp only [Value.cells] at hu
   obtain ⟨j,hj,rfl⟩:=List.mem_iff_getElem.1 hu
   have hjl:j < cs.length:=by rw [←hl.len];exact hj
   obtain ⟨v',hv',hr⟩:=hl.at_ (List.getElem?_eq_getElem hjl)
   rw [List.getElem?_eq_getElem hj] at hv'
   cases hv'
   exact (LR.cells hr (by simpa using List.all_eq_true.1 hd _ (List.getElem_mem hjl))).2
  ·cases hc
 | tup xs=>simp [V.cells] at hc
theorem litsL_LF {zs:List Value} (h:zs.all plain=true):LF w U ι ob (litsL zs) zs:=by
 induction zs with
 | nil=>simp [litsL,LF]
 | cons z zs ih =>
  simp at h
  simp only [litsL,List.map_cons,LF]
  exact ⟨z,zs,rfl,by simp [LR,DR,h.1],ih (by simpa using h.2)⟩
theorem DR_lit {v:Value} (h:plain v=true):DR w U (.lit v) v:=by simp [DR,h]
theorem zeroC_some {t:Nat} {zs:List Value} (h:zeroC P t=some zs):∃ i z,P.info? t=some i∧i.zero=some z∧z.cells.toList=zs∧zs.all plain=true:=by
 simp only [zeroC,Option.bind_eq_some_iff] at h
 obtain ⟨i,hi,z,hz,h⟩:=h
 split at h
 ·cases h;exact ⟨i,z,hi,hz,rfl,‹_›⟩
 ·cases h
theorem good_fresh (hm:Mem w U ι ob) {dst:Option Nat} {o:O} {f:Nat→V} {r:Res} (hr:(fresh dst o f).run ob=some r) {s:Sem Value} {u:Value} {obj:Obj} {c:Nat}
  (hrun:s.run P w=.ok u (w.alloc obj)) (ho:o.owned=true)
  (hor:∀ k ι' ob',ob' k=some o→(ι' k)=⟨w.heap.size,c,[]⟩→Evo w U ι ob (w.alloc obj) U ι' ob'→OR (w.alloc obj) U ι' ob' k o)
  (hv:∀ k ι' ob',ob' k=some o→(ι' k)=⟨w.heap.size,c,[]⟩→VR (w.alloc obj) U ι' ob' (f k) u):Good P w U ι ob s r:=by
 unfold fresh at hr
 cases dst with
 | none=>simp [Q.run] at hr
 | some k =>
  simp only [Q.run] at hr
  cases hk:ob k with
  | some o=>simp [hk,Q.run] at hr
  | none =>
   simp only [hk,Q.run,Option.some.injEq] at hr
   subst hr
   obtain ⟨h1,h2⟩:=mem_step (w':=w.alloc obj) hm k o (w.heap.size,c) rfl rfl rfl (by simp) (fun b hb _=>by
    show (w.heap.push obj)[b]?=_
    rw [Array.getElem?_push,if_neg (by omega)]) (fun o' h=>by rw [hk] at h;cases h) (.inl (Nat.le_refl _)) ho (fun e=>hor k _ _ (put1_same _ _ _) (updP_same _ _ _) e)
   have e:putO ob [(k,o)]=put1 ob k o:=putO_cons ob k o [] (O.owned_nul ho)
   refine ⟨u,w.alloc obj,U,updP ι k ⟨w.heap.size,c,[]⟩,hrun,?_,?_,?_⟩
   ·simp only [e];exact h1
   ·simp only [e];exact h2
   ·simp only [e];exact hv k _ _ (put1_same _ _ _) (updP_same _ _ _)
end Go.VE
namespace Go.VE
open Go.RowKit
variable {P:Program} {w:World} {U:Nat→Prop} {ι:Pl} {ob:Ob}
theorem FR.len {xs:List D} {vs:List Value} (h:FR w U xs vs):vs.length=xs.length:=by
 induction xs generalizing vs with
 | nil=>simp only [FR] at h;simp [h]
 | cons x xs ih=>simp only [FR] at h;obtain ⟨v,vs',rfl,_,h2⟩:=h;simp [ih h2]
theorem FR.at_ {xs:List D} {vs:List Value} (h:FR w U xs vs):∀ {j:Nat} {x:D},xs[j]?=some x→∃ v,vs[j]?=some v∧DR w U x v:=by
 induction xs generalizing vs with
 | nil=>intro j x hj;simp at hj
 | cons y ys ih =>
  simp only [FR] at h
  obtain ⟨v,vs',rfl,h1,h2⟩:=h
  intro j x hj
  cases j with
  | zero=>simp at hj;subst hj;exact ⟨v,rfl,h1⟩
  | succ j=>simpa using ih h2 (by simpa using hj)
theorem FR.append {xs ys:List D} {vs us:List Value} (h:FR w U xs vs) (k:FR w U ys us):FR w U (xs++ys) (vs++us):=by
 induction xs generalizing vs with
 | nil=>simp only [FR] at h;simpa [h] using k
 | cons x xs ih=>simp only [FR] at h;obtain ⟨v,vs',rfl,h1,h2⟩:=h;simp only [List.cons_append,FR];exact ⟨v,_,rfl,h1,ih h2⟩
theorem FR.one {xs:List D} {vs:List Value} (h:FR w U xs vs):∀ u∈vs,u.oneCell'=true:=by
 induction xs generalizing vs with
 | nil=>simp only [FR] at h;simp [h]
 | cons x xs ih =>
  simp only [FR] at h;obtain ⟨v,vs',rfl,h1,h2⟩:=h
  intro u hu
  rcases List.mem_cons.1 hu with rfl | hu
  ·exact h1.cells.2
  ·exact ih h2 u hu
theorem CR_iff {b:Nat}:∀ {xs:List D} {o:Nat},CR w U b o xs↔∃ vs,FR w U xs vs∧∀ j u,vs[j]?=some u→w.cell? ⟨b,o+j,none⟩=some u
 | [],o=>by simp [CR,FR]
 | x::xs,o=>by
  simp only [CR,FR]
  constructor
  ·rintro ⟨⟨u,hc,hd⟩,hr⟩
   obtain ⟨vs,h1,h2⟩:=CR_iff.1 hr
   refine ⟨u::vs,⟨u,vs,rfl,hd,h1⟩,fun j v hv=>?_⟩
   cases j with
   | zero=>simp at hv;subst hv;simpa using hc
   | succ j=>have:=h2 j v (by simpa using hv);rwa [show o+1+j=o+(j+1) by omega] at this
  ·rintro ⟨_,⟨u,vs,rfl,hd,h1⟩,h2⟩
   refine ⟨⟨u,by simpa using h2 0 u rfl,hd⟩,CR_iff.2 ⟨vs,h1,fun j v hv=>?_⟩⟩
   have:=h2 (j+1) v (by simpa using hv)
   rwa [show o+(j+1)=o+1+j by omega] at this
theorem RR_iff {b:Nat}:∀ {rs:List (List D)} {o size:Nat},RR w U b o size rs↔(∀ r∈rs,r.length=size)∧∃ vs,FR w U rs.flatten vs∧∀ j u,vs[j]?=some u→w.cell? ⟨b,o+j,none⟩=some u
 | [],o,size=>by simp [RR,FR]
 | r::rs,o,size=>by
  simp only [RR,List.flatten_cons]
  constructor
  ·rintro ⟨hl,hc,hr⟩
   obtain ⟨vs,h1,h2⟩:=CR_iff.1 hc
   obtain ⟨h3,us,h4,h5⟩:=RR_iff.1 hr
   refine ⟨by simpa [hl] using h3,vs++us,h1.append h4,fun j u hu=>?_⟩
   have hvl:vs.length=size:=by rw [h1.len,hl]
   rw [List.getElem?_append] at hu
   split at hu
   ·exact h2 j u hu
   ·have:=h5 _ u hu
    rw [hvl] at this
    rwa [show o+size+(j - size)=o+j by omega] at this
  ·rintro ⟨hl,vs,h1,h2⟩
   have hrl:r.length=size:=hl r (by simp)
   refine ⟨hrl,?_,?_⟩
   ·refine CR.mk fun j x hj=>?_
    obtain ⟨v,hv,hd⟩:=h1.at_ (j:=j) (x:=x) (by rw [List.getElem?_append_left (List.getElem?_eq_some_iff.1 hj).1];exact hj)
    exact ⟨v,h2 j v hv,hd⟩
   ·have key:∀ {xs ys:List D} {vs:List Value},FR w U (xs++ys) vs→FR w U ys (vs.drop xs.length):=by
     intro xs
     induction xs with
     | nil=>intro ys vs h;simpa using h
     | cons x xs ih=>intro ys vs h;simp only [List.cons_append,FR] at h;obtain ⟨v,vs',rfl,_,h⟩:=h;simpa using ih h
    refine RR_iff.2 ⟨fun r hr=>hl r (by simp [hr]),vs.drop size,by rw [←hrl];exact key h1,fun j u hu=>?_⟩
    rw [List.getElem?_drop] at hu
    have:=h2 _ u hu
    rwa [show o+(size+j)=o+size+j by omega] at this
theorem flatten_len {rs:List (List D)} {size:Nat} (h:∀ r∈rs,r.length=size):rs.flatten.length=rs.length*size:=by
 induction rs with
 | nil=>simp
 | cons r rs ih=>simp [h r (by simp),ih (fun x hx=>h x (by simp [hx])),Nat.add_mul,Nat.add_comm]
theorem FR.take {xs:List D} {vs:List Value} (h:FR w U xs vs) (n:Nat):FR w U (xs.take n) (vs.take n):=by
 induction xs generalizing vs n with
 | nil=>simp only [FR] at h;simp [h,FR]
 | cons x xs ih =>
  simp only [FR] at h;obtain ⟨v,vs',rfl,h1,h2⟩:=h
  cases n with
  | zero=>simp [FR]
  | succ n=>simp only [List.take_succ_cons,FR];exact ⟨v,_,rfl,h1,ih h2 n⟩
theorem FR.drop {xs:List D} {vs:List Value} (h:FR w U xs vs) (n:Nat):FR w U (xs.drop n) (vs.drop n):=by
 induction xs generalizing vs n with
 | nil=>simp only [FR] at h;simp [h,FR]
 | cons x xs ih =>
  simp only [FR] at h;obtain ⟨v,vs',rfl,h1,h2⟩:=h
  cases n with
  | zero=>simp only [List.drop_zero,FR];exact ⟨v,_,rfl,h1,h2⟩
  | succ n=>simpa using ih h2 n
theorem BR.push {w:World} {U:Nat→Prop} {size elem b:Nat} {row:List D} {cur:Array Value} (h1:w.heap[b]?=some (.cells cur elem (0,0))) (h2:FR w U row cur.toList) (h3:row.length=size) (h4:¬ U b):∀ {bs:List Nat} {rs:List (List D)},BR w U size elem bs rs→BR w U size elem (bs++[b]) (rs++[row])
 | [],[],_=>by simp only [List.nil_append,BR];exact ⟨⟨cur,h1,h2⟩,h3,h4,trivial⟩
 | c::bs,r::rs,h=>by simp only [BR,List.cons_append] at h ⊢;exact ⟨h.1,h.2.1,h.2.2.1,BR.push h1 h2 h3 h4 h.2.2.2⟩
 | [],_::_,h=>by simp [BR] at h
 | _::_,[],h=>by simp [BR] at h
theorem BR.set_ {w w':World} {U:Nat→Prop} {size elem b:Nat} {row:List D} {cur:Array Value} (hk:∀ c,U c→w'.heap[c]?=w.heap[c]?) (h1:w'.heap[b]?=some (.cells cur elem (0,0))) (h2:FR w' U row cur.toList) (h3:row.length=size):∀ {bs:List Nat} {rs:List (List D)} {j:Nat},BR w U size elem bs rs→bs[j]?=some b→bs.Nodup→(∀ c∈bs,c≠b→w'.heap[c]?=w.heap[c]?)→BR w' U size elem bs (rs.set j row)
 | [],[],_,_,hj,_,_=>by simp at hj
 | c::bs,r::rs,0,h,hj,hn,ho=>by
  simp at hj;subst hj
  simp only [BR,List.set_cons_zero] at h ⊢
  simp at hn
  exact ⟨⟨cur,h1,h2⟩,h3,h.2.2.1,BR.evo hk (fun _ h=>h) _ _ (fun d hd=>⟨ho d (by simp [hd]) (fun e=>hn.1 (e ▸ hd)),(h.2.2.2.lt hd).2⟩) h.2.2.2⟩
 | c::bs,r::rs,j+1,h,hj,hn,ho=>by
  simp only [BR,List.set_cons_succ] at h ⊢
  simp at hn
  have hj':bs[j]?=some b:=by simpa using hj
  have hcb:c≠b:=fun e=>hn.1 (e ▸ List.mem_of_getElem? hj')
  obtain ⟨⟨cur',g1,g2⟩,g3,g4,g5⟩:=h
  exact ⟨⟨cur',by rw [ho c (by simp) hcb];exact g1,FR.mono hk (fun _ h=>h) _ _ g2⟩,g3,g4,BR.set_ hk h1 h2 h3 g5 hj' hn.2 (fun d hd=>ho d (by simp [hd]))⟩
 | [],_::_,_,h,_,_,_=>by simp [BR] at h
 | _::_,[],_,h,_,_,_=>by simp [BR] at h
theorem r_typeInfo {t:Nat} {i:TypeInfo} (h:P.info? t=some i):(typeInfo t).run P w=.ok i w:=by simp [typeInfo,h]
theorem r_sizeOf {t s:Nat} (h:sizeC P t=some s):(sizeOf t).run P w=.ok s w:=by
 simp only [sizeC,Option.map_eq_some_iff] at h
 obtain ⟨i,hi,rfl⟩:=h
 simp [sizeOf,r_typeInfo hi]
theorem r_isAgg {t:Nat} {g:Bool} (h:aggC P t=some g):(isAgg t).run P w=.ok g w:=by
 simp only [aggC,Option.map_eq_some_iff] at h
 obtain ⟨d,hd,rfl⟩:=h
 simp only [isAgg,Sem.run_bind,run_underlying hd,Result.andThen_ok]
 cases d<;>rfl
theorem r_zero {t:Nat} {zs:List Value} (h:zeroC P t=some zs):∃ z,(zeroValue t).run P w=.ok z w∧z.cells.toList=zs∧zs.all plain=true:=by
 obtain ⟨i,z,hi,hz,h1,h2⟩:=zeroC_some h
 exact ⟨z,by simp [zeroValue,r_typeInfo hi,hz],h1,h2⟩
theorem r_slice {t e:Nat} (h:elemC P t=some e):P.underlying t=some (.slice e):=by
 unfold elemC at h
 split at h
 ·cases h;assumption
 ·cases h
theorem heap_cell {b:Nat} {cur:Array Value} {e:Nat} {fz:Nat×Nat} (h:w.heap[b]?=some (.cells cur e fz)) (j:Nat):w.cell? ⟨b,j,none⟩=cur[j]?:=by simp [World.cell?,h]
theorem add_lit (b o n:Nat):Addr.add ⟨b,o,none⟩ n=⟨b,o+n,none⟩:=Addr.add_lit b o n
theorem good_box (hm:Mem w U ι ob) {dst:Option Nat} {x:V} {u:Value} {cs:List L} {e:Nat} {r:Res} (hx:VR w U ι ob x u) (hc:x.cells=some cs)
  (hr:(fresh dst (.box cs e) fun k=>.one (.ptr k 0)).run ob=some r):Good P w U ι ob (Instr.box e u) r:=by
 have hl:=(VR.cells hx hc).1
 refine good_fresh hm hr (u:=.pointer (some ⟨w.heap.size,0,none⟩)) (obj:=.cells u.cells e) (c:=0) (by simp [Instr.box,newVar,newRow]) rfl ?_ ?_
 ·intro k ι' ob' _ hι e'
  exact ⟨u.cells,by rw [hι];exact heap_alloc_new w _,LF.evo e' _ _ hl,by rw [hι];intro h;exact absurd (hm.lt _ h) (by simp)⟩
 ·intro k ι' ob' ho hι
  simp only [VR,LR]
  exact ⟨cs,e,ho,by rw [hι]⟩
theorem good_alloc (hm:Mem w U ι ob) {dst:Option Nat} {zs:List Value} {e:Nat} {r:Res} (hz:zeroC P e=some zs)
  (hr:(fresh dst (.box (litsL zs) e) fun k=>.one (.ptr k 0)).run ob=some r):Good P w U ι ob (Instr.alloc e true (.tuple #[])) r:=by
 obtain ⟨z,h1,h2,h3⟩:=r_zero (w:=w) hz
 refine good_fresh hm hr (u:=.pointer (some ⟨w.heap.size,0,none⟩)) (obj:=.cells z.cells e) (c:=0) (by simp [Instr.alloc,h1,newVar,newRow]) rfl ?_ ?_
 ·intro k ι' ob' _ hι e'
  exact ⟨z.cells,by rw [hι];exact heap_alloc_new w _,by rw [h2];exact litsL_LF h3,by rw [hι];intro h;exact absurd (hm.lt _ h) (by simp)⟩
 ·intro k ι' ob' ho hι
  simp only [VR,LR]
  exact ⟨_,e,ho,by rw [hι]⟩
theorem getCells_ok {g:Bool} {s off:Nat} {cells:List L} {cur:List Value} {v:V} (h:getCells g s off cells=some v) (hl:LF w U ι ob cells (cur.take cells.length)) (hcl:cells.length≤cur.length)
  {b:Nat} {e:Nat} {fz:Nat×Nat} {o:Nat} {arr:Array Value} (hb:w.heap[b]?=some (.cells arr e fz)) (ho:∀ j u,cur[j]?=some u→arr[o+j]?=some u) {t:Nat} (ha:aggC P t=some g) (hs:sizeC P t=some s) :
  ∃ u,(loadVar t ⟨b,o+off,none⟩).run P w=.ok u w∧VR w U ι ob v u:=by
 unfold getCells at h
 cases g with
 | true =>
  simp only [if_true] at h
  split at h
  ·rename_i hle
   cases h
   have hll:((cur.drop off).take s).length=s:=by simp;omega
   have hrun:=run_loadCells_list (P:=P) w ⟨b,o+off,none⟩ ((cur.drop off).take s) (fun j u hu=>by
    rw [add_lit,heap_cell hb]
    rw [List.getElem?_take] at hu
    split at hu
    ·rw [List.getElem?_drop] at hu
     rw [Nat.add_assoc]
     exact ho _ u hu
    ·cases hu)
   rw [hll] at hrun
   refine ⟨.agg ((cur.drop off).take s).toArray,by simp [loadVar,r_isAgg ha,r_sizeOf hs,hrun],?_⟩
   simp only [VR]
   refine ⟨_,rfl,?_⟩
   have:=(hl.drop off).take s
   simpa [List.drop_take,List.take_take,show min s (cells.length - off)=s by omega] using this
  ·cases h
 | false =>
  simp only [Bool.false_eq_true,if_false,Option.map_eq_some_iff] at h
  obtain ⟨x,hx,rfl⟩:=h
  obtain ⟨u,hu,hr⟩:=hl.at_ hx
  have hlt:off < cells.length:=(List.getElem?_eq_some_iff.1 hx).1
  rw [List.getElem?_take,if_pos hlt] at hu
  refine ⟨u,by simp [loadVar,r_isAgg ha,heap_cell hb,ho off u hu],?_⟩
  simpa only [VR] using hr
theorem row_LF {r:List D} {vs:List Value} (h:FR w U r vs):LF w U ι ob (r.map .d) vs:=by
 induction r generalizing vs with
 | nil=>simpa [LF,FR] using h
 | cons x r ih=>simp only [FR] at h;obtain ⟨v,vs',rfl,h1,h2⟩:=h;simp only [List.map_cons,LF];exact ⟨v,vs',rfl,by simpa only [LR] using h1,ih h2⟩
theorem row_load {r:List D} {off s:Nat} {g:Bool} {v:V} (h:getCells g s off (r.map .d)=some v) {b o:Nat} (hc:CR w U b o r) {t:Nat} (ha:aggC P t=some g) (hs:sizeC P t=some s) :
  ∃ u,(loadVar t ⟨b,o+off,none⟩).run P w=.ok u w∧VR w U ι ob v u:=by
 obtain ⟨vs,h1,h2⟩:=CR_iff.1 hc
 have hl:LF w U ι ob (r.map .d) vs:=row_LF h1
 unfold getCells at h
 cases g with
 | true =>
  simp only [if_true,List.length_map] at h
  split at h
  ·rename_i hle
   cases h
   have hvl:=h1.len
   have hll:((vs.drop off).take s).length=s:=by simp;omega
   have hrun:=run_loadCells_list (P:=P) w ⟨b,o+off,none⟩ ((vs.drop off).take s) (fun j u hu=>by
    rw [add_lit]
    rw [List.getElem?_take] at hu
    split at hu
    ·rw [List.getElem?_drop] at hu
     rw [Nat.add_assoc]
     exact h2 _ u hu
    ·cases hu)
   rw [hll] at hrun
   refine ⟨.agg ((vs.drop off).take s).toArray,by simp [loadVar,r_isAgg ha,r_sizeOf hs,hrun],?_⟩
   simp only [VR]
   exact ⟨_,rfl,(hl.drop off).take s⟩
  ·cases h
 | false =>
  simp only [Bool.false_eq_true,if_false,Option.map_eq_some_iff] at h
  obtain ⟨x,hx,rfl⟩:=h
  obtain ⟨u,hu,hr⟩:=hl.at_ hx
  refine ⟨u,by simp [loadVar,r_isAgg ha,h2 off u hu],?_⟩
  simpa only [VR] using hr
theorem pureR_run {o:Option V} {r:Res} (h:(pureR o).run ob=some r):∃ v,o=some v∧r=(v,[]):=by
 cases o with
 | none=>simp [pureR,Q.opt,Q.bind,Q.run] at h
 | some v=>simp [pureR,Q.opt,Q.bind,Q.run] at h;exact ⟨v,rfl,h.symm⟩
theorem guard_run {α:Type} {b:Bool} {q:Q α} {r:α} (h:(Q.guard b q).run ob=some r):b=true∧q.run ob=some r:=by
 rw [Q.run_guard] at h
 split at h
 ·exact ⟨‹_›,h⟩
 ·cases h
theorem opt_bind_run {α β:Type} {o:Option α} {f:α→Q β} {r:β} (h:((Q.opt o).bind f).run ob=some r):∃ a,o=some a∧(f a).run ob=some r:=by
 rw [Q.run_bind,Q.run_opt,Option.bind_eq_some_iff] at h
 exact h
theorem bind_run {α β:Type} {q:Q α} {f:α→Q β} {r:β} (h:(q.bind f).run ob=some r):∃ a,q.run ob=some a∧(f a).run ob=some r:=by
 rw [Q.run_bind,Option.bind_eq_some_iff] at h
 exact h
theorem load_ok (hm:Mem w U ι ob) {x:V} {u:Value} {g:Bool} {s t:Nat} {r:Res} (hx:VR w U ι ob x u) (ha:aggC P t=some g) (hs:sizeC P t=some s)
  (hr:(loadQ g s x).run ob=some r):∃ (a:Addr) (u':Value),u=.pointer (some a)∧(loadVar t a).run P w=.ok u' w∧VR w U ι ob r.1 u'∧r.2=[]:=by
 unfold loadQ at hr
 split at hr
 ·rename_i k off
  simp only [Q.run] at hr
  split at hr
  ·rename_i cells e hk
   obtain ⟨v,hv,rfl⟩:=pureR_run hr
   simp only [VR,LR] at hx
   obtain ⟨_,_,_,rfl⟩:=hx
   obtain ⟨cur,h1,h2,h3⟩:=hm.obj k _ hk
   have hcl:=h2.len
   obtain ⟨u,h4,h5⟩:=getCells_ok (P:=P) hv (cur:=cur.toList) (by rw [List.take_of_length_le (by omega)];exact h2) (by omega) h1 (o:=0) (fun j u hu=>by simpa using hu) ha hs
   rw [Nat.zero_add] at h4
   exact ⟨_,u,rfl,h4,h5,rfl⟩
  ·simp [Q.run] at hr
 ·rename_i k i off c
  simp only [Q.run] at hr
  split at hr
  ·rename_i rows sz e own hk
   obtain ⟨hc,hr⟩:=guard_run hr
   obtain ⟨row,hrow,hr⟩:=opt_bind_run hr
   obtain ⟨v,hv,rfl⟩:=pureR_run hr
   simp only [VR,LR] at hx
   obtain ⟨rows',size',_,_,hk',hcl,h0,_⟩:=hx
   rw [hk] at hk'
   cases hk'
   obtain ⟨h0,rfl⟩:=h0 (by simpa using hc)
   obtain ⟨cur,h1,h2,h3,h4,h5,h6⟩:=hm.obj k _ hk
   have hcr:=(h5.at_ hrow).2
   obtain ⟨u,h7,h8⟩:=row_load (P:=P) hv hcr ha hs
   rw [Nat.zero_add] at h7
   exact ⟨_,u,rfl,h7,h8,rfl⟩
  ·simp [Q.run] at hr
 ·rename_i row off
  obtain ⟨v,hv,rfl⟩:=pureR_run hr
  simp only [VR,LR,DR] at hx
  obtain ⟨b,o,rfl,hu,hc⟩:=hx
  obtain ⟨u,h7,h8⟩:=row_load (P:=P) hv hc ha hs
  exact ⟨_,u,rfl,h7,h8,rfl⟩
 ·rename_i k j off
  simp only [Q.run] at hr
  split at hr
  ·rename_i keys rows sz e hk
   obtain ⟨row,hrow,hr⟩:=opt_bind_run hr
   obtain ⟨v,hv,rfl⟩:=pureR_run hr
   simp only [VR,LR] at hx
   obtain ⟨_,b,hb,rfl⟩:=hx
   obtain ⟨es,clock,_,_,h1,_⟩:=hm.obj k _ hk
   obtain ⟨row',cur,h2,h3,h4,_⟩:=h1.at_ hb
   rw [hrow] at h2
   cases h2
   obtain ⟨u,h7,h8⟩:=row_load (P:=P) (b:=b) (o:=0) hv (CR_iff.2 ⟨_,h4,fun j u hu=>by rw [heap_cell h3];simpa using hu⟩) ha hs
   rw [Nat.zero_add] at h7
   exact ⟨_,u,rfl,h7,h8,rfl⟩
  ·simp [Q.run] at hr
 ·simp [Q.run] at hr
theorem ds_of_frzs {xs:List L} {ds:List D}:(frzs xs).run ob=some (ds,[])→xs=ds.map .d:=by
 induction xs generalizing ds with
 | nil=>intro h;simp [frzs,Q.run] at h;simp [←h]
 | cons x xs ih =>
  intro h
  simp only [frzs] at h
  obtain ⟨⟨d,u1⟩,h1,h⟩:=bind_run h
  obtain ⟨⟨ds',u2⟩,h2,h⟩:=bind_run h
  simp only [Q.run,Option.some.injEq,Prod.mk.injEq,List.append_eq_nil_iff] at h
  obtain ⟨rfl,rfl,rfl⟩:=h
  have:=ih h2
  subst this
  cases x with
  | d x=>simp [frz,Q.run] at h1;subst h1;rfl
  | slk k off n c =>
   simp only [frz,Q.run] at h1
   split at h1
   ·obtain ⟨_,h1⟩:=guard_run h1;simp [Q.run] at h1
   ·simp [Q.run] at h1
  | pa=>simp [frz,Q.run] at h1
  | ptr=>simp [frz,Q.run] at h1
  | fn=>simp [frz,Q.run] at h1
  | mk=>simp only [frz,Q.run] at h1;split at h1<;>simp [Q.run] at h1
  | mq=>simp [frz,Q.run] at h1
  | pb=>simp [frz,Q.run] at h1
  | sln k n =>
   simp only [frz,Q.run] at h1
   split at h1
   ·obtain ⟨_,h1⟩:=guard_run h1;simp [Q.run] at h1
   ·obtain ⟨_,h1⟩:=guard_run h1;simp [Q.run] at h1
   ·simp [Q.run] at h1
  | undef=>simp [frz,Q.run] at h1
theorem LF_FR {ds:List D} {vs:List Value} (h:LF w U ι ob (ds.map .d) vs):FR w U ds vs:=by
 induction ds generalizing vs with
 | nil=>simpa [LF,FR] using h
 | cons d ds ih=>simp only [List.map_cons,LF,LR] at h;obtain ⟨v,vs',rfl,h1,h2⟩:=h;simp only [FR];exact ⟨v,vs',rfl,h1,ih h2⟩
theorem good_load (hm:Mem w U ι ob) {x:V} {u:Value} {g:Bool} {s t:Nat} {r:Res} (hx:VR w U ι ob x u) (ha:aggC P t=some g) (hs:sizeC P t=some s)
  (hr:(loadQ g s x).run ob=some r):Good P w U ι ob (Instr.loadAt t u) r:=by
 obtain ⟨a,u',rfl,h1,h2,h3⟩:=load_ok (P:=P) hm hx ha hs hr
 obtain ⟨v,us⟩:=r
 simp only at h3
 subst h3
 exact good_pure hm (by simpa [Instr.loadAt,Instr.sureAddr] using h1) h2
end Go.VE
namespace Go.VE
open Go.RowKit
variable {P:Program} {w:World} {U:Nat→Prop} {ι:Pl} {ob:Ob}
def GoodU (P:Program) (w:World) (U:Nat→Prop) (ι:Pl) (ob:Ob) (s:Sem Unit) (r:Res):Prop :=
 ∃ w' U' ι',s.run P w=.ok () w'∧Mem w' U' ι' (putO ob r.2)∧Evo w U ι ob w' U' ι' (putO ob r.2)∧r.1=.one .undef
theorem splice_get {α:Type} (xs ys:List α) (off:Nat) (h:off+ys.length≤xs.length) (j:Nat) :
  (xs.take off++ys++xs.drop (off+ys.length))[j]?=if j < off then xs[j]? else if j < off+ys.length then ys[j - off]? else xs[j]?:=by
 rw [List.append_assoc,List.getElem?_append]
 simp only [List.length_take,show min off xs.length=off by omega]
 split
 ·rw [List.getElem?_take,if_pos (by omega)]
 ·rw [List.getElem?_append]
  split
  ·rw [if_pos (by omega)]
  ·rw [if_neg (by omega),List.getElem?_drop]
   congr 1
   omega
theorem LF.splice {xs ys:List L} {vs us:List Value} (h:LF w U ι ob xs vs) (k:LF w U ι ob ys us) (off:Nat) :
  LF w U ι ob (xs.take off++ys++xs.drop (off+ys.length)) (vs.take off++us++vs.drop (off+us.length)):=by
 rw [k.len]
 exact ((h.take off).append k).append (h.drop _)
theorem setRow_size (w:World) (g:Nat) (cs:Array Value):(w.setRow g cs).heap.size=w.heap.size:=by simp [World.setRow]
theorem good_store (hm:Mem w U ι ob) {x:V} {u y:Value} {v:V} {cs:List L} {t:Nat} {r:Res} (hx:VR w U ι ob x u) (hv:VR w U ι ob v y) (hc:v.cells=some cs) (hs:sizeC P t=some cs.length)
  (hr:(storeQ x cs).run ob=some r):GoodU P w U ι ob (Instr.storeAt t u y) r:=by
 obtain ⟨hl,h1⟩:=VR.cells hv hc
 have hsz:y.cells.size=cs.length:=by have:=hl.len;simpa using this
 have hpre:∀ a,(storeVar t a y).run P w=(storeCells a y.cells.toList).run P w:=fun a=>by
  simp [storeVar,hsz,r_sizeOf hs]
 unfold storeQ at hr
 split at hr
 ·rename_i cs0 k off
  simp only [Q.run] at hr
  split at hr
  ·rename_i cells e hk
   obtain ⟨hle,hr⟩:=guard_run hr
   simp only [Q.run,Option.some.injEq] at hr
   subst hr
   simp only [VR,LR] at hx
   obtain ⟨_,_,_,rfl⟩:=hx
   obtain ⟨cur,h2,h3,h4⟩:=hm.obj k _ hk
   have hle':off+cs.length≤cells.length:=by simpa using hle
   have hcl:=h3.len
   simp only [Array.length_toList] at hcl
   have hrun:=run_storeCells_at P (ι k).1 off e y.cells.toList 0 cur w h2 (by simp [hsz];omega) h1
   simp only [Nat.add_zero] at hrun
   obtain ⟨m1,m2⟩:=mem_step (w':=w.setRow (ι k).1 (cur.toList.take off++y.cells.toList++cur.toList.drop (off+y.cells.toList.length)).toArray) hm k
    (.box (cells.take off++cs++cells.drop (off+cs.length)) e) ((ι k).1,(ι k).2) rfl rfl rfl (by rw [setRow_size];exact Nat.le_refl _)
    (fun b _ hb=>setRow_other _ _ _ _ (hb.resolve_left (by simp [hk]))) (fun o ho=>by rw [hk] at ho;cases ho;exact ⟨rfl,rfl,rfl⟩) (.inr ⟨by simp [hk],rfl⟩) rfl
    (fun e'=>by
     refine ⟨_,by rw [updP_same];exact setRow_heap _ _ _ _ _ _ h2,?_,by rw [updP_same];exact h4⟩
     simp only []
     exact LF.evo e' _ _ (h3.splice hl off))
   refine ⟨_,U,_,by simpa [Instr.storeAt,Instr.sureAddr,hpre] using hrun,m1,m2,rfl⟩
  ·simp [Q.run] at hr
 ·rename_i cs0 k i off c
  simp only [Q.run] at hr
  split at hr
  ·rename_i rows sz e own hk
   obtain ⟨hg,hr⟩:=guard_run hr
   simp only [Bool.and_eq_true,decide_eq_true_eq] at hg
   obtain ⟨hown,hcc⟩:=hg
   subst hown
   obtain ⟨row,hrow,hr⟩:=opt_bind_run hr
   obtain ⟨⟨ds,us⟩,hfr,hr⟩:=bind_run hr
   obtain ⟨hg2,hr⟩:=guard_run hr
   simp only [Bool.and_eq_true,decide_eq_true_eq,List.isEmpty_iff] at hg2
   obtain ⟨hle,rfl⟩:=hg2
   simp only [Q.run,Option.some.injEq] at hr
   subst hr
   have hcs:=ds_of_frzs hfr
   subst hcs
   simp only [VR,LR] at hx
   obtain ⟨rows',size',_,_,hk',_,h0,_⟩:=hx
   rw [hk] at hk'
   cases hk'
   obtain ⟨hic,rfl⟩:=h0 hcc
   obtain ⟨cur,h2,h3,h4,h5,h6,h7⟩:=hm.obj k _ hk
   have hrl:=(h6.at_ hrow).1
   have hi:i < rows.length:=(List.getElem?_eq_some_iff.1 hrow).1
   have hisz:i*sz+sz≤cur.size:=by
    rw [h5]
    calc i*sz+sz=(i+1)*sz:=by rw [Nat.add_mul];omega
     _≤(ι k).2*sz:=Nat.mul_le_mul_right _ (by omega)
   have hyl:y.cells.toList.length=ds.length:=by simpa using hsz
   have hrun:=run_storeCells_at P (ι k).1 (i*sz+off) e y.cells.toList 0 cur w h2 (by rw [hyl];omega) h1
   simp only [Nat.add_zero] at hrun
   have hsz':(cur.toList.take (i*sz+off)++y.cells.toList++cur.toList.drop (i*sz+off+y.cells.toList.length)).length=cur.size:=by
    simp only [List.length_append,List.length_take,List.length_drop,Array.length_toList,hyl];omega
   have hFR:FR w U ds y.cells.toList:=by
    exact LF_FR hl
   obtain ⟨m1,m2⟩:=mem_step (w':=w.setRow (ι k).1 (cur.toList.take (i*sz+off)++y.cells.toList++cur.toList.drop (i*sz+off+y.cells.toList.length)).toArray) hm k
    (.arr (rows.set i (row.take off++ds++row.drop (off+ds.length))) sz e true) ((ι k).1,(ι k).2) rfl rfl rfl (by rw [setRow_size];exact Nat.le_refl _)
    (fun b _ hb=>setRow_other _ _ _ _ (hb.resolve_left (by simp [hk]))) (fun o ho=>by rw [hk] at ho;cases ho;exact ⟨rfl,rfl,rfl,by simp,fun _=>rfl⟩) (.inr ⟨by simp [hk],rfl⟩) rfl
    (fun e'=>by
     refine ⟨_,by rw [updP_same];exact setRow_heap _ _ _ _ _ _ h2,by rw [updP_same];simpa using h3,by rw [updP_same];exact h4,by rw [updP_same];simpa [h5] using hsz',?_,by rw [updP_same];exact h7⟩
     rw [updP_same]
     refine RR.mk fun j r hj=>?_
     have hcell:∀ q,(w.setRow (ι k).1 (cur.toList.take (i*sz+off)++y.cells.toList++cur.toList.drop (i*sz+off+y.cells.toList.length)).toArray).cell? ⟨(ι k).1,q,none⟩ =
       if q < i*sz+off then cur[q]? else if q < i*sz+off+ds.length then y.cells.toList[q - (i*sz+off)]? else cur[q]?:=fun q=>by
      rw [heap_cell (setRow_heap _ _ _ _ _ _ h2)]
      have:=splice_get cur.toList y.cells.toList (i*sz+off) (by rw [hyl];simp;omega) q
      simp only [List.getElem?_toArray]
      rw [this,hyl]
      simp
     rw [List.getElem?_set] at hj
     have old:∀ {j:Nat} {r:List D},rows[j]?=some r→j≠i→r.length=sz∧CR (w.setRow (ι k).1 (cur.toList.take (i*sz+off)++y.cells.toList++cur.toList.drop (i*sz+off+y.cells.toList.length)).toArray) U (ι k).1 (0+j*sz) r:=by
      intro j r hj hne
      obtain ⟨hl2,hc2⟩:=h6.at_ hj
      refine ⟨hl2,CR.mk fun q x hq=>?_⟩
      obtain ⟨u,hu,hd⟩:=hc2.at_ hq
      have hql:q < sz:=by rw [←hl2];exact (List.getElem?_eq_some_iff.1 hq).1
      refine ⟨u,?_,DR.mono e'.kept e'.sub x u hd⟩
      rw [heap_cell h2] at hu
      rw [hcell]
      have:0+j*sz+q < i*sz∨i*sz+sz≤0+j*sz+q:=by
       rcases Nat.lt_or_gt_of_ne hne with h | h
       ·left
        have:(j+1)*sz≤i*sz:=Nat.mul_le_mul_right _ h
        rw [Nat.add_mul] at this;omega
       ·right
        have:(i+1)*sz≤j*sz:=Nat.mul_le_mul_right _ h
        rw [Nat.add_mul] at this;omega
      split
      ·exact hu
      ·rw [if_neg (by omega)];exact hu
     split at hj
     ·rename_i hij
      subst hij
      try rw [if_pos hi] at hj
      cases hj
      obtain ⟨hl2,hc2⟩:=h6.at_ hrow
      refine ⟨by simp only [List.length_append,List.length_take,List.length_drop];omega,CR.mk fun q x hq=>?_⟩
      rw [splice_get _ _ _ hle] at hq
      rw [hcell]
      split at hq
      ·rename_i hlt
       obtain ⟨u,hu,hd⟩:=hc2.at_ hq
       rw [heap_cell h2] at hu
       exact ⟨u,by rw [if_pos (by omega)];exact hu,DR.mono e'.kept e'.sub x u hd⟩
      ·split at hq
       ·obtain ⟨u,hu,hd⟩:=hFR.at_ hq
        refine ⟨u,?_,DR.mono e'.kept e'.sub x u hd⟩
        rw [if_neg (by omega),if_pos (by omega)]
        rw [←hu];congr 1;omega
       ·obtain ⟨u,hu,hd⟩:=hc2.at_ hq
        rw [heap_cell h2] at hu
        exact ⟨u,by rw [if_neg (by omega),if_neg (by omega)];exact hu,DR.mono e'.kept e'.sub x u hd⟩
     ·rename_i hij
      exact old hj (fun e=>hij e.symm))
   refine ⟨_,U,_,by simpa [Instr.storeAt,Instr.sureAddr,hpre] using hrun,m1,m2,rfl⟩
  ·simp [Q.run] at hr
 ·rename_i cs0 k j off
  simp only [Q.run] at hr
  split at hr
  ·rename_i keys rows sz e hk
   obtain ⟨row,hrow,hr⟩:=opt_bind_run hr
   obtain ⟨⟨ds,us⟩,hfr,hr⟩:=bind_run hr
   obtain ⟨hg2,hr⟩:=guard_run hr
   simp only [Bool.and_eq_true,decide_eq_true_eq,List.isEmpty_iff] at hg2
   obtain ⟨hle,rfl⟩:=hg2
   simp only [Q.run,Option.some.injEq] at hr
   subst hr
   have hcs:=ds_of_frzs hfr
   subst hcs
   have hFR:FR w U ds y.cells.toList:=LF_FR hl
   simp only [VR,LR] at hx
   obtain ⟨_,b,hb,rfl⟩:=hx
   obtain ⟨es,clock,g1,g2,g3,g4,g5⟩:=hm.obj k _ hk
   obtain ⟨row',cur,g6,g7,g8,g9,_⟩:=g3.at_ hb
   rw [hrow] at g6
   cases g6
   have hcl:=g8.len
   simp only [Array.length_toList] at hcl
   have hyl:y.cells.toList.length=ds.length:=by simpa using hsz
   have hrun:=run_storeCells_at P b off e y.cells.toList 0 cur w g7 (by rw [hyl];omega) h1
   simp only [Nat.add_zero] at hrun
   have hbf:b∈(ι k).foot:=by simp [Pt.foot,List.mem_of_getElem? hb]
   have hb1:(ι k).1≠b:=by
    simp only [Pt.foot,List.nodup_cons] at g5
    exact fun e=>g5.1 (e ▸ List.mem_of_getElem? hb)
   obtain ⟨m1,m2⟩:=mem_stepA (w':=w.setRow b (cur.toList.take off++y.cells.toList++cur.toList.drop (off+y.cells.toList.length)).toArray) hm k
    (.am keys (rows.set j (row.take off++ds++row.drop (off+ds.length))) sz e) (ι k) rfl rfl rfl (by rw [setRow_size];exact Nat.le_refl _)
    (fun c _ hc=>setRow_other _ _ _ _ (fun e=>(hc.resolve_left (by simp [hk])) (e ▸ hbf))) (fun o ho=>by rw [hk] at ho;cases ho;exact ⟨rfl,rfl,rfl,rfl,List.prefix_refl _⟩) (fun c hc=>.inr ⟨by simp [hk],hc⟩) (by simp [O.isAm]) rfl
    (fun e'=>by
     refine ⟨es,clock,by rw [updP_same,setRow_other _ _ _ _ hb1];exact g1,by rw [updP_same];exact g2,?_,by rw [updP_same];exact g4,by rw [updP_same];exact g5⟩
     rw [updP_same]
     refine BR.set_ e'.kept (setRow_heap _ _ _ _ _ _ g7) ?_ (by simp only [List.length_append,List.length_take,List.length_drop];omega) g3 hb (by simp only [Pt.foot,List.nodup_cons] at g5;exact g5.2) (fun c _ hc=>setRow_other _ _ _ _ hc)
     simp only []
     rw [show off+ds.length=off+y.cells.toList.length by rw [hyl]]
     exact ((FR.mono e'.kept e'.sub _ _ (g8.take off)).append (FR.mono e'.kept e'.sub _ _ hFR)).append (FR.mono e'.kept e'.sub _ _ (g8.drop _)))
   refine ⟨_,U,_,by simpa [Instr.storeAt,Instr.sureAddr,hpre] using hrun,m1,m2,rfl⟩
  ·simp [Q.run] at hr
 ·simp [Q.run] at hr
theorem fold_set (cs:List Value):∀ (vs:List Value) (off i:Nat) (arr:Array Value),arr.toList=cs→off+i+vs.length≤cs.length →
  ((vs.zipIdx i).foldl (fun a (p:Value×Nat)=>a.setIfInBounds (off+p.2) p.1) arr).toList=cs.take (off+i)++vs++cs.drop (off+i+vs.length):=by
 intro vs
 induction vs generalizing cs with
 | nil=>intro off i arr h _;simp [h]
 | cons v vs ih =>
  intro off i arr h hl
  simp only [List.length_cons] at hl
  simp only [List.zipIdx_cons,List.foldl_cons]
  rw [ih (cs.set (off+i) v) off (i+1) (arr.setIfInBounds (off+i) v) (by simp [h]) (by simp;omega)]
  apply List.ext_getElem?
  intro j
  have e1:=splice_get (cs.set (off+i) v) vs (off+(i+1)) (by simp;omega) j
  have e2:=splice_get cs (v::vs) (off+i) (by simp;omega) j
  rw [e1,e2]
  simp only [List.length_cons]
  by_cases h1:j < off+i
  ·rw [if_pos (by omega),if_pos h1,List.getElem?_set_ne (by omega)]
  ·by_cases h2:j=off+i
   ·subst h2
    rw [if_pos (by omega),if_neg (by omega),if_pos (by omega),List.getElem?_set_self (by omega)]
    simp
   ·rw [if_neg (by omega),if_neg h1]
    by_cases h3:j < off+(i+1)+vs.length
    ·rw [if_pos h3,if_pos (by omega)]
     rw [show j - (off+i)=(j - (off+(i+1)))+1 by omega]
     simp
    ·rw [if_neg h3,if_neg (by omega),List.getElem?_set_ne (by omega)]
theorem fill_ok {place:Nat→Option (Nat×Nat)}:∀ {parts:List (Nat×V)} {parts':List (Nat×Value)} {cells cs':List L} {arr:Array Value},
  fillL place cells parts=some cs'→LF w U ι ob cells arr.toList→parts.length=parts'.length →
  (∀ (j:Nat) (p:Nat×V) (p':Nat×Value),parts[j]?=some p→parts'[j]?=some p'→p.1=p'.1∧VR w U ι ob p.2 p'.2) →
  ∃ arr',Instr.fill place arr parts'=some arr'∧LF w U ι ob cs' arr'.toList
 | [],[],cells,cs',arr,h,hl,_,_=>by simp [fillL] at h;subst h;exact ⟨arr,rfl,hl⟩
 | [],_::_,_,_,_,_,_,hn,_=>by simp at hn
 | _::_,[],_,_,_,_,_,hn,_=>by simp at hn
 | (i,v)::rest,(i',v')::rest',cells,cs',arr,h,hl,hn,hp=>by
  obtain ⟨hi,hv⟩:=hp 0 _ _ rfl rfl
  simp only at hi hv
  subst hi
  simp only [fillL] at h
  split at h
  ·rename_i off size cs hpl hcs
   split at h
   ·rename_i hsz
    obtain ⟨rfl,hsz⟩:=hsz
    obtain ⟨hvl,_⟩:=VR.cells hv hcs
    have hvs:v'.cells.size=cs.length:=by have:=hvl.len;simpa using this
    have hal:arr.size=cells.length:=by have:=hl.len;simpa using this
    have hfold:=fold_set arr.toList v'.cells.toList off 0 arr rfl (by simp [hvs,hal];omega)
    simp only [Nat.add_zero] at hfold
    have hzip:v'.cells.zipIdx.foldl (fun cs (x:Value×Nat)=>cs.setIfInBounds (off+x.2) x.1) arr=(v'.cells.toList.zipIdx 0).foldl (fun a (p:Value×Nat)=>a.setIfInBounds (off+p.2) p.1) arr:=by
     rw [←Array.foldl_toList,Array.toList_zipIdx]
    obtain ⟨arr',h1,h2⟩:=fill_ok (arr:=v'.cells.zipIdx.foldl (fun cs (x:Value×Nat)=>cs.setIfInBounds (off+x.2) x.1) arr) h (by
      rw [hzip,hfold]
      exact hl.splice hvl off) (by simpa using hn) (fun j p p' h1 h2=>hp (j+1) p p' (by simpa using h1) (by simpa using h2))
    refine ⟨arr',?_,h2⟩
    simp only [Instr.fill,hpl]
    rw [if_neg (by simp [hvs,hal];omega)]
    exact h1
   ·cases h
  ·cases h
theorem run_list_mapM {α β:Type} {f:α→Sem β} {g:α→β}:∀ {l:List α},(∀ a∈l,(f a).run P w=.ok (g a) w)→(l.mapM f).run P w=.ok (l.map g) w
 | [],_=>by simp
 | a::l,h=>by
  have ih:=run_list_mapM (l:=l) (fun x hx=>h x (by simp [hx]))
  simp [List.mapM_cons,h a (by simp),ih]
theorem good_build (hm:Mem w U ι ob) {t:Nat} {zs:List Value} {parts:List (Nat×V)} {parts':Array (Nat×Value)} {r:Res} (hz:zeroC P t=some zs) (ha:aggC P t=some true) (hlay:layC P t=true)
  (hn:parts.length=parts'.size) (hp:∀ (j:Nat) (p:Nat×V) (p':Nat×Value),parts[j]?=some p→parts'[j]?=some p'→p.1=p'.1∧VR w U ι ob p.2 p'.2)
  (hr:(pureR ((fillL (placeC P t) (litsL zs) parts).map .agg)).run ob=some r):Good P w U ι ob (Instr.build t parts') r:=by
 obtain ⟨v,hv,rfl⟩:=pureR_run hr
 simp only [Option.map_eq_some_iff] at hv
 obtain ⟨cs',hf,rfl⟩:=hv
 obtain ⟨z,h1,h2,h3⟩:=r_zero (w:=w) hz
 have hl:LF w U ι ob (litsL zs) z.cells.toList:=by rw [h2];exact litsL_LF h3
 simp only [aggC,Option.map_eq_some_iff] at ha
 obtain ⟨d,hd,hda⟩:=ha
 have fin:∀ (place:Nat→Option (Nat×Nat)),(∀ i x,placeC P t i=some x→place i=some x)→∃ arr,Instr.fill place z.cells parts'.toList=some arr∧LF w U ι ob cs' arr.toList:=by
  intro place hpl
  have hf':fillL place (litsL zs) parts=some cs':=by
   have mono:∀ {ps:List (Nat×V)} {c c':List L},fillL (placeC P t) c ps=some c'→fillL place c ps=some c':=by
    intro ps
    induction ps with
    | nil=>intro c c' h;simpa [fillL] using h
    | cons q ps ih =>
     obtain ⟨i,v⟩:=q
     intro c c' h
     simp only [fillL] at h ⊢
     split at h
     ·rename_i off size cs h1 h2
      rw [hpl _ _ h1,h2]
      split at h
      ·rename_i hh;simp only [];rw [if_pos hh];exact ih h
      ·cases h
     ·cases h
   exact mono hf
  exact fill_ok hf' hl (by simpa using hn) (fun j p p' a b=>hp j p p' a (by simpa using b))
 cases d with
 | struct fs =>
  have hlay':∀ f∈fs.toList,(sizeC P f.type).isSome=true:=by
   unfold layC at hlay
   rw [hd] at hlay
   exact List.all_eq_true.1 hlay
  have hmap:((fs.mapM fun f=>do pure (f.offset,← sizeOf f.type):Sem (Array (Nat×Nat)))).run P w=.ok (fs.toList.map fun f=>(f.offset,(sizeC P f.type).getD 0)).toArray w:=by
   rw [Array.mapM_eq_mapM_toList,Sem.run_map,run_list_mapM (g:=fun f=>(f.offset,(sizeC P f.type).getD 0))]
   ·rfl
   ·intro f hf
    obtain ⟨s,hs⟩:=Option.isSome_iff_exists.1 (hlay' f hf)
    simp [r_sizeOf hs,hs]
  obtain ⟨arr,hfa,hla⟩:=fin ((fs.toList.map fun f=>(f.offset,(sizeC P f.type).getD 0)).toArray[·]?) (fun i x hx=>by
   simp only [placeC,arrC,hd,fieldC] at hx
   cases hfi:fs[i]? with
   | none=>simp [hfi] at hx
   | some f =>
    have hmem:f∈fs.toList:=by
     have:=Array.mem_of_getElem? hfi
     simpa using this
    obtain ⟨s,hs⟩:=Option.isSome_iff_exists.1 (hlay' f hmem)
    simp only [hfi,hs] at hx
    split at hx
    ·rename_i s' g he hg
     cases he
     split at hx
     ·simp at hx
     ·simp at hx
      subst hx
      simp [hfi,hs]
    ·simp at hx)
  refine good_pure hm (u:=.agg arr) ?_ (by simp only [VR];exact ⟨arr,rfl,hla⟩)
  simp only [Instr.build]
  rw [Sem.run_bind,h1,Result.andThen_ok,Sem.run_bind,run_underlying hd,Result.andThen_ok]
  simp only []
  rw [Sem.run_bind,hmap,Result.andThen_ok]
  simp only [hfa]
  rfl
 | array n e =>
  have hlay':(sizeC P e).isSome=true:=by simpa [layC,hd] using hlay
  ·obtain ⟨s,hs⟩:=Option.isSome_iff_exists.1 hlay'
   obtain ⟨arr,hfa,hla⟩:=fin (fun i=>some (i*s,s)) (fun i x hx=>by
    simp only [placeC,arrC,hd,hs,Option.map_some] at hx
    exact hx)
   refine good_pure hm (u:=.agg arr) ?_ (by simp only [VR];exact ⟨arr,rfl,hla⟩)
   simp [Instr.build,h1,run_underlying hd,r_sizeOf hs,hfa]
 | _=>simp [isAggD] at hda
end Go.VE
namespace Go.VE
open Go.RowKit
variable {P:Program} {w:World} {U:Nat→Prop} {ι:Pl} {ob:Ob}
def SameBut (ob ob1:Ob):Prop:=(∀ k rows size elem own,ob k=some (.arr rows size elem own)→∃ own',ob1 k=some (.arr rows size elem own'))∧(∀ k agg keys vals own,ob k=some (.mp agg keys vals own)→∃ own',ob1 k=some (.mp agg keys vals own'))∧(∀ k,ob k=none→ob1 k=none)
theorem SameBut.refl (ob:Ob):SameBut ob ob:=⟨fun _ _ _ _ own h=>⟨own,h⟩,fun _ _ _ _ own h=>⟨own,h⟩,fun _ h=>h⟩
theorem SameBut.freeze {ob1:Ob} (h:SameBut ob ob1) {k:Nat} {ok:O} (hk:ob k=some ok) (hnb:ok.isBox=false):SameBut ob (put1 ob1 k ok.shut):=by
 refine ⟨?_,?_,?_⟩
 ·intro j r s e o hj
  by_cases hjk:j=k
  ·subst hjk;rw [hk] at hj;cases hj;exact ⟨false,put1_same _ _ _⟩
  ·obtain ⟨o',h'⟩:=h.1 j r s e o hj
   exact ⟨o',by rw [put1_other _ _ hjk];exact h'⟩
 ·intro j agg keys vals o hj
  by_cases hjk:j=k
  ·subst hjk;rw [hk] at hj;cases hj;exact ⟨false,put1_same _ _ _⟩
  ·obtain ⟨o',h'⟩:=h.2.1 j agg keys vals o hj
   exact ⟨o',by rw [put1_other _ _ hjk];exact h'⟩
 ·intro j hj
  have hjk:j≠k:=by rintro rfl;rw [hk] at hj;cases hj
  rw [put1_other _ _ hjk];exact h.2.2 j hj
theorem putO_append (ob:Ob) (u u':List (Nat×O)):putO ob (u++u')=putO (putO ob u) u':=by
 induction u generalizing ob with
 | nil=>rfl
 | cons x u ih=>obtain ⟨k,o⟩:=x;cases o<;>(simp only [List.cons_append,putO];exact ih _)
theorem slk_D (hm:Mem w U ι ob) {k off n c:Nat} {v:Value} (h:LR w U ι ob (.slk k off n c) v) {rows:List (List D)} {size elem:Nat} {own:Bool} (hk:ob k=some (.arr rows size elem own)) (hc:c=rows.length)
  {U':Nat→Prop} (hU:∀ b,U b→U' b) (hb:U' (ι k).1):DR w U' (.sl size ((rows.drop off).take n)) v:=by
 simp only [LR] at h
 obtain ⟨rows',size',elem',own',hk',_,h1,_⟩:=h
 rw [hk] at hk'
 cases hk'
 obtain ⟨h1,rfl⟩:=h1 hc
 obtain ⟨cur,h2,h3,h4,h5,h6,h7⟩:=hm.obj k _ hk
 have hlen:((rows.drop off).take n).length=n:=by simp;omega
 simp only [DR]
 refine ⟨⟨(ι k).1,off*size,none⟩,(ι k).2 - off,by rw [hlen],by rw [hlen];omega,by omega,fun _=>⟨(ι k).1,off*size,rfl,hb,?_⟩⟩
 have:=((h6.drop off).take n)
 rw [Nat.zero_add] at this
 exact RR.mono (fun _ _=>rfl) hU _ rfl _ _ _ this
theorem frzs_ok:∀ {cs:List L} {vs:List Value} {ds:List D} {us:List (Nat×O)} {ob1:Ob} {U1:Nat→Prop},(frzs cs).run ob=some (ds,us)→SameBut ob ob1→Mem w U1 ι ob1→LF w U1 ι ob1 cs vs →
  ∃ U',Mem w U' ι (putO ob1 us)∧Evo w U1 ι ob1 w U' ι (putO ob1 us)∧FR w U' ds vs∧SameBut ob (putO ob1 us)
 | [],vs,ds,us,ob1,U1,h,hs,hm,hl=>by
  simp only [frzs,Q.run,Option.some.injEq,Prod.mk.injEq] at h
  obtain ⟨rfl,rfl⟩:=h
  simp only [LF] at hl
  subst hl
  exact ⟨U1,hm,Evo.refl _ _ _ _,by simp [FR],hs⟩
 | x::xs,vs,ds,us,ob1,U1,h,hs,hm,hl=>by
  simp only [frzs] at h
  obtain ⟨⟨d,u1⟩,h1,h⟩:=bind_run h
  obtain ⟨⟨ds',u2⟩,h2,h⟩:=bind_run h
  simp only [Q.run,Option.some.injEq,Prod.mk.injEq] at h
  obtain ⟨rfl,rfl⟩:=h
  simp only [LF] at hl
  obtain ⟨v,vs',rfl,hv,hl⟩:=hl
  have step:∃ U2,Mem w U2 ι (putO ob1 u1)∧Evo w U1 ι ob1 w U2 ι (putO ob1 u1)∧DR w U2 d v∧SameBut ob (putO ob1 u1):=by
   cases x with
   | d x =>
    simp only [frz,Q.run,Option.some.injEq,Prod.mk.injEq] at h1
    obtain ⟨rfl,rfl⟩:=h1
    exact ⟨U1,hm,Evo.refl _ _ _ _,by simpa only [LR] using hv,hs⟩
   | slk k off n c =>
    simp only [frz,Q.run] at h1
    split at h1
    ·rename_i rows size elem own hk
     obtain ⟨hc,h1⟩:=guard_run h1
     simp only [Q.run,Option.some.injEq,Prod.mk.injEq] at h1
     obtain ⟨rfl,rfl⟩:=h1
     obtain ⟨own',hk1⟩:=hs.1 _ _ _ _ _ hk
     obtain ⟨m1,m2⟩:=mem_freeze hm hk1 rfl
     exact ⟨_,m1,m2,slk_D hm hv hk1 (by simpa using hc) (fun b hb=>.inl hb) (.inr rfl),hs.freeze hk rfl⟩
    ·simp [Q.run] at h1
   | pa=>simp [frz,Q.run] at h1
   | ptr=>simp [frz,Q.run] at h1
   | fn=>simp [frz,Q.run] at h1
   | mk k =>
    simp only [frz,Q.run] at h1
    split at h1
    ·rename_i agg keys vals own hk
     simp only [Q.run,Option.some.injEq,Prod.mk.injEq] at h1
     obtain ⟨rfl,rfl⟩:=h1
     obtain ⟨own',hk1⟩:=hs.2.1 _ _ _ _ _ hk
     obtain ⟨m1,m2⟩:=mem_freeze hm hk1 rfl
     simp only [LR] at hv
     obtain ⟨_,_,_,_,h2,rfl⟩:=hv
     rw [hk1] at h2
     cases h2
     obtain ⟨es,clock,h3,h4,h5⟩:=hm.obj _ _ hk1
     refine ⟨_,m1,m2,?_,hs.freeze hk rfl⟩
     simp only [DR]
     exact ⟨_,es,clock,rfl,.inr rfl,h3,KR.mono m2.kept m2.sub _ _ _ _ h4⟩
    ·simp [Q.run] at h1
   | mq=>simp [frz,Q.run] at h1
   | pb=>simp [frz,Q.run] at h1
   | sln k n =>
    simp only [frz,Q.run] at h1
    split at h1
    ·rename_i hk
     obtain ⟨hc,h1⟩:=guard_run h1
     simp only [Q.run,Option.some.injEq,Prod.mk.injEq] at h1
     obtain ⟨rfl,rfl⟩:=h1
     have h0:n=0:=by simpa using hc
     subst h0
     rw [show putO ob1 [(k,O.nul)]=ob1 from del1_none (hs.2.2 k hk)]
     rw [LR.sln_nil] at hv
     subst hv
     exact ⟨U1,hm,Evo.refl _ _ _ _,by simp [DR,plain],hs⟩
    ·rename_i rows size elem own hk
     obtain ⟨hc,h1⟩:=guard_run h1
     simp only [Q.run,Option.some.injEq,Prod.mk.injEq] at h1
     obtain ⟨rfl,rfl⟩:=h1
     obtain ⟨hc1,hc2⟩:n=rows.length∧0 < n:=by simpa using hc
     obtain ⟨own',hk1⟩:=hs.1 _ _ _ _ _ hk
     obtain ⟨m1,m2⟩:=mem_freeze hm hk1 rfl
     have hD:=slk_D hm ((LR.sln_slk hc2).1 hv) hk1 hc1 (U':=fun b=>U1 b∨b=(ι k).1) (fun b hb=>.inl hb) (.inr rfl)
     rw [List.drop_zero,List.take_of_length_le (by omega)] at hD
     exact ⟨_,m1,m2,hD,hs.freeze hk rfl⟩
    ·simp [Q.run] at h1
   | undef=>simp [frz,Q.run] at h1
  obtain ⟨U2,m1,m2,m3,m4⟩:=step
  obtain ⟨U3,m5,m6,m7,m8⟩:=frzs_ok h2 m4 m1 (LF.evo m2 _ _ hl)
  refine ⟨U3,by rw [putO_append];exact m5,by rw [putO_append];exact m2.trans m6,?_,by rw [putO_append];exact m8⟩
  simp only [FR]
  exact ⟨v,vs',rfl,DR.mono m6.kept m6.sub _ _ m3,m7⟩
theorem FR.mono' {w':World} {U':Nat→Prop} {ob':Ob} {ι':Pl} (e:Evo w U ι ob w' U' ι' ob') {xs:List D} {vs:List Value} (h:FR w U xs vs):FR w' U' xs vs:=FR.mono e.kept e.sub _ _ h
theorem flatten_set {rows:List (List D)} {size i:Nat} {r:List D} (h:∀ r∈rows,r.length=size) (hi:i < rows.length) (hr:r.length=size) :
  (rows.set i r).flatten=rows.flatten.take (i*size)++r++rows.flatten.drop (i*size+size):=by
 induction rows generalizing i with
 | nil=>simp at hi
 | cons x rows ih =>
  have hx:x.length=size:=h x (by simp)
  cases i with
  | zero=>simp [←hx]
  | succ i =>
   have:=ih (fun y hy=>h y (by simp [hy])) (i:=i) (by simpa using hi)
   simp only [List.set_cons_succ,List.flatten_cons,this]
   have e1:(i+1)*size=size+i*size:=by rw [Nat.add_mul];omega
   rw [e1,List.take_append,List.drop_append]
   simp only [hx,List.take_of_length_le (show x.length≤size+i*size by omega),show size+i*size - size=i*size by omega,show size+i*size+size - size=i*size+size by omega,List.drop_of_length_le (show x.length≤size+i*size+size by omega)]
   simp [List.append_assoc]
theorem rowsOf_ok {ρ:Operand→V} {ρ':Operand→Value} {size:Nat}:∀ {parts:List (Nat×Operand)} {rows rows':List (List D)} {us:List (Nat×O)} {ob1:Ob} {U1:Nat→Prop} {arr:Array Value},
  (rowsOf ρ size rows parts).run ob=some (rows',us)→SameBut ob ob1→Mem w U1 ι ob1→(∀ x,VR w U1 ι ob1 (ρ x) (ρ' x))→(∀ r∈rows,r.length=size)→FR w U1 rows.flatten arr.toList →
  ∃ U' arr',Mem w U' ι (putO ob1 us)∧Evo w U1 ι ob1 w U' ι (putO ob1 us)∧Instr.fill (fun i=>some (i*size,size)) arr (parts.map fun p=>(p.1,ρ' p.2))=some arr'∧FR w U' rows'.flatten arr'.toList∧(∀ r∈rows',r.length=size)∧rows'.length=rows.length∧SameBut ob (putO ob1 us)
 | [],rows,rows',us,ob1,U1,arr,h,hs,hm,hρ,hr,hf=>by
  simp only [rowsOf,Q.run,Option.some.injEq,Prod.mk.injEq] at h
  obtain ⟨rfl,rfl⟩:=h
  exact ⟨U1,arr,hm,Evo.refl _ _ _ _,rfl,hf,hr,rfl,hs⟩
 | (i,x)::rest,rows,rows',us,ob1,U1,arr,h,hs,hm,hρ,hr,hf=>by
  simp only [rowsOf] at h
  obtain ⟨cs,hcs,h⟩:=opt_bind_run h
  obtain ⟨hg,h⟩:=guard_run h
  obtain ⟨⟨ds,u1⟩,h1,h⟩:=bind_run h
  obtain ⟨⟨rows2,u2⟩,h2,h⟩:=bind_run h
  simp only [Q.run,Option.some.injEq,Prod.mk.injEq] at h
  obtain ⟨rfl,rfl⟩:=h
  simp only [decide_eq_true_eq] at hg
  obtain ⟨hlen,hi⟩:=hg
  obtain ⟨hl,_⟩:=VR.cells (hρ x) hcs
  obtain ⟨U2,m1,m2,m3,m4⟩:=frzs_ok h1 hs hm hl
  have hds:ds.length=size:=by rw [←m3.len,hl.len,hlen]
  have hvs:(ρ' x).cells.size=size:=by have:=hl.len;simp at this;omega
  have hflen:=flatten_len hr
  have hal:arr.size=rows.length*size:=by have:=hf.len;rw [hflen] at this;simpa using this
  have hisz:i*size+size≤rows.length*size:=by
   calc i*size+size=(i+1)*size:=by rw [Nat.add_mul];omega
    _≤rows.length*size:=Nat.mul_le_mul_right _ hi
  have hfold:=fold_set arr.toList (ρ' x).cells.toList (i*size) 0 arr rfl (by simp [hvs,hal];omega)
  simp only [Nat.add_zero] at hfold
  have hzip:(ρ' x).cells.zipIdx.foldl (fun cs (y:Value×Nat)=>cs.setIfInBounds (i*size+y.2) y.1) arr=((ρ' x).cells.toList.zipIdx 0).foldl (fun a (p:Value×Nat)=>a.setIfInBounds (i*size+p.2) p.1) arr:=by
   rw [←Array.foldl_toList,Array.toList_zipIdx]
  have hf2:FR w U2 (rows.set i ds).flatten ((ρ' x).cells.zipIdx.foldl (fun cs (y:Value×Nat)=>cs.setIfInBounds (i*size+y.2) y.1) arr).toList:=by
   rw [hzip,hfold,flatten_set hr hi hds]
   have:=FR.mono' m2 hf
   have hcl:(ρ' x).cells.toList.length=size:=by simpa using hvs
   rw [hcl]
   exact ((this.take _).append m3).append (this.drop _)
  obtain ⟨U3,arr',m5,m6,m7,m8,m9,m10,m11⟩:=rowsOf_ok (arr:=(ρ' x).cells.zipIdx.foldl (fun cs (y:Value×Nat)=>cs.setIfInBounds (i*size+y.2) y.1) arr) h2 m4 m1 (fun y=>VR.evo m2 _ _ (hρ y)) (fun r hr'=>by
   rcases List.mem_or_eq_of_mem_set hr' with h | h
   ·exact hr r h
   ·rw [h];exact hds) hf2
  refine ⟨U3,arr',by rw [putO_append];exact m5,by rw [putO_append];exact m2.trans m6,?_,m8,m9,by rw [m10,List.length_set],by rw [putO_append];exact m11⟩
  simp only [List.map_cons,Instr.fill]
  rw [if_neg (by simp [hvs,hal];omega)]
  exact m7
theorem replicate_FR {zs:List Value} (h:zs.all plain=true):∀ n,FR w U (List.replicate n (zs.map D.lit)).flatten (List.replicate n zs).flatten:=by
 have one:∀ {zs:List Value},zs.all plain=true→FR w U (zs.map D.lit) zs:=by
  intro zs
  induction zs with
  | nil=>intro _;simp [FR]
  | cons z zs ih=>intro h;simp at h;simp only [List.map_cons,FR];exact ⟨z,zs,rfl,DR_lit h.1,ih (by simpa using h.2)⟩
 intro n
 induction n with
 | zero=>simp [FR]
 | succ n ih=>simp only [List.replicate_succ,List.flatten_cons];exact (one h).append ih
theorem made_flatten {z:Array Value} {size n:Nat} (hz:z.size=size) (_:0 < size):((Array.range (n*size)).map (fun i=>z[i % z.size]!)).toList=(List.replicate n z.toList).flatten:=by
 induction n with
 | zero=>simp
 | succ n ih =>
  rw [List.replicate_succ',List.flatten_append,← ih]
  simp only [Array.toList_map,Array.toList_range,List.flatten_cons,List.flatten_nil,List.append_nil]
  rw [show (n+1)*size=n*size+size by rw [Nat.add_mul];omega,List.range_add,List.map_append]
  congr 1
  apply List.ext_getElem?
  intro j
  simp only [List.map_map,List.getElem?_map]
  by_cases hj:j < size
  ·rw [List.getElem?_range hj]
   simp only [Option.map_some,Function.comp,hz]
   rw [Nat.add_comm,Nat.add_mul_mod_self_right,Nat.mod_eq_of_lt hj]
   simp [hz,hj,getElem!_pos]
  ·rw [List.getElem?_eq_none (by simpa using hj),List.getElem?_eq_none (by simp [hz];omega)]
   rfl
theorem arr_new (hm:Mem w U ι ob) {dst:Option Nat} {rows:List (List D)} {size e n cap:Nat} {r:Res} {arr:Array Value} {s:Sem Value} (w':World) (hw:w'=w∨w'=w.drew)
  (hr:(fresh dst (.arr rows size e true) fun k=>.one (.slk k 0 n n)).run ob=some r) (hn:n=rows.length) (hcap:n≤cap) (hmax:cap≤maxLen) (hsz:arr.size=cap*size)
  (hrows:∀ r∈rows,r.length=size) (hf:∃ vs:List Value,FR w U rows.flatten vs∧∀ (j:Nat) (u:Value),vs[j]?=some u→arr[j]?=some u)
  (hrun:s.run P w=.ok (.slice (some ⟨w.heap.size,0,none⟩) n cap) (w'.alloc (.cells arr e))):Good P w U ι ob s r:=by
 unfold fresh at hr
 cases dst with
 | none=>simp [Q.run] at hr
 | some k =>
  simp only [Q.run] at hr
  cases hk:ob k with
  | some o=>simp [hk,Q.run] at hr
  | none =>
   simp only [hk,Q.run,Option.some.injEq] at hr
   subst hr
   have hh:w'.heap=w.heap:=by rcases hw with rfl | rfl<;>rfl
   have hos:w'.os=w.os∧w'.tape=w.tape∧w'.output=w.output:=by rcases hw with rfl | rfl<;>exact ⟨rfl,rfl,rfl⟩
   have hnew:(w'.alloc (.cells arr e)).heap[w.heap.size]?=some (.cells arr e (0,0)):=by
    have:=heap_alloc_new w' (.cells arr e)
    rwa [hh] at this
   obtain ⟨h1,h2⟩:=mem_step (w':=w'.alloc (.cells arr e)) hm k (.arr rows size e true) (w.heap.size,cap) hos.1 hos.2.1 hos.2.2 (by simp [hh]) (fun b hb _=>by
    show (w'.heap.push _)[b]?=_
    rw [hh,Array.getElem?_push,if_neg (by omega)]) (fun o' h=>by rw [hk] at h;cases h) (.inl (Nat.le_refl _)) rfl (fun e'=>by
     refine ⟨arr,by rw [updP_same];exact hnew,by rw [updP_same];simpa [←hn] using hcap,by rw [updP_same];exact hmax,by rw [updP_same];exact hsz,?_,by rw [updP_same];simp;intro hU;exact absurd (hm.lt _ hU) (by simp)⟩
     rw [updP_same]
     obtain ⟨vs,hv1,hv2⟩:=hf
     exact RR_iff.2 ⟨hrows,vs,FR.mono' e' hv1,fun j u hu=>by rw [heap_cell hnew,Nat.zero_add];exact hv2 j u hu⟩)
   refine ⟨_,_,U,_,hrun,h1,h2,?_⟩
   simp only [VR,LR]
   refine ⟨rows,size,e,true,put1_same _ _ _,by omega,fun _=>⟨by omega,by rw [updP_same];simp⟩,_,_,rfl,hcap,hmax⟩
end Go.VE
namespace Go.VE
open Go.RowKit
variable {P:Program} {w:World} {U:Nat→Prop} {ι:Pl} {ob:Ob}
theorem sizeC_info {t s:Nat} (h:sizeC P t=some s):∃ i,P.info? t=some i∧i.size=s:=by
 simpa [sizeC,Option.map_eq_some_iff] using h
theorem bytesC_info {t s:Nat} (h:bytesC P t=some s):∃ i,P.info? t=some i∧i.bytes=s:=by
 simpa [bytesC,Option.map_eq_some_iff] using h
theorem vInt_VR {x:V} {u:Value} {p:IntKind×Int} (hx:VR w U ι ob x u) (h:vInt? x=some p):u=.int p.1 p.2:=by
 unfold vInt? at h
 split at h
 ·simp only [Option.some.injEq] at h;subst h;simp only [VR,LR,DR] at hx;exact hx.1
 ·cases h
theorem vBool_VR {x:V} {u:Value} {b:Bool} (hx:VR w U ι ob x u) (h:vBool? x=some b):u=.bool b:=by
 unfold vBool? at h
 split at h
 ·simp only [Option.some.injEq] at h;subst h;simp only [VR,LR,DR] at hx;exact hx.1
 ·cases h
theorem lit_VR {x:V} {u v:Value} (hx:VR w U ι ob x u) (h:x.lit?=some v):u=v∧plain v=true:=by
 unfold V.lit? at h
 split at h
 ·simp only [Option.some.injEq] at h;subst h;simpa only [VR,LR,DR] using hx
 ·cases h
theorem vlit_VR {v:Value} (h:plain v=true):VR w U ι ob (vlit v) v:=by simp [vlit,VR,LR,DR,h]
theorem good_makeSlice (hm:Mem w U ι ob) {dst:Option Nat} {t e s bs:Nat} {zs:List Value} {k:IntKind} {n:Int} {r:Res} (he:elemC P t=some e) (hs:sizeC P e=some s) (hz:zeroC P e=some zs) (hb:bytesC P e=some bs)
  (hs0:0 < s) (hzl:zs.length=s) (h0:0≤n) (hbn:(bs:Int)*n≤140737488355328) (h63:n≤9223372036854775807)
  (hr:(fresh dst (.arr (List.replicate n.toNat (zs.map .lit)) s e true) fun k=>.one (.slk k 0 n.toNat n.toNat)).run ob=some r):Good P w U ι ob (Instr.makeSlice t (.int k n) (.int k n)) r:=by
 obtain ⟨i,z,hi,hz',hz1,hz2⟩:=zeroC_some hz
 obtain ⟨i',hi',hs'⟩:=sizeC_info hs
 obtain ⟨i'',hi'',hb'⟩:=bytesC_info hb
 rw [hi] at hi' hi''
 cases hi';cases hi''
 have hrun:=run_make (P:=P) w t e i z (r_slice he) hi hz' k k n n h0 (Int.le_refl _) (by rw [hb'];omega) h63
 rw [hs'] at hrun
 have hzsz:z.cells.size=s:=by rw [←hzl,← hz1];simp
 refine arr_new hm w (.inl rfl) hr (by simp) (Nat.le_refl _) (by simp [maxLen];omega) (by rw [size_madeCells]) (by intro r hr;rw [List.eq_of_mem_replicate hr];simpa using hzl) ⟨(List.replicate n.toNat zs).flatten,replicate_FR hz2 _,?_⟩ hrun
 intro j u hu
 have:=made_flatten (z:=z.cells) (n:=n.toNat) hzsz hs0
 rw [hz1] at this
 rw [←this] at hu
 have:=(Array.getElem?_toList (xs:=madeCells z.cells (n.toNat*s)) (i:=j)).symm
 rw [this];exact hu
theorem buildSlice_run (hm:Mem w U ι ob) {t e s len:Nat} {zs:List Value} {ρ:Operand→V} {ρ':Operand→Value} {parts:Array (Nat×Operand)} {rows:List (List D)} {us:List (Nat×O)}
  (hρ:∀ x,VR w U ι ob (ρ x) (ρ' x)) (he:elemC P t=some e) (hs:sizeC P e=some s) (hz:zeroC P e=some zs) (hs0:0 < s) (hzl:zs.length=s) (hlen:len*s≤16777216)
  (hrows:(rowsOf ρ s (List.replicate len (zs.map .lit)) parts.toList).run ob=some (rows,us)) :
  ∃ U' arr',Mem w U' ι (putO ob us)∧Evo w U ι ob w U' ι (putO ob us)∧FR w U' rows.flatten arr'.toList∧(∀ r∈rows,r.length=s)∧rows.length=len∧arr'.size=len*s∧SameBut ob (putO ob us) ∧
   (Instr.buildSlice t len (parts.map fun (i,x)=>(i,ρ' x))).run P w=.ok (.slice (some ⟨w.heap.size,0,none⟩) len len) (w.alloc (.cells arr' e)):=by
 obtain ⟨z,hz1,hz2,hz3⟩:=r_zero (w:=w) hz
 have hzsz:z.cells.size=s:=by rw [←hzl,← hz2];simp
 have hmf:=made_flatten (z:=z.cells) (n:=len) hzsz hs0
 rw [hz2] at hmf
 obtain ⟨U',arr',m1,m2,m3,m4,m5,m6,m7⟩:=rowsOf_ok (arr:=(Array.range (len*s)).map (fun i=>z.cells[i % z.cells.size]!)) hrows (SameBut.refl ob) hm hρ (by intro r hr;rw [List.eq_of_mem_replicate hr];simpa using hzl) (by rw [hmf];exact replicate_FR hz3 _)
 have hfl:=flatten_len m5
 have hrl:rows.length=len:=by rw [m6];simp
 have hasz:arr'.size=len*s:=by have:=m4.len;rw [hfl,hrl] at this;simpa using this
 have hrun:(Instr.buildSlice t len (parts.map fun (i,x)=>(i,ρ' x))).run P w=.ok (.slice (some ⟨w.heap.size,0,none⟩) len len) (w.alloc (.cells arr' e)):=by
  have h24:¬ (2 ^ 24 < len*s):=by omega
  have hlist:((parts.map fun (x:Nat×Operand)=>(x.1,ρ' x.2)).toList)=parts.toList.map fun p=>(p.1,ρ' p.2):=by simp
  unfold Instr.buildSlice
  rw [Sem.run_bind,run_underlying (r_slice he)]
  simp only [Result.andThen_ok]
  rw [Sem.run_bind,r_sizeOf hs,Result.andThen_ok,hlist]
  by_cases h0:len*s=0
  ·have hl0:len=0:=by
    rcases Nat.mul_eq_zero.1 h0 with h | h
    ·exact h
    ·omega
   subst hl0
   simp only [Nat.zero_mul] at m3 ⊢
   have hfill:Instr.fill (fun i=>some (i*s,s)) (Array.map (fun (x:Nat)=>(#[]:Array Value)[x % (#[]:Array Value).size]!) (Array.range 0)) (parts.toList.map fun p=>(p.1,ρ' p.2))=some arr':=by
    have:(Array.map (fun (x:Nat)=>(#[]:Array Value)[x % (#[]:Array Value).size]!) (Array.range 0))=(Array.range 0).map (fun i=>z.cells[i % z.cells.size]!):=by simp
    rw [this];exact m3
   simp only [Sem.run_bind,Sem.run_pure,Result.andThen_ok,if_true,show ¬ (0 > 2 ^ 24) by omega,if_false,hfill,newRow,run_newObj]
   rfl
  ·simp only [Sem.run_bind,Sem.run_pure,Result.andThen_ok,show ¬ (len*s > 2 ^ 24) by omega,if_false,h0,hz1,m3,newRow,run_newObj]
   rfl
 exact ⟨U',arr',m1,m2,m4,m5,hrl,hasz,m7,hrun⟩
theorem good_buildSlice (hm:Mem w U ι ob) {dst:Option Nat} {t e s len:Nat} {zs:List Value} {ρ:Operand→V} {ρ':Operand→Value} {parts:Array (Nat×Operand)} {rows:List (List D)} {us:List (Nat×O)} {v:V} {u:List (Nat×O)}
  (hρ:∀ x,VR w U ι ob (ρ x) (ρ' x)) (he:elemC P t=some e) (hs:sizeC P e=some s) (hz:zeroC P e=some zs) (hs0:0 < s) (hzl:zs.length=s) (hlen:len*s≤16777216)
  (hrows:(rowsOf ρ s (List.replicate len (zs.map .lit)) parts.toList).run ob=some (rows,us)) (hr:(fresh dst (.arr rows s e true) fun k=>.one (.slk k 0 len len)).run ob=some (v,u)) :
  Good P w U ι ob (Instr.buildSlice t len (parts.map fun (i,x)=>(i,ρ' x))) (v,us++u):=by
 obtain ⟨U',arr',m1,m2,m4,m5,hrl,hasz,m7,hrun⟩:=buildSlice_run hm hρ he hs hz hs0 hzl hlen hrows
 have hr':(fresh dst (.arr rows s e true) fun k=>.one (.slk k 0 len len)).run (putO ob us)=some (v,u):=by
  unfold fresh at hr ⊢
  cases dst with
  | none=>simp [Q.run] at hr
  | some k =>
   simp only [Q.run] at hr ⊢
   cases hk:ob k with
   | some o=>simp [hk,Q.run] at hr
   | none=>rw [hk] at hr;rw [m7.2.2 k hk];exact hr
 have hg:=arr_new (P:=P) m1 (arr:=arr') (cap:=len) w (.inl rfl) hr' hrl.symm (Nat.le_refl _) (by
  have:len≤len*s:=Nat.le_mul_of_pos_right _ hs0
  simp [maxLen];omega) hasz m5 ⟨arr'.toList,m4,fun j u hu=>by simpa using hu⟩ hrun
 obtain ⟨v',w',U'',ι',g1,g2,g3,g4⟩:=hg
 exact ⟨v',w',U'',ι',g1,by simpa only [putO_append] using g2,by simpa only [putO_append] using m2.trans g3,by simpa only [putO_append] using g4⟩
theorem addrOff_VR {x v:V} {u:Value} {n:Nat} (hx:VR w U ι ob x u) (h:addrOff n x=some v):∃ a:Addr,u=.pointer (some a)∧VR w U ι ob v (.pointer (some (a.add n))):=by
 unfold addrOff at h
 split at h
 ·simp only [Option.some.injEq] at h;subst h
  simp only [VR,LR] at hx ⊢
  obtain ⟨cells,e,h1,rfl⟩:=hx
  exact ⟨_,rfl,cells,e,h1,by rw [add_lit]⟩
 ·simp only [Option.some.injEq] at h;subst h
  simp only [VR,LR] at hx ⊢
  obtain ⟨rows,s,e,own,h1,h2,h3,a,rfl⟩:=hx
  refine ⟨_,rfl,rows,s,e,own,h1,h2,fun hc=>?_,_,rfl⟩
  obtain ⟨h4,h5⟩:=h3 hc
  cases h5
  exact ⟨h4,by rw [add_lit,Nat.add_assoc]⟩
 ·simp only [Option.some.injEq] at h;subst h
  simp only [VR,LR,DR] at hx ⊢
  obtain ⟨b,o,rfl,h1,h2⟩:=hx
  exact ⟨_,rfl,b,o,by rw [add_lit,Nat.add_assoc],h1,h2⟩
 ·simp only [Option.some.injEq] at h;subst h
  simp only [VR,LR] at hx ⊢
  obtain ⟨h1,b,h2,rfl⟩:=hx
  exact ⟨_,rfl,h1,b,h2,by rw [add_lit]⟩
 ·cases h
theorem good_fieldAddr (hm:Mem w U ι ob) {x:V} {u:Value} {s f:Nat} {p:Nat×Nat×Bool} {r:Res} (hx:VR w U ι ob x u) (hf:fieldC P s f=some p) (hr:(pureR (addrOff p.1 x)).run ob=some r):Good P w U ι ob (Instr.fieldAt s u f) r:=by
 obtain ⟨v,hv,rfl⟩:=pureR_run hr
 obtain ⟨a,rfl,hv'⟩:=addrOff_VR hx hv
 unfold fieldC at hf
 split at hf
 ·rename_i fs hfs
  split at hf
  ·rename_i fd hfd
   split at hf
   ·rename_i sz g hsz hg
    split at hf
    ·cases hf
    ·rename_i hne
     cases hf
     refine good_pure hm (u:=.pointer (some (a.add fd.offset))) ?_ hv'
     simp [Instr.fieldAt,run_underlying hfs,hfd,Instr.sureAddr,fieldPlace,r_sizeOf hsz,hne]
   ·cases hf
  ·cases hf
 ·cases hf
theorem good_indexAddr (hm:Mem w U ι ob) {x:V} {u y:Value} {t s e:Nat} {arr:Option (Nat×Nat)} {k:IntKind} {i:Int} {r:Res} (hx:VR w U ι ob x u) (hy:y=.int k i)
  (ht:(∃ n,arr=some (n,e)∧P.underlying t=some (.array n e))∨(arr=none∧P.underlying t=some (.slice e))) (hs:sizeC P e=some s) (hr:(indexQ arr s x i).run ob=some r):Good P w U ι ob (Instr.indexAt t u y) r:=by
 subst hy
 rcases ht with ⟨n,rfl,hu⟩ | ⟨rfl,hu⟩
 ·simp only [indexQ] at hr
  obtain ⟨v,hv,rfl⟩:=pureR_run hr
  split at hv
  ·rename_i hb
   obtain ⟨a,rfl,hv'⟩:=addrOff_VR hx hv
   refine good_pure hm (u:=.pointer (some (a.add (i.toNat*s)))) ?_ hv'
   simp [Instr.indexAt,run_underlying hu,Instr.sureAddr,asIntOf,hb,r_sizeOf hs]
  ·cases hv
 ·simp only [indexQ] at hr
  split at hr
  ·rename_i k off n c
   simp only [Q.run] at hr
   split at hr
   ·rename_i rows size el own hk
    obtain ⟨hg,hr2⟩:=guard_run hr;clear hr
    simp only [decide_eq_true_eq] at hg
    obtain ⟨hc,rfl⟩:=hg
    obtain ⟨v,hv,rfl⟩:=pureR_run hr2
    split at hv
    ·rename_i hb
     cases hv
     simp only [VR,LR] at hx
     obtain ⟨rows',size',el',own',h1,h2,h3,_⟩:=hx
     rw [hk] at h1
     cases h1
     obtain ⟨h4,rfl⟩:=h3 hc
     refine good_pure hm (u:=.pointer (some ⟨(ι k).1,off*size+i.toNat*size,none⟩)) ?_ ?_
     ·simp [Instr.indexAt,run_underlying hu,asIntOf,hb,r_sizeOf hs,add_lit]
     ·simp only [VR,LR]
      exact ⟨rows,size,el,own,hk,h2,fun _=>⟨by omega,by rw [Nat.add_mul,Nat.add_zero]⟩,_,rfl⟩
    ·cases hv
   ·simp [Q.run] at hr
  ·rename_i k n
   simp only [Q.run] at hr
   split at hr
   ·rename_i rows size el own hk
    obtain ⟨hg,hr2⟩:=guard_run hr;clear hr
    simp only [decide_eq_true_eq] at hg
    obtain ⟨hc,rfl⟩:=hg
    obtain ⟨v,hv,rfl⟩:=pureR_run hr2
    split at hv
    ·rename_i hb
     cases hv
     have hpos:0 < n:=by omega
     simp only [VR] at hx
     rw [LR.sln_slk hpos] at hx
     simp only [LR] at hx
     obtain ⟨rows',size',el',own',h1,h2,h3,_⟩:=hx
     rw [hk] at h1
     cases h1
     obtain ⟨h4,rfl⟩:=h3 hc
     refine good_pure hm (u:=.pointer (some ⟨(ι k).1,0*size+i.toNat*size,none⟩)) ?_ ?_
     ·simp [Instr.indexAt,run_underlying hu,asIntOf,hb,r_sizeOf hs,add_lit]
     ·simp only [VR,LR]
      exact ⟨rows,size,el,own,hk,h2,fun _=>⟨by omega,by rw [Nat.add_mul,Nat.add_zero]⟩,_,rfl⟩
    ·cases hv
   ·simp [Q.run] at hr
  ·rename_i sz rows
   obtain ⟨hg,hr2⟩:=guard_run hr;clear hr
   simp only [decide_eq_true_eq] at hg
   subst hg
   obtain ⟨v,hv,rfl⟩:=pureR_run hr2
   split at hv
   ·rename_i h0
    simp only [Option.map_eq_some_iff] at hv
    obtain ⟨row,hrow,rfl⟩:=hv
    simp only [VR,LR,DR] at hx
    obtain ⟨a,cap,rfl,h1,h2,h3⟩:=hx
    have hlt:i.toNat < rows.length:=(List.getElem?_eq_some_iff.1 hrow).1
    obtain ⟨b,o,rfl,hUb,hrr⟩:=h3 (by omega)
    obtain ⟨hrl,hcr⟩:=hrr.at_ hrow
    refine good_pure hm (u:=.pointer (some ⟨b,o+i.toNat*sz,none⟩)) ?_ ?_
    ·simp [Instr.indexAt,run_underlying hu,asIntOf,h0,show i < rows.length by omega,r_sizeOf hs,add_lit]
    ·simp only [VR,LR,DR]
     exact ⟨b,o+i.toNat*sz,by rw [Nat.add_zero],hUb,hcr⟩
   ·cases hv
  ·simp [Q.run] at hr
theorem r_bounds {kl kh:IntKind} {n cap:Nat} {l h:Option Int} {lv hv:Option Value} (hl:lv=l.map (Value.int kl)) (hh:hv=h.map (Value.int kh)) (h0:0≤l.getD 0) (h1:l.getD 0≤h.getD n) (h2:h.getD n≤n) (h3:n≤cap) :
  (Instr.sliceBounds true n cap lv hv none).run P w=.ok ((l.getD 0).toNat,(h.getD n).toNat,cap) w:=by
 subst hl hh
 cases l<;>cases h<;>simp only [Option.getD_none,Option.getD_some,Option.map_none,Option.map_some] at*<;> simp only [Instr.sliceBounds,Sem.run_bind,Sem.run_pure,Result.andThen_ok]
 ·simp
 ·rename_i hi
  rw [run_sliceBound _ _ _ _ _ (by omega) (by omega)]
  simp
 ·rename_i lo
  rw [run_sliceBound _ _ _ _ _ (by omega) (by omega)]
  simp
 ·rename_i lo hi
  rw [run_sliceBound _ _ _ _ _ (by omega) (by omega)]
  simp only [Result.andThen_ok]
  rw [run_sliceBound _ _ _ _ _ (by omega) (by omega)]
  simp
theorem r_cut {t e s n cap:Nat} {a:Option Addr} {kl kh:IntKind} {l h:Option Int} {lv hv:Option Value} (ht:P.underlying t=some (.slice e)) (hs:sizeC P e=some s) (hl:lv=l.map (Value.int kl)) (hh:hv=h.map (Value.int kh))
  (h0:0≤l.getD 0) (h1:l.getD 0≤h.getD n) (h2:h.getD n≤n) (h3:n≤cap) :
  (Instr.sliceAt t (.slice a n cap) lv hv none).run P w=.ok (.slice (if cap=(l.getD 0).toNat then a else a.map (·.add ((l.getD 0).toNat*s))) ((h.getD n).toNat - (l.getD 0).toNat) (cap - (l.getD 0).toNat)) w:=by
 have:=r_bounds (P:=P) (w:=w) hl hh h0 h1 h2 h3
 simp [Instr.sliceAt,run_underlying ht,Instr.slice,this,r_sizeOf hs]
theorem r_cutS {t e s n cap:Nat} {a:Addr} {kl kh:IntKind} {l h:Option Int} {lv hv:Option Value} (ht:P.underlying t=some (.slice e)) (hs:sizeC P e=some s) (hl:lv=l.map (Value.int kl)) (hh:hv=h.map (Value.int kh))
  (h0:0≤l.getD 0) (h1:l.getD 0≤h.getD n) (h2:h.getD n≤n) (h3:n≤cap) :
  (Instr.sliceAt t (.slice (some a) n cap) lv hv none).run P w=.ok (.slice (some (if cap=(l.getD 0).toNat then a else a.add ((l.getD 0).toNat*s))) ((h.getD n).toNat - (l.getD 0).toNat) (cap - (l.getD 0).toNat)) w:=by
 rw [r_cut ht hs hl hh h0 h1 h2 h3]
 congr 2
 split<;>rfl
theorem good_cut (hm:Mem w U ι ob) {x:V} {u:Value} {t e s:Nat} {kl kh:IntKind} {l h:Option Int} {lv hv:Option Value} {r:Res} (hx:VR w U ι ob x u) (ht:P.underlying t=some (.slice e)) (hs:sizeC P e=some s)
  (hl:lv=l.map (Value.int kl)) (hh:hv=h.map (Value.int kh)) (hr:(cutQ s x l h).run ob=some r):Good P w U ι ob (Instr.sliceAt t u lv hv none) r:=by
 unfold cutQ at hr
 split at hr
 ·rename_i k off n c
  simp only [Q.run] at hr
  split at hr
  ·rename_i rows size el own hk
   obtain ⟨hg,hr2⟩:=guard_run hr;clear hr
   simp only [decide_eq_true_eq] at hg
   obtain ⟨hc,rfl⟩:=hg
   obtain ⟨v,hv',rfl⟩:=pureR_run hr2
   split at hv'
   ·rename_i hb
    simp only [VR,LR] at hx
    obtain ⟨rows',size',el',own',h1,h2,h3,_,_,he,hcap,hmax⟩:=hx
    rw [hk] at h1
    cases h1
    obtain ⟨h4,rfl⟩:=h3 hc
    cases he
    have hrun:=r_cut (P:=P) (w:=w) (a:=some ⟨(ι k).1,off*size,none⟩) ht hs hl hh hb.1 hb.2.1 hb.2.2 hcap
    split at hv'
    ·rename_i hcase
     cases hv'
     refine good_pure hm hrun ?_
     simp only [VR,LR]
     refine ⟨rows,size,el,own,hk,h2,fun _=>⟨by omega,?_⟩,_,_,by rw [show (h.getD n - l.getD 0).toNat=(h.getD n).toNat - (l.getD 0).toNat by omega],by omega,by omega⟩
     rw [show (h.getD n - l.getD 0).toNat=(h.getD n).toNat - (l.getD 0).toNat by omega]
     congr 1
     ·split
      ·have:(l.getD 0).toNat=0:=by omega
       rw [this];simp
      ·simp only [Option.map_some,add_lit,Nat.add_mul]
     ·omega
    ·cases hv'
     have hrun2:=r_cutS (P:=P) (w:=w) (a:=(⟨(ι k).1,off*size,none⟩:Addr)) ht hs hl hh hb.1 hb.2.1 hb.2.2 hcap
     refine good_pure hm hrun2 ?_
     simp only [VR,LR,DR]
     refine ⟨_,_,by rw [show (h.getD n).toNat - (l.getD 0).toNat=0 by omega];rfl,by simp,by omega,by simp⟩
   ·cases hv'
  ·simp [Q.run] at hr
 ·rename_i size rows
  obtain ⟨hg,hr2⟩:=guard_run hr;clear hr
  simp only [decide_eq_true_eq] at hg
  subst hg
  obtain ⟨v,hv',rfl⟩:=pureR_run hr2
  split at hv'
  ·rename_i hb
   cases hv'
   simp only [VR,LR,DR] at hx
   obtain ⟨a,cap,rfl,h1,h2,h3⟩:=hx
   have hrun:=r_cutS (P:=P) (w:=w) (a:=a) ht hs hl hh hb.1 hb.2.1 hb.2.2 h1
   refine good_pure hm hrun ?_
   have hlen:((rows.drop (l.getD 0).toNat).take (h.getD rows.length - l.getD 0).toNat).length=(h.getD rows.length).toNat - (l.getD 0).toNat:=by simp;omega
   simp only [VR,LR,DR]
   refine ⟨_,_,by rw [hlen],by rw [hlen];omega,by omega,fun hp=>?_⟩
   rw [hlen] at hp
   obtain ⟨b,o,rfl,hU,hrr⟩:=h3 (by omega)
   refine ⟨b,o+(l.getD 0).toNat*size,?_,hU,(hrr.drop _).take _⟩
   rw [if_neg (by omega)]
   simp [add_lit]
  ·cases hv'
 ·obtain ⟨v,hv',rfl⟩:=pureR_run hr
  split at hv'
  ·rename_i hb
   cases hv'
   simp only [VR,LR,DR] at hx
   obtain ⟨rfl,hp⟩:=hx
   have hh0:h.getD (0:Nat)=0:=by simpa using hb.2
   have hrun:=r_cut (P:=P) (w:=w) (a:=none) (n:=0) (cap:=0) ht hs hl hh (by omega) (by omega) (by omega) (Nat.le_refl _)
   refine good_pure hm (u:=.slice none 0 0) ?_ (by simp [VR,LR,DR,hp])
   rw [hrun]
   simp [hb.1,hb.2]
  ·cases hv'
 ·simp [Q.run] at hr
end Go.VE
namespace Go.VE
open Go.RowKit
variable {P:Program} {w:World} {U:Nat→Prop} {ι:Pl} {ob:Ob}
theorem src_ok0 (hm:Mem w U ι ob) {x:V} {u:Value} {es:Nat} {new:List (List D)} (hx:VR w U ι ob x u) (hr:(srcRows0 es x).run ob=some new) :
  ∃ (a:Option Addr) (n c:Nat),u=.slice a n c∧n=new.length∧(∀ r∈new,r.length=es)∧(a=none→new=[]) ∧
   ∃ vs,FR w U new.flatten vs∧∀ ad,a=some ad→∀ (j:Nat) (v:Value),vs[j]?=some v→w.cell? (ad.add j)=some v:=by
 unfold srcRows0 at hr
 split at hr
 ·simp only [Q.run,Option.some.injEq] at hr
  subst hr
  simp only [VR,LR,DR] at hx
  exact ⟨none,0,0,hx.1,rfl,by simp,fun _=>rfl,[],by simp [FR],by simp⟩
 ·rename_i size rows
  obtain ⟨hg,hr2⟩:=guard_run hr;clear hr
  simp only [decide_eq_true_eq] at hg
  subst hg
  simp only [Q.run,Option.some.injEq] at hr2
  subst hr2
  simp only [VR,LR,DR] at hx
  obtain ⟨a,cap,rfl,h1,h2,h3⟩:=hx
  rcases Nat.eq_zero_or_pos rows.length with h0 | h0
  ·have:rows=[]:=List.eq_nil_of_length_eq_zero h0
   subst this
   exact ⟨a,0,cap,rfl,rfl,by simp,fun _=>rfl,[],by simp [FR],by simp⟩
  ·obtain ⟨b,o,rfl,hU,hrr⟩:=h3 h0
   obtain ⟨h4,vs,h5,h6⟩:=RR_iff.1 hrr
   refine ⟨_,_,cap,rfl,rfl,h4,by simp,vs,h5,fun ad hd j v hv=>?_⟩
   cases hd
   rw [add_lit]
   exact h6 j v hv
 ·rename_i k off n c
  simp only [Q.run] at hr
  split at hr
  ·rename_i rows size el own hk
   obtain ⟨hg,hr2⟩:=guard_run hr;clear hr
   simp only [decide_eq_true_eq] at hg
   obtain ⟨hc,rfl⟩:=hg
   simp only [Q.run,Option.some.injEq] at hr2
   subst hr2
   simp only [VR,LR] at hx
   obtain ⟨rows',size',el',own',h1,h2,h3,_⟩:=hx
   rw [hk] at h1
   cases h1
   obtain ⟨h4,rfl⟩:=h3 hc
   obtain ⟨cur,h5,h6,h7,h8,h9,h10⟩:=hm.obj k _ hk
   have hrr:=(h9.drop off).take n
   rw [Nat.zero_add] at hrr
   obtain ⟨h11,vs,h12,h13⟩:=RR_iff.1 hrr
   refine ⟨_,n,_,rfl,by simp;omega,h11,by simp,vs,h12,fun ad hd j v hv=>?_⟩
   cases hd
   rw [add_lit]
   exact h13 j v hv
  ·simp [Q.run] at hr
 ·simp [Q.run] at hr
theorem src_ok (hm:Mem w U ι ob) {x:V} {u:Value} {es:Nat} {new:List (List D)} (hx:VR w U ι ob x u) (hr:(srcRows es x).run ob=some new) :
  ∃ (a:Option Addr) (n c:Nat),u=.slice a n c∧n=new.length∧(∀ r∈new,r.length=es)∧(a=none→new=[]) ∧
   ∃ vs,FR w U new.flatten vs∧∀ ad,a=some ad→∀ (j:Nat) (v:Value),vs[j]?=some v→w.cell? (ad.add j)=some v:=by
 unfold srcRows at hr
 split at hr
 ·rename_i k n
  split at hr
  ·rename_i h0
   subst h0
   simp only [Q.run,Option.some.injEq] at hr
   subst hr
   simp only [VR] at hx
   rw [LR.sln_nil] at hx
   exact ⟨none,0,0,hx,rfl,by simp,fun _=>rfl,[],by simp [FR],by simp⟩
  ·rename_i h0
   refine src_ok0 hm (x:=.one (.slk k 0 n n)) ?_ hr
   simp only [VR] at hx ⊢
   exact (LR.sln_slk (by omega)).1 hx
 ·exact src_ok0 hm hx hr
theorem append_nil_src (t ty e:TypeId) (i:TypeInfo) (ht:P.underlying t=some (.slice e)) (hi:P.info? e=some i) (b:Option Addr) (n cap:Nat) (hb:b=none→n=0) (hn:n≤cap) (a:Option Addr) (c:Nat) :
  (Builtin.append_ #[t,t] ty #[.slice b n cap,.slice a 0 c]).run P w=.ok (.slice b n cap) w:=by
 cases a with
 | none=>cases b<;>simp [Builtin.append_,run_underlying ht,sizeOf,typeInfo,hi,Builtin.lenOf,Builtin.firstCells,hn,storeCells]
 | some a=>cases b<;>simp [Builtin.append_,run_underlying ht,sizeOf,typeInfo,hi,Builtin.lenOf,Builtin.firstCells,hn,storeCells,loadCells,loadCellsFrom]
set_option maxHeartbeats 400000 in
theorem good_append0 (hm:Mem w U ι ob) {dst:Option Nat} {t ty e sz bs:Nat} {s x:V} {us ux:Value} {new:List (List D)} {r:Res} (hs:VR w U ι ob s us) (hx:VR w U ι ob x ux)
  (he:elemC P t=some e) (hsz:sizeC P e=some sz) (hbs:bytesC P e=some bs) (hz:(zeroC P e).isSome=true) (hs0:0 < sz) (_:0 < bs) (hsrc:(srcRows sz x).run ob=some new) (hr:(appendQ0 dst e sz bs s new).run ob=some r)
  (hzl:∀ zs,zeroC P e=some zs→zs.length=sz) :
  Good P w U ι ob (Builtin.append_ #[t,t] ty #[us,ux]) r:=by
 obtain ⟨a,n,c,rfl,hn,hrows,hnone,vs,hvs,hcell⟩:=src_ok hm hx hsrc
 obtain ⟨zs,hzs⟩:=Option.isSome_iff_exists.1 hz
 have hzl':=hzl zs hzs
 obtain ⟨i,z,hi,hz',hz1,hz2⟩:=zeroC_some hzs
 obtain ⟨i',hi',hsize⟩:=sizeC_info hsz
 obtain ⟨i'',hi'',hbytes⟩:=bytesC_info hbs
 rw [hi] at hi' hi''
 cases hi';cases hi''
 have hzsz:z.cells.size=sz:=by rw [←hzl',← hz1];simp
 have hvl:vs.length=n*sz:=by rw [hvs.len,flatten_len hrows,hn]
 unfold appendQ0 at hr
 split at hr
 ·split at hr
  ·rename_i hnew
   subst hnew
   simp only [Q.run,Option.some.injEq] at hr
   subst hr
   have hv:=hs
   simp only [VR,LR,DR] at hv
   obtain ⟨rfl,hp⟩:=hv
   simp at hn
   subst hn
   exact good_pure hm (append_nil_src t ty e i (r_slice he) hi none 0 0 (fun _=>rfl) (Nat.le_refl _) a c) hs
  ·rename_i hnew
   obtain ⟨hg,hr2⟩:=guard_run hr;clear hr
   simp only [decide_eq_true_eq] at hg
   simp only [VR,LR,DR] at hs
   obtain ⟨rfl,_⟩:=hs
   have hnpos:0 < n:=by rw [hn];exact List.length_pos_iff.2 hnew
   cases a with
   | none=>exact absurd (hnone rfl) hnew
   | some ad =>
    obtain ⟨v',w',h1,h2,h3,h4,h5⟩:=run_append_own_at (P:=P) w w.heap.size t ty e i z sz bs (r_slice he) hi hz' hsize hbytes hzsz hs0 (.slice none 0 0) 0 [] (World.ownsRow_nil _ _ _ _) ad n c vs hvl (hcell ad rfl) hvs.one (by omega) (by rw [Nat.zero_add,hn];exact hg.1) (Nat.le_refl _)
    rw [Nat.zero_add,List.nil_append] at h2
    rcases h2 with ⟨h2l,h2 | ⟨g,cap,cur,rfl,hg1,hg2,hg3,hg4,hg5,hg6⟩⟩
    ·exact absurd (by omega) (Nat.lt_irrefl n)
    ·have hgw:g=w.heap.size:=by
      rcases h5 with h5 | h5<;>simp [Value.ownBlock] at h5
      exact h5
     subst hgw
     unfold fresh at hr2
     cases dst with
     | none=>simp [Q.run] at hr2
     | some k =>
      simp only [Q.run] at hr2
      cases hk:ob k with
      | some o=>simp [hk,Q.run] at hr2
      | none =>
       simp only [hk,Q.run,Option.some.injEq] at hr2
       subst hr2
       obtain ⟨m1,m2⟩:=mem_step (w':=w') hm k (.arr new sz e true) (w.heap.size,cap) h3.os h3.tape h3.output h3.size (fun b hb _=>h3.block b hb (by simp [Value.ownBlock])) (fun o' h=>by rw [hk] at h;cases h) (.inl (Nat.le_refl _)) rfl (fun e'=>by
        refine ⟨cur,by rw [updP_same];exact hg2,by rw [updP_same];simp only [];omega,by rw [updP_same];exact hg4,by rw [updP_same];exact hg5,?_,by rw [updP_same];simp;intro hU;exact absurd (hm.lt _ hU) (by simp)⟩
        rw [updP_same]
        refine RR_iff.2 ⟨hrows,vs,FR.mono' e' hvs,fun j u hu=>?_⟩
        rw [heap_cell hg2,Nat.zero_add]
        rw [←hg6,List.getElem?_take] at hu
        split at hu
        ·simpa using hu
        ·cases hu)
       refine ⟨_,_,U,_,h1,m1,m2,?_⟩
       simp only [VR,LR]
       exact ⟨new,sz,e,true,put1_same _ _ _,Nat.le_refl _,fun _=>⟨by omega,by rw [updP_same];simp [hn]⟩,_,_,by rw [hn],by omega,hg4⟩
 ·rename_i k n0 c0
  simp only [Q.run] at hr
  split at hr
  ·rename_i rows size' elem' own hk
   obtain ⟨hg,hr2⟩:=guard_run hr;clear hr
   simp only [Bool.and_eq_true,decide_eq_true_eq] at hg
   obtain ⟨rfl,hc,rfl,rfl,rfl,hby,hmx⟩:=hg
   simp only [Q.run,Option.some.injEq] at hr2
   subst hr2
   simp only [VR,LR] at hs
   obtain ⟨rows',size'',el',own',h1,h2,h3,_⟩:=hs
   rw [hk] at h1
   cases h1
   obtain ⟨h4,rfl⟩:=h3 hc
   obtain ⟨cur,h5,h6,h7,h8,h9,h10⟩:=hm.obj k _ hk
   obtain ⟨hro,ovs,hov,hoc⟩:=RR_iff.1 h9
   have hovl:ovs.length=rows.length*size':=by rw [hov.len,flatten_len hro]
   have hcurle:rows.length*size'≤cur.size:=by rw [h8];exact Nat.mul_le_mul_right _ h6
   have hctake:cur.toList.take (rows.length*size')=ovs:=by
    apply List.ext_getElem?
    intro j
    rw [List.getElem?_take]
    split
    ·rename_i hj
     have hjo:j < ovs.length:=by omega
     have:=hoc j ovs[j] (List.getElem?_eq_getElem hjo)
     rw [heap_cell h5,Nat.zero_add] at this
     rw [List.getElem?_eq_getElem hjo,← this]
     simp
    ·rw [List.getElem?_eq_none (by omega)]
   have hown:w.ownsRow (ι k).1 elem' size' (.slice (some ⟨(ι k).1,0,none⟩) rows.length ((ι k).2)) rows.length ovs :=
    ⟨hovl,.inr ⟨(ι k).1,(ι k).2,cur,rfl,Nat.le_refl _,h5,h6,h7,h8,hctake⟩⟩
   rw [Nat.zero_mul]
   simp only [Nat.sub_zero]
   have fin:∀ (v':Value) (w':World),(Builtin.append_ #[t,t] ty #[.slice (some ⟨(ι k).1,0,none⟩) rows.length ((ι k).2),.slice a n c]).run P w=.ok v' w' →
     w'.ownsRow (ι k).1 elem' size' v' (rows.length+n) (ovs++vs)→w.grownBy w' (some (ι k).1)→(v'.ownBlock=some (ι k).1∨v'.ownBlock=some w.heap.size) →
     (n=0→v'=.slice (some ⟨(ι k).1,0,none⟩) rows.length ((ι k).2)) →
     Good P w U ι ob (Builtin.append_ #[t,t] ty #[.slice (some ⟨(ι k).1,0,none⟩) rows.length ((ι k).2),.slice a n c]) (.one (.slk k 0 (rows.length+new.length) (rows.length+new.length)),[(k,.arr (rows++new) size' elem' true)]):=by
    intro v' w' g1 g2 g3 g4 g5
    have g2':∃ g cap cur',v'=.slice (some ⟨g,0,none⟩) (rows.length+n) cap∧(g=(ι k).1∨g=w.heap.size)∧w'.heap[g]?=some (.cells cur' elem' (0,0))∧rows.length+n≤cap∧cap≤maxLen∧cur'.size=cap*size'∧cur'.toList.take ((rows.length+n)*size')=ovs++vs∧(n=0→(g,cap)=((ι k).1,(ι k).2)):=by
     rcases g2 with ⟨_,⟨rfl,_⟩ | ⟨g,cap,cur',rfl,_,q2,q3,q4,q5,q6⟩⟩
     ·simp [Value.ownBlock] at g4
     ·refine ⟨g,cap,cur',rfl,by simpa [Value.ownBlock] using g4,q2,q3,q4,q5,q6,fun h0=>?_⟩
      have:=g5 h0
      injection this with e1 e2 e3
      injection e1 with e1
      injection e1 with e1
      rw [e1,e3]
    obtain ⟨g,cap,cur',rfl,q1,q2,q3,q4,q5,q6,q7⟩:=g2'
    obtain ⟨m1,m2⟩:=mem_step (w':=w') hm k (.arr (rows++new) size' elem' true) (g,cap) g3.os g3.tape g3.output g3.size
     (fun b hb hbk=>g3.block b hb (by
      rcases hbk with hbk | hbk
      ·rw [hk] at hbk;cases hbk
      ·simpa using hbk)) (fun o' h=>by
      rw [hk] at h
      cases h
      refine ⟨rfl,rfl,rfl,by simp,fun h0=>q7 ?_⟩
      simp at h0
      rw [hn,h0];rfl) (by
      rcases q1 with rfl | rfl
      ·exact .inr ⟨by simp [hk],rfl⟩
      ·exact .inl (Nat.le_refl _)) rfl (fun e'=>by
      refine ⟨cur',by rw [updP_same];exact q2,by rw [updP_same];simpa [←hn] using q3,by rw [updP_same];exact q4,by rw [updP_same];exact q5,?_,?_⟩
      ·rw [updP_same]
       refine RR_iff.2 ⟨by
        intro r hr
        rcases List.mem_append.1 hr with h | h
        ·exact hro r h
        ·exact hrows r h,ovs++vs,by rw [List.flatten_append];exact (FR.mono' e' hov).append (FR.mono' e' hvs),fun j u hu=>?_⟩
       rw [heap_cell q2,Nat.zero_add]
       rw [←q6,List.getElem?_take] at hu
       split at hu
       ·simpa using hu
       ·cases hu
      ·rw [updP_same]
       simp only [if_true]
       rcases q1 with rfl | rfl
       ·simpa using h10
       ·intro hU;exact absurd (hm.lt _ hU) (by simp))
    refine ⟨_,_,U,_,g1,m1,m2,?_⟩
    simp only [VR,LR]
    exact ⟨rows++new,size',elem',true,put1_same _ _ _,by simp,fun _=>⟨by simp,by rw [updP_same];simp [hn]⟩,_,_,by rw [hn],by omega,q4⟩
   rcases Nat.eq_zero_or_pos n with hn0 | hn0
   ·have hnew0:new=[]:=List.eq_nil_of_length_eq_zero (by omega)
    have hvs0:vs=[]:=List.eq_nil_of_length_eq_zero (by rw [hvl,hn0];simp)
    subst hn0
    have hap:=append_nil_src (P:=P) (w:=w) t ty elem' i (r_slice he) hi (some ⟨(ι k).1,0,none⟩) rows.length ((ι k).2) (by simp) h6 a c
    exact fin _ _ hap (by rw [hvs0,List.append_nil];exact hown) (World.grownBy.refl _ _) (.inl rfl) (fun _=>rfl)
   ·cases a with
    | none=>have:=hnone rfl;rw [this] at hn;simp at hn;omega
    | some ad =>
     obtain ⟨v',w',g1,g2,g3,g4,g5⟩:=run_append_own_at (P:=P) w (ι k).1 t ty elem' i z size' bs (r_slice he) hi hz' hsize hbytes hzsz hs0 _ rows.length ovs hown ad n c vs hvl (hcell ad rfl) hvs.one (by rw [hn];exact hmx) (by rw [hn];exact hby) (Nat.le_of_lt (hm.block hk))
     refine fin v' w' g1 g2 g3 (by simpa only [Value.ownBlock] using g5) (fun h=>absurd h (Nat.ne_of_gt hn0))
  ·simp [Q.run] at hr
 ·simp [Q.run] at hr
theorem good_append (hm:Mem w U ι ob) {dst:Option Nat} {t ty e sz bs:Nat} {s x:V} {us ux:Value} {new:List (List D)} {r:Res} (hs:VR w U ι ob s us) (hx:VR w U ι ob x ux)
  (he:elemC P t=some e) (hsz:sizeC P e=some sz) (hbs:bytesC P e=some bs) (hz:(zeroC P e).isSome=true) (hs0:0 < sz) (hb0:0 < bs) (hsrc:(srcRows sz x).run ob=some new) (hr:(appendQ dst e sz bs s new).run ob=some r)
  (hzl:∀ zs,zeroC P e=some zs→zs.length=sz) :
  Good P w U ι ob (Builtin.append_ #[t,t] ty #[us,ux]) r:=by
 unfold appendQ at hr
 split at hr
 ·rename_i k n
  simp only [Q.run] at hr
  split at hr
  ·rename_i hk
   obtain ⟨hg,hr2⟩:=guard_run hr;clear hr
   simp only [decide_eq_true_eq] at hg
   obtain ⟨rfl,h1,h2⟩:=hg
   simp only [Q.run,Option.some.injEq] at hr2
   subst hr2
   simp only [VR] at hs
   rw [LR.sln_nil] at hs
   subst hs
   by_cases hn:new=[]
   ·subst hn
    obtain ⟨a,n,c,rfl,hn,-⟩:=src_ok hm hx hsrc
    simp at hn
    subst hn
    obtain ⟨zs,hzs⟩:=Option.isSome_iff_exists.1 hz
    obtain ⟨i,z,hi,-⟩:=zeroC_some hzs
    refine ⟨_,w,U,ι,append_nil_src t ty e i (r_slice he) hi none 0 0 (fun _=>rfl) (Nat.le_refl _) a c,?_,?_,?_⟩
    all_goals simp only [if_true]
    all_goals rw [show putO ob [(k,O.nul)]=ob from del1_none hk]
    ·exact hm
    ·exact Evo.refl _ _ _ _
    ·simp only [VR];exact LR.sln_nil.2 rfl
   ·have h0:Good P w U ι ob (Builtin.append_ #[t,t] ty #[.slice none 0 0,ux]) (.one (.slk k 0 new.length new.length),[(k,.arr new sz e true)]):=by
     refine good_append0 hm (dst:=some k) (s:=.one (.d (.lit (.slice none 0 0)))) (by simp [VR,LR,DR,plain]) hx he hsz hbs hz hs0 hb0 hsrc ?_ hzl
     simp [appendQ0,hn,Q.run_guard,h1,h2,fresh,Q.run,hk]
    obtain ⟨v,w',U',ι',g1,g2,g3,g4⟩:=h0
    have hpos:0 < new.length:=List.length_pos_iff.2 hn
    refine ⟨v,w',U',ι',g1,?_,?_,?_⟩
    all_goals simp only [if_neg hn]
    ·exact g2
    ·exact g3
    ·simp only [VR] at g4 ⊢;exact (LR.sln_slk hpos).2 g4
  ·rename_i rows size' elem' own hk
   obtain ⟨hg,hr2⟩:=guard_run hr;clear hr
   simp only [Bool.and_eq_true,decide_eq_true_eq] at hg
   obtain ⟨rfl,hpos,rfl,rfl,rfl,h1,h2⟩:=hg
   simp only [Q.run,Option.some.injEq] at hr2
   subst hr2
   have h0:Good P w U ι ob (Builtin.append_ #[t,t] ty #[us,ux]) (.one (.slk k 0 (rows.length+new.length) (rows.length+new.length)),[(k,.arr (rows++new) size' elem' true)]):=by
    refine good_append0 hm (dst:=dst) (s:=.one (.slk k 0 rows.length rows.length)) ?_ hx he hsz hbs hz hs0 hb0 hsrc ?_ hzl
    ·simp only [VR] at hs ⊢;exact (LR.sln_slk hpos).1 hs
    ·simp only [appendQ0,Q.run,hk,Q.run_guard]
     rw [if_pos (by simp [h1,h2])]
   obtain ⟨v,w',U',ι',g1,g2,g3,g4⟩:=h0
   refine ⟨v,w',U',ι',g1,g2,g3,?_⟩
   simp only [VR] at g4 ⊢
   exact (LR.sln_slk (by omega)).2 g4
  ·simp [Q.run] at hr
 ·exact good_append0 hm hs hx he hsz hbs hz hs0 hb0 hsrc hr hzl
end Go.VE
namespace Go.VE
open Go.RowKit
variable {P:Program} {w:World} {U:Nat→Prop} {ι:Pl} {ob:Ob}
theorem keyC_desc {t kd:Nat} (h:keyC P t=some kd):∃ k e d,P.underlying t=some (.map k e)∧P.underlying k=some d∧keyD d=some kd:=by
 unfold keyC at h
 split at h
 ·simp only [Option.bind_eq_some_iff] at h
  obtain ⟨d,h1,h2⟩:=h
  exact ⟨_,_,d,by assumption,h1,h2⟩
 ·cases h
theorem sameNow_kEq {d:TypeDesc} {kd:Nat} {u v:Value} {b:Bool} (hd:keyD d=some kd) (h:kEq kd u v=some b):Instr.sameNow d u v=some b:=by
 cases d<;>simp [keyD] at hd<;>subst hd<;>cases u<;>cases v<;>simp_all [kEq,Instr.sameNow]
theorem findNow_ok {d:TypeDesc} {kd:Nat} {k:Value} {agg:Bool} (hd:keyD d=some kd):∀ {vals:List (List D)} {keys:List Value} {es:List MapEntry} {i:Nat} {r:Option Nat},KR w U agg keys es vals→mFind kd k keys i=some r →
  ∃ r',Instr.findNow d k es i=some r'∧r'.map (·.1)=r∧(∀ j x,r'=some (j,x)→i≤j∧∃ row cs,vals[j - i]?=some row∧x=valOf agg cs∧(agg=false→cs.length=1)∧FR w U row cs)∧(∀ j,r=some j→i≤j∧∃ kk,keys[j - i]?=some kk∧kEq kd k kk=some true)
 | [],keys,es,i,r,hk,h=>by
  simp only [KR] at hk
  obtain ⟨rfl,rfl⟩:=hk
  simp only [mFind,Option.some.injEq] at h
  subst h
  exact ⟨none,rfl,rfl,by simp,by simp⟩
 | row::vals,keys,es,i,r,hk,h=>by
  simp only [KR] at hk
  obtain ⟨k1,ks,e,es',cs,rfl,rfl,he,hp,hv,hc,hf,hk⟩:=hk
  simp only [mFind] at h
  split at h
  ·rename_i heq
   cases h
   refine ⟨some (i,e.val),?_,rfl,?_,?_⟩
   ·simp only [Instr.findNow,he,sameNow_kEq hd heq]
   ·intro j x hx
    cases hx
    exact ⟨Nat.le_refl _,row,cs,by simp,hv,hc,hf⟩
   ·intro j hj
    cases hj
    exact ⟨Nat.le_refl _,k1,by simp,heq⟩
  ·rename_i heq
   obtain ⟨r',h1,h2,h3,h4⟩:=findNow_ok hd hk h
   refine ⟨r',?_,h2,?_,?_⟩
   ·simp only [Instr.findNow,he,sameNow_kEq hd heq];exact h1
   ·intro j x hx
    obtain ⟨h5,row',cs',h6,h7⟩:=h3 j x hx
    exact ⟨by omega,row',cs',by rw [show j - i=(j - (i+1))+1 by omega];simpa using h6,h7⟩
   ·intro j hj
    obtain ⟨h5,kk,h6,h7⟩:=h4 j hj
    exact ⟨by omega,kk,by rw [show j - i=(j - (i+1))+1 by omega];simpa using h6,h7⟩
  ·cases h
theorem checkKey_ok {t kd:Nat} {d:TypeDesc} {e:Bool} {v:Value} (ht:P.underlying t=some d) (hd:keyD d=some kd):(Instr.checkKey e 10000 t v).run P w=.ok () w:=by
 have:∀ n,(Instr.checkKey e (n+1) t v).run P w=.ok () w:=by
  intro n
  cases d<;>simp [keyD] at hd<;>simp [Instr.checkKey,run_underlying ht]
 exact this 9999
theorem mkV_VR {agg:Bool} {xs:List L} {cs:List Value} {v:V} (h:mkV agg xs=some v) (hl:LF w U ι ob xs cs) (hc:agg=false→cs.length=1):VR w U ι ob v (valOf agg cs):=by
 unfold mkV at h
 split at h
 ·cases h;simp only [VR,valOf,if_true];exact ⟨_,rfl,hl⟩
 ·cases h
  simp only [LF] at hl
  obtain ⟨u,us,rfl,h1,h2⟩:=hl
  simpa only [VR,valOf,Bool.false_eq_true,if_false,List.headD_cons] using h1
 ·cases h
theorem good_lookup (hm:Mem w U ι ob) {t kd e:Nat} {g ok:Bool} {zs:List Value} {x:V} {ux:Value} {k:Value} {r:Res} (hx:VR w U ι ob x ux) (hk:keyC P t=some kd) (he:melemC P t=some e) (hz:zeroC P e=some zs) (hzg:(P.info? e).bind (·.zero)=some (valOf g zs))
  (hr:(lookQ kd g ok zs x k).run ob=some r):Good P w U ι ob (Instr.lookup t ux k ok) r:=by
 obtain ⟨kt,e',d,ht,htk,hd⟩:=keyC_desc hk
 have:e'=e:=by simpa [melemC,ht] using he
 subst this
 obtain ⟨i0,z0,hi,hz0,hz1,hz2⟩:=zeroC_some hz
 have hz3:z0=valOf g zs:=by rw [hi] at hzg;simpa [hz0] using hzg
 have hzrun:(zeroValue e').run P w=.ok (valOf g zs) w:=by simp [zeroValue,r_typeInfo hi,hz0,hz3]
 unfold lookQ at hr
 obtain ⟨p,hp,hr⟩:=bind_run hr
 simp only [Q.run,Option.some.injEq] at hr
 have main:∀ (b:Nat) (es:Array MapEntry) (clock:Nat) (keys:List Value) (vals:List (List D)),w.heap[b]?=some (.map es clock)→KR w U g keys es.toList vals→(mFind kd k keys 0).bind (mGet g zs vals)=some p →
   Good P w U ι ob (Instr.lookup t (.map (some b)) k ok) r:=by
  intro b es clock keys vals hb hkr hf
  rw [Option.bind_eq_some_iff] at hf
  obtain ⟨q,hq,hg⟩:=hf
  obtain ⟨r',h1,h2,h3,_⟩:=findNow_ok hd hkr hq
  have hobj:(getObj b).run P w=.ok (.map es clock) w:=by simp [getObj,Sem.run,hb]
  have hfind:(Instr.findKey kt k es.toList).run P w=.ok r' w:=by simp [Instr.findKey,run_underlying htk,h1]
  obtain ⟨u,hu,hrun⟩:∃ u,VR w U ι ob p.1 u∧(Instr.lookup t (.map (some b)) k ok).run P w=.ok (if ok then .tuple #[u,.bool p.2] else u) w:=by
   cases r' with
   | none =>
    simp only [Option.map_none] at h2
    subst h2
    simp only [mGet,Option.map_eq_some_iff] at hg
    obtain ⟨v,hv,rfl⟩:=hg
    refine ⟨valOf g zs,mkV_VR hv (litsL_LF hz2) ?_,?_⟩
    ·intro hgf
     subst hgf
     unfold mkV at hv
     split at hv
     ·contradiction
     ·rename_i hll;have:=congrArg List.length hll;simpa [litsL] using this
     ·cases hv
    ·simp [Instr.lookup,run_underlying ht,hobj,checkKey_ok htk hd,hfind,hzrun]
   | some jx =>
    obtain ⟨j,x⟩:=jx
    simp only [Option.map_some] at h2
    subst h2
    obtain ⟨_,row,cs,hrow,rfl,hc,hfr⟩:=h3 j x rfl
    simp only [mGet,Option.bind_eq_some_iff,Option.map_eq_some_iff] at hg
    obtain ⟨row',hrow',v,hv,rfl⟩:=hg
    rw [Nat.sub_zero,hrow'] at hrow
    cases hrow
    refine ⟨valOf g cs,mkV_VR hv (row_LF hfr) hc,?_⟩
    simp [Instr.lookup,run_underlying ht,hobj,checkKey_ok htk hd,hfind]
  subst hr
  refine good_pure hm hrun ?_
  cases ok with
  | true=>simp only [if_true,VR,VF];exact ⟨_,rfl,_,_,rfl,hu,.bool p.2,[],rfl,vlit_VR rfl,rfl⟩
  | false=>simpa using hu
 split at hp
 ·rename_i agg' keys vals
  obtain ⟨hg,hp2⟩:=guard_run hp
  simp only [beq_iff_eq] at hg
  subst hg
  rw [Q.run_opt] at hp2
  simp only [VR,LR,DR] at hx
  obtain ⟨b,es,clock,rfl,hU,hb,hkr⟩:=hx
  exact main b es clock keys vals hb hkr hp2
 ·rename_i key
  simp only [Q.run] at hp
  split at hp
  ·rename_i agg' keys vals own hkey
   obtain ⟨hg,hp2⟩:=guard_run hp
   simp only [beq_iff_eq] at hg
   subst hg
   rw [Q.run_opt] at hp2
   simp only [VR,LR] at hx
   obtain ⟨_,_,_,_,h1,rfl⟩:=hx
   obtain ⟨es,clock,hb,hkr,_⟩:=hm.obj _ _ hkey
   exact main _ es clock keys vals hb hkr hp2
  ·simp [Q.run] at hp
 ·rw [Q.run_opt] at hp
  simp only [VR,LR,DR] at hx
  obtain ⟨rfl,_⟩:=hx
  simp only [mGet,Option.map_eq_some_iff] at hp
  obtain ⟨v,hv,rfl⟩:=hp
  have hu:VR w U ι ob v (valOf g zs):=mkV_VR hv (litsL_LF hz2) (by
   intro hgf
   subst hgf
   unfold mkV at hv
   split at hv
   ·contradiction
   ·rename_i hll;have:=congrArg List.length hll;simpa [litsL] using this
   ·cases hv)
  subst hr
  refine good_pure hm (u:=if ok then .tuple #[valOf g zs,.bool false] else valOf g zs) ?_ ?_
  ·have hfind:(Instr.findKey kt k []).run P w=.ok none w:=by simp [Instr.findKey,run_underlying htk,Instr.findNow]
   simp [Instr.lookup,run_underlying ht,checkKey_ok htk hd,hfind,hzrun]
  ·cases ok with
   | true=>simp only [if_true,VR,VF];exact ⟨_,rfl,_,_,rfl,hu,.bool false,[],rfl,vlit_VR rfl,rfl⟩
   | false=>simpa using hu
 ·simp [Q.run] at hp
theorem KR.push {agg:Bool} {row:List D} {cs:List Value} {k:Value} {n:Nat}:∀ {vals:List (List D)} {keys:List Value} {es:List MapEntry},KR w U agg keys es vals→plain k=true→(agg=false→cs.length=1)→FR w U row cs →
  KR w U agg (keys++[k]) (es++[{ key:=k,val:=valOf agg cs,born:=n }]) (vals++[row])
 | [],keys,es,h,hp,hc,hf=>by
  simp only [KR] at h
  obtain ⟨rfl,rfl⟩:=h
  simp only [List.nil_append,KR]
  exact ⟨k,[],_,[],cs,rfl,rfl,rfl,hp,rfl,hc,hf,rfl,rfl⟩
 | r::rs,keys,es,h,hp,hc,hf=>by
  simp only [KR] at h
  obtain ⟨k1,ks,e,es',cs1,rfl,rfl,h3,h4,h5,h6,h7,h8⟩:=h
  simp only [List.cons_append,KR]
  exact ⟨k1,_,e,_,cs1,rfl,rfl,h3,h4,h5,h6,h7,KR.push h8 hp hc hf⟩
theorem KR.set_ {agg:Bool} {row:List D} {cs:List Value} {k:Value}:∀ {vals:List (List D)} {keys:List Value} {es:List MapEntry} {j:Nat},KR w U agg keys es vals→(∀ kk,keys[j]?=some kk→kk=k)→(agg=false→cs.length=1)→FR w U row cs →
  KR w U agg keys (es.modify j fun e=>{ e with key:=k,val:=valOf agg cs }) (vals.set j row)
 | [],keys,es,j,h,_,_,_=>by
  simp only [KR] at h
  obtain ⟨rfl,rfl⟩:=h
  simp [KR]
 | r::rs,keys,es,j,h,hkk,hc,hf=>by
  simp only [KR] at h
  obtain ⟨k1,ks,e,es',cs1,rfl,rfl,h3,h4,h5,h6,h7,h8⟩:=h
  cases j with
  | zero =>
   have:=hkk k1 rfl
   subst this
   simp only [List.set_cons_zero,List.modify_zero_cons,KR]
   exact ⟨k1,ks,_,es',cs,rfl,rfl,rfl,h4,rfl,hc,hf,h8⟩
  | succ j =>
   simp only [List.set_cons_succ,List.modify_succ_cons,KR]
   exact ⟨k1,ks,e,_,cs1,rfl,rfl,h3,h4,h5,h6,h7,KR.set_ h8 (fun kk hk=>hkk kk (by simpa using hk)) hc hf⟩
theorem ba_iff (a b:ByteArray):(a==b)=true↔a=b:=by
 rw [beq_toListBytes]
 simp only [beq_iff_eq]
 constructor
 ·intro h
  rw [ByteArray.toList_eq,ByteArray.toList_eq] at h
  obtain ⟨⟨x⟩⟩:=a
  obtain ⟨⟨y⟩⟩:=b
  simp at h
  rw [h]
 ·rintro rfl;rfl
theorem kEq_eq {kd:Nat} {u v:Value} (h:kEq kd u v=some true):v=u:=by
 unfold kEq at h
 split at h
 ·split at h
  ·rename_i hk;simp at h;rw [hk,h]
  ·cases h
 ·simp only [Option.some.injEq] at h;rw [(ba_iff _ _).1 h]
 ·simp at h;rw [h]
 ·cases h
theorem stays_ok {kd:Nat} {u v:Value} (h:kEq kd u v=some true) (n:Nat):Instr.sameBits n v u=true:=by
 have:=kEq_eq h
 subst this
 unfold kEq at h
 split at h
 ·cases n<;>simp [Instr.sameBits]
 ·cases n<;>simp [Instr.sameBits,(ba_iff _ _).2 rfl]
 ·cases n<;>simp [Instr.sameBits]
 ·cases h
theorem findNow_keys {d:TypeDesc} {kd:Nat} {k:Value} (hd:keyD d=some kd):∀ {keys:List Value} {es:List MapEntry} {i:Nat} {r:Option Nat},es.map (·.key)=keys→mFind kd k keys i=some r →
  ∃ r',Instr.findNow d k es i=some r'∧r'.map (·.1)=r∧(∀ j x,r'=some (j,x)→i≤j∧∃ e,es[j - i]?=some e∧x=e.val)
 | keys,[],i,r,hk,h=>by
  simp only [List.map_nil] at hk
  subst hk
  simp only [mFind,Option.some.injEq] at h
  subst h
  exact ⟨none,rfl,rfl,by simp⟩
 | keys,e::es,i,r,hk,h=>by
  simp only [List.map_cons] at hk
  subst hk
  simp only [mFind] at h
  split at h
  ·rename_i heq
   cases h
   exact ⟨some (i,e.val),by simp only [Instr.findNow,sameNow_kEq hd heq],rfl,fun j x hx=>by cases hx;exact ⟨Nat.le_refl _,e,by simp,rfl⟩⟩
  ·rename_i heq
   obtain ⟨r',h1,h2,h3⟩:=findNow_keys hd rfl h
   refine ⟨r',by simp only [Instr.findNow,sameNow_kEq hd heq];exact h1,h2,fun j x hx=>?_⟩
   obtain ⟨h5,e',h6,h7⟩:=h3 j x hx
   exact ⟨by omega,e',by rw [show j - i=(j - (i+1))+1 by omega];simpa using h6,h7⟩
  ·cases h
theorem ER.keys:∀ {ks:List Value} {xs:List L} {es:List MapEntry},ER w U ι ob ks xs es→es.map (·.key)=ks
 | [],[],[],_=>rfl
 | k::ks,x::xs,e::es,h=>by simp only [ER] at h;simp [h.2.1,ER.keys h.2.2.2]
 | [],[],_::_,h=>by simp [ER] at h
 | [],_::_,_,h=>by simp [ER] at h
 | _::_,[],_,h=>by simp [ER] at h
 | _::_,_::_,[],h=>by simp [ER] at h
theorem ER.at_:∀ {ks:List Value} {xs:List L} {es:List MapEntry},ER w U ι ob ks xs es→∀ {j:Nat} {x:L} {e:MapEntry},xs[j]?=some x→es[j]?=some e→LR w U ι ob x e.val
 | [],[],[],_,j,x,e,hx,_=>by simp at hx
 | k::ks,x::xs,e::es,h,0,y,m,hx,he=>by simp only [ER] at h;simp at hx he;subst hx;subst he;exact h.2.2.1
 | k::ks,x::xs,e::es,h,j+1,y,m,hx,he=>by simp only [ER] at h;exact h.2.2.2.at_ (by simpa using hx) (by simpa using he)
 | [],[],_::_,h,_,_,_,_,_=>by simp [ER] at h
 | [],_::_,_,h,_,_,_,_,_=>by simp [ER] at h
 | _::_,[],_,h,_,_,_,_,_=>by simp [ER] at h
 | _::_,_::_,[],h,_,_,_,_,_=>by simp [ER] at h
theorem ER.push {k:Value} {x:L} {u:Value} {n:Nat} (hp:plain k=true) (hx:LR w U ι ob x u):∀ {ks:List Value} {xs:List L} {es:List MapEntry},ER w U ι ob ks xs es→ER w U ι ob (ks++[k]) (xs++[x]) (es++[{ key:=k,val:=u,born:=n }])
 | [],[],[],_=>by simp only [List.nil_append,ER];exact ⟨hp,by trivial,hx,trivial⟩
 | k::ks,x::xs,e::es,h=>by simp only [ER,List.cons_append] at h ⊢;exact ⟨h.1,h.2.1,h.2.2.1,ER.push hp hx h.2.2.2⟩
 | [],[],_::_,h=>by simp [ER] at h
 | [],_::_,_,h=>by simp [ER] at h
 | _::_,[],_,h=>by simp [ER] at h
 | _::_,_::_,[],h=>by simp [ER] at h
theorem PR.keys:∀ {ks:List Value} {es:List MapEntry} {bs:List Nat},PR ks es bs→es.map (·.key)=ks
 | [],[],_,_=>rfl
 | k::ks,e::es,b::bs,h=>by simp only [PR] at h;simp [h.2.1,PR.keys h.2.2.2]
 | [],_::_,_,h=>by simp [PR] at h
 | _::_,[],_,h=>by simp [PR] at h
 | _::_,_::_,[],h=>by simp [PR] at h
theorem PR.at_:∀ {ks:List Value} {es:List MapEntry} {bs:List Nat},PR ks es bs→∀ {j:Nat} {e:MapEntry},es[j]?=some e→∃ b,bs[j]?=some b∧e.val=.pointer (some ⟨b,0,none⟩)
 | [],[],_,_,j,e,he=>by simp at he
 | k::ks,e::es,b::bs,h,0,m,he=>by simp only [PR] at h;simp at he;subst he;exact ⟨b,rfl,h.2.2.1⟩
 | k::ks,e::es,b::bs,h,j+1,m,he=>by simp only [PR] at h;simpa using h.2.2.2.at_ (by simpa using he)
 | [],_::_,_,h,_,_,_=>by simp [PR] at h
 | _::_,[],_,h,_,_,_=>by simp [PR] at h
 | _::_,_::_,[],h,_,_,_=>by simp [PR] at h
theorem PR.push {k:Value} {b n:Nat} (hp:plain k=true):∀ {ks:List Value} {es:List MapEntry} {bs:List Nat},PR ks es bs→bs[ks.length]?=some b→PR (ks++[k]) (es++[{ key:=k,val:=.pointer (some ⟨b,0,none⟩),born:=n }]) bs
 | [],[],[],_,hb=>by simp at hb
 | [],[],c::bs,_,hb=>by simp at hb;subst hb;simp only [List.nil_append,PR];exact ⟨hp,by trivial,by trivial,trivial⟩
 | k::ks,e::es,c::bs,h,hb=>by simp only [PR,List.cons_append] at h ⊢;exact ⟨h.1,h.2.1,h.2.2.1,PR.push hp h.2.2.2 (by simpa using hb)⟩
 | [],_::_,_,h,_=>by simp [PR] at h
 | _::_,[],_,h,_=>by simp [PR] at h
 | _::_,_::_,[],h,_=>by simp [PR] at h
theorem PR.more (cs:List Nat):∀ {ks:List Value} {es:List MapEntry} {bs:List Nat},PR ks es bs→PR ks es (bs++cs)
 | [],[],_,_=>by simp [PR]
 | k::ks,e::es,b::bs,h=>by simp only [PR,List.cons_append] at h ⊢;exact ⟨h.1,h.2.1,h.2.2.1,PR.more cs h.2.2.2⟩
 | [],_::_,_,h=>by simp [PR] at h
 | _::_,[],_,h=>by simp [PR] at h
 | _::_,_::_,[],h=>by simp [PR] at h
theorem good_lookP (hm:Mem w U ι ob) {t kd e key:Nat} {zs:List Value} {ux:Value} {k:Value} {r:Res} (hx:VR w U ι ob (.one (.mq key)) ux) (hk:keyC P t=some kd) (he:melemC P t=some e) (hz:zeroC P e=some zs) (hzg:(P.info? e).bind (·.zero)=some (valOf false zs))
  (hr:(lookP kd key k zs).run ob=some r):Good P w U ι ob (Instr.lookup t ux k false) r:=by
 obtain ⟨kt,e',d,ht,htk,hd⟩:=keyC_desc hk
 have:e'=e:=by simpa [melemC,ht] using he
 subst this
 obtain ⟨i0,z0,hi,hz0,hz1,hz2⟩:=zeroC_some hz
 have hz3:z0=valOf false zs:=by rw [hi] at hzg;simpa [hz0] using hzg
 have hzrun:(zeroValue e').run P w=.ok (valOf false zs) w:=by simp [zeroValue,r_typeInfo hi,hz0,hz3]
 simp only [VR,LR] at hx
 obtain ⟨_,rfl⟩:=hx
 unfold lookP at hr
 simp only [Q.run] at hr
 split at hr
 ·rename_i keys vals hkey
  obtain ⟨x,hx,hr⟩:=opt_bind_run hr
  simp only [Q.run,Option.some.injEq] at hr
  subst hr
  rw [Option.bind_eq_some_iff] at hx
  obtain ⟨q,hq,hx⟩:=hx
  rw [Option.bind_eq_some_iff] at hx
  obtain ⟨j,rfl,hx⟩:=hx
  obtain ⟨es,clock,hb,hE,_⟩:=hm.obj _ _ hkey
  obtain ⟨r',h1,h2,h3⟩:=findNow_keys hd hE.keys hq
  obtain ⟨⟨j',y⟩,rfl,h4⟩:=Option.map_eq_some_iff.1 h2
  simp only at h4
  subst h4
  obtain ⟨_,e0,h5,rfl⟩:=h3 _ _ rfl
  rw [Nat.sub_zero] at h5
  have hobj:(getObj (ι key).1).run P w=.ok (.map es clock) w:=by simp [getObj,Sem.run,hb]
  have hfind:(Instr.findKey kt k es.toList).run P w=.ok (some (j',e0.val)) w:=by simp [Instr.findKey,run_underlying htk,h1]
  refine good_pure hm (u:=e0.val) (by simp [Instr.lookup,run_underlying ht,hobj,checkKey_ok htk hd,hfind]) ?_
  simp only [VR]
  exact hE.at_ hx h5
 ·rename_i keys rows size elem hkey
  obtain ⟨q,hq,hr⟩:=opt_bind_run hr
  obtain ⟨es,clock,hb,hE,_⟩:=hm.obj _ _ hkey
  obtain ⟨r',h1,h2,h3⟩:=findNow_keys hd hE.keys hq
  have hobj:(getObj (ι key).1).run P w=.ok (.map es clock) w:=by simp [getObj,Sem.run,hb]
  have hfind:(Instr.findKey kt k es.toList).run P w=.ok r' w:=by simp [Instr.findKey,run_underlying htk,h1]
  cases q with
  | some j =>
   simp only [Q.run,Option.some.injEq] at hr
   subst hr
   obtain ⟨⟨j',y⟩,rfl,h4⟩:=Option.map_eq_some_iff.1 h2
   simp only at h4
   subst h4
   obtain ⟨_,e0,h5,rfl⟩:=h3 _ _ rfl
   rw [Nat.sub_zero] at h5
   refine good_pure hm (u:=e0.val) (by simp [Instr.lookup,run_underlying ht,hobj,checkKey_ok htk hd,hfind]) ?_
   obtain ⟨b,h6,h7⟩:=hE.at_ h5
   simp only [VR,LR]
   exact ⟨⟨keys,rows,size,elem,hkey⟩,b,h6,h7⟩
  | none =>
   have hr'n:r'=none:=by cases r'<;>simp at h2 ⊢
   subst hr'n
   dsimp only at hr
   split at hr
   ·rename_i z _
    simp only [Q.run,Option.some.injEq] at hr
    subst hr
    exact good_pure hm (u:=z) (by simp [Instr.lookup,run_underlying ht,hobj,checkKey_ok htk hd,hfind,hzrun,valOf]) (vlit_VR (by simpa using hz2))
   ·simp [Q.run] at hr
 ·simp [Q.run] at hr
theorem good_updP (hm:Mem w U ι ob) {t kd key:Nat} {g:Bool} {v:V} {ux uv:Value} {k:Value} {r:Res} (hx:VR w U ι ob (.one (.mq key)) ux) (hv:VR w U ι ob v uv) (hkp:plain k=true) (hk:keyC P t=some kd)
  (hr:(updQ kd g (.one (.mq key)) k v).run ob=some r):GoodU P w U ι ob (Instr.mapUpdate t ux k uv) r:=by
 obtain ⟨kt,e',d,ht,htk,hd⟩:=keyC_desc hk
 simp only [VR,LR] at hx
 obtain ⟨_,rfl⟩:=hx
 simp only [updQ,Q.run] at hr
 have hset:∀ {es clock},w.heap[(ι key).1]?=some (.map es clock)→∀ o:Obj,(setObj (ι key).1 o).run P w=.ok () { w with heap:=w.heap.setIfInBounds (ι key).1 o }:=fun hb o=>by simp [setObj,Sem.run,hb]
 have hrun:∀ {es clock keys},w.heap[(ι key).1]?=some (.map es clock)→es.toList.map (·.key)=keys→mFind kd k keys 0=some none→(Instr.mapUpdate t (.map (some (ι key).1)) k uv).run P w=.ok () { w with heap:=w.heap.setIfInBounds (ι key).1 (.map (es.push { key:=k,val:=uv,born:=clock }) (clock+1)) }:=by
  intro es clock keys hb hkeys hq
  obtain ⟨r',f1,f2,f3⟩:=findNow_keys hd hkeys hq
  have hr'n:r'=none:=by cases r'<;>simp at f2 ⊢
  subst hr'n
  have hobj:(getObj (ι key).1).run P w=.ok (.map es clock) w:=by simp [getObj,Sem.run,hb]
  have hfind:(Instr.findKey kt k es.toList).run P w=.ok none w:=by simp [Instr.findKey,run_underlying htk,f1]
  simp [Instr.mapUpdate,run_underlying ht,hobj,checkKey_ok htk hd,hfind,hset hb]
 split at hr
 ·rename_i keys vals hkey
  replace hr:=(guard_run hr).2
  split at hr
  ·rename_i x
   have hdef:=(guard_run hr).1
   replace hr:=(guard_run hr).2
   obtain ⟨q,hq,hr⟩:=opt_bind_run hr
   cases q with
   | some j=>simp [Q.run] at hr
   | none =>
    simp only [Q.run,Option.some.injEq] at hr
    subst hr
    obtain ⟨es,clock,hb,hE,hU⟩:=hm.obj _ _ hkey
    have hblk:=hm.block hkey
    obtain ⟨m1,m2⟩:=mem_step (w':={ w with heap:=w.heap.setIfInBounds (ι key).1 (.map (es.push { key:=k,val:=uv,born:=clock }) (clock+1)) }) hm key (.ml (keys++[k]) (vals++[x])) ((ι key).1,(ι key).2) rfl rfl rfl (by simp)
     (fun b hb' hbk=>by
      have hne:b≠(ι key).1:=hbk.resolve_left (by simp [hkey])
      simp [Ne.symm hne])
     (fun o ho=>by rw [hkey] at ho;cases ho;exact ⟨rfl,rfl⟩) (.inr ⟨by simp [hkey],rfl⟩) rfl
     (fun e2=>by
      refine ⟨es.push { key:=k,val:=uv,born:=clock },clock+1,by rw [updP_same];simp [hblk],?_,by rw [updP_same];exact hU⟩
      simp only [VR] at hv
      rw [Array.toList_push]
      exact ER.push hkp (LR.evo e2 _ _ hv) (ER.evo e2 _ _ _ hE))
    exact ⟨_,U,_,hrun hb hE.keys hq,m1,m2,rfl⟩
  ·simp [Q.run] at hr
 ·rename_i keys rows size elem hkey
  replace hr:=(guard_run hr).2
  split at hr
  ·rename_i key' j
   have hg:=(guard_run hr).1
   replace hr:=(guard_run hr).2
   simp only [decide_eq_true_eq] at hg
   obtain ⟨rfl,rfl,hlt⟩:=hg
   obtain ⟨q,hq,hr⟩:=opt_bind_run hr
   cases q with
   | some j=>simp [Q.run] at hr
   | none =>
    simp only [Q.run,Option.some.injEq] at hr
    subst hr
    obtain ⟨es,clock,hb,hE,hB,hU,hn⟩:=hm.obj _ _ hkey
    have hblk:=hm.block hkey
    simp only [VR,LR] at hv
    obtain ⟨_,b,hbj,rfl⟩:=hv
    have hn':=hn
    simp only [Pt.foot,List.nodup_cons] at hn'
    obtain ⟨m1,m2⟩:=mem_stepA (w':={ w with heap:=w.heap.setIfInBounds (ι key').1 (.map (es.push { key:=k,val:=.pointer (some ⟨b,0,none⟩),born:=clock }) (clock+1)) }) hm key' (.am (keys++[k]) rows size elem) (ι key') rfl rfl rfl (by simp)
     (fun b hb' hbk=>by
      have hne:b≠(ι key').1:=fun e=>(hbk.resolve_left (by simp [hkey])) (by simp [Pt.foot,e])
      simp [Ne.symm hne])
     (fun o ho=>by rw [hkey] at ho;cases ho;exact ⟨rfl,rfl,rfl,rfl,List.prefix_refl _⟩) (fun c hc=>.inr ⟨by simp [hkey],hc⟩) (by simp [O.isAm]) rfl
     (fun e2=>by
      refine ⟨es.push { key:=k,val:=.pointer (some ⟨b,0,none⟩),born:=clock },clock+1,by rw [updP_same];simp [hblk],?_,?_,by rw [updP_same];exact hU,by rw [updP_same];exact hn⟩
      ·rw [updP_same,Array.toList_push]
       exact PR.push hkp hE hbj
      ·rw [updP_same]
       refine BR.evo e2.kept e2.sub _ _ (fun c hc=>⟨?_,(hB.lt hc).2⟩) hB
       have hne:c≠(ι key').1:=fun e=>hn'.1 (e ▸ hc)
       simp [Ne.symm hne])
    exact ⟨_,U,_,hrun hb hE.keys hq,m1,m2,rfl⟩
  ·simp [Q.run] at hr
 ·simp [Q.run] at hr
theorem good_boxQ (hm:Mem w U ι ob) {dst:Option Nat} {x:V} {u:Value} {cs:List L} {e:Nat} {r:Res} (hx:VR w U ι ob x u) (hc:x.cells=some cs)
  (hr:(boxQ dst cs e).run ob=some r):Good P w U ι ob (Instr.box e u) r:=by
 unfold boxQ at hr
 split at hr
 ·rename_i k
  simp only [Q.run] at hr
  split at hr
  ·rename_i hk
   exact good_box hm hx hc (dst:=some k) (by simp only [fresh,Q.run,hk];exact hr)
  ·rename_i keys rows size elem hk
   have hg:=(guard_run hr).1
   replace hr:=(guard_run hr).2
   simp only [decide_eq_true_eq] at hg
   obtain ⟨rfl,hsz⟩:=hg
   obtain ⟨⟨ds,us⟩,hfr,hr⟩:=bind_run hr
   obtain ⟨hus,hr⟩:=guard_run hr
   simp only [List.isEmpty_iff] at hus
   subst hus
   simp only [Q.run,Option.some.injEq] at hr
   subst hr
   have hcd:=ds_of_frzs hfr
   subst hcd
   have hFR:=LF_FR (VR.cells hx hc).1
   obtain ⟨es,clock,hb,hE,hB,hU,hn⟩:=hm.obj _ _ hk
   have old:∀ b,b < w.heap.size→(w.alloc (.cells u.cells elem)).heap[b]?=w.heap[b]?:=fun b hb=>by
    show (w.heap.push _)[b]?=_
    rw [Array.getElem?_push,if_neg (by omega)]
   obtain ⟨m1,m2⟩:=mem_stepA (w':=w.alloc (.cells u.cells elem)) hm k (.am keys (rows++[ds]) size elem) ⟨(ι k).1,(ι k).2,(ι k).3++[w.heap.size]⟩ rfl rfl rfl (by simp) (fun b hb _=>old b hb)
    (fun o ho=>by rw [hk] at ho;cases ho;exact ⟨rfl,rfl,rfl,rfl,List.prefix_append _ _⟩)
    (fun c hc=>by
     simp only [Pt.foot,List.mem_cons,List.mem_append,List.not_mem_nil,or_false] at hc
     rcases hc with rfl | hc | rfl
     ·exact .inr ⟨by simp [hk],by simp [Pt.foot]⟩
     ·exact .inr ⟨by simp [hk],by simp [Pt.foot,hc]⟩
     ·exact .inl (Nat.le_refl _)) (by simp [O.isAm]) rfl
    (fun e2=>by
     refine ⟨es,clock,by rw [updP_same];simp only [];rw [old _ (hm.block hk)];exact hb,by rw [updP_same];exact hE.more _,?_,by rw [updP_same];exact hU,?_⟩
     ·rw [updP_same]
      exact BR.push (heap_alloc_new w _) (FR.mono e2.kept e2.sub _ _ hFR) (by simpa using hsz) (fun h=>absurd (hm.lt _ h) (by simp)) (BR.evo e2.kept e2.sub _ _ (fun c hc=>⟨old c (hB.lt hc).1,(hB.lt hc).2⟩) hB)
     ·rw [updP_same]
      simp only [Pt.foot] at hn ⊢
      rw [←List.cons_append,List.nodup_append]
      exact ⟨hn,by simp,fun a ha b hb=>by
       simp at hb
       subst hb
       have:=hm.foot hk (b:=a) (by simpa [Pt.foot] using ha)
       omega⟩)
   refine ⟨.pointer (some ⟨w.heap.size,0,none⟩),_,U,_,by simp [Instr.box,newVar,newRow],m1,m2,?_⟩
   simp only [VR,LR,putO]
   exact ⟨⟨_,_,_,_,put1_same _ _ _⟩,w.heap.size,by rw [updP_same];simp [←hB.len],rfl⟩
  ·simp [Q.run] at hr
 ·simp [Q.run] at hr
theorem good_upd (hm:Mem w U ι ob) {t kd:Nat} {g:Bool} {x v:V} {ux uv:Value} {k:Value} {r:Res} (hx:VR w U ι ob x ux) (hv:VR w U ι ob v uv) (hkp:plain k=true) (hk:keyC P t=some kd)
  (hr:(updQ kd g x k v).run ob=some r):GoodU P w U ι ob (Instr.mapUpdate t ux k uv) r:=by
 obtain ⟨kt,e',d,ht,htk,hd⟩:=keyC_desc hk
 by_cases hq:∃ key,x=.one (.mq key)
 ·obtain ⟨key,rfl⟩:=hq
  exact good_updP hm hx hv hkp hk hr
 unfold updQ at hr
 split at hr
 ·exact absurd ⟨_,rfl⟩ hq
 ·rename_i key
  simp only [Q.run] at hr
  split at hr
  ·rename_i agg' keys vals own hkey
   obtain ⟨hg,hr2⟩:=guard_run hr;clear hr
   simp only [Bool.and_eq_true,beq_iff_eq] at hg
   obtain ⟨⟨⟨rfl,rfl⟩,hva⟩,hik⟩:=hg
   obtain ⟨cs,hcs,hr⟩:=opt_bind_run hr2;clear hr2
   obtain ⟨⟨ds,us⟩,hfr,hr2⟩:=bind_run hr;clear hr
   obtain ⟨hus,hr3⟩:=guard_run hr2;clear hr2
   simp only [List.isEmpty_iff] at hus
   subst hus
   obtain ⟨q,hq,hr⟩:=opt_bind_run hr3;clear hr3
   have hcd:=ds_of_frzs hfr
   subst hcd
   obtain ⟨hl,_⟩:=VR.cells hv hcs
   have hFR:=LF_FR hl
   have huv:uv=valOf g uv.cells.toList∧(g=false→uv.cells.toList.length=1):=by
    cases v with
    | one y =>
     simp only [isAggV] at hva
     subst hva
     have hlen:=hFR.len
     simp only [V.cells] at hcs
     split at hcs
     ·rename_i hdef
      simp only [VR] at hv
      have:=(LR.cells hv hdef).1
      rw [this]
      exact ⟨rfl,fun _=>rfl⟩
     ·cases hcs
    | agg ys =>
     simp only [isAggV] at hva
     subst hva
     simp only [VR] at hv
     obtain ⟨vs,rfl,_⟩:=hv
     exact ⟨rfl,by simp⟩
    | tup ys=>simp [V.cells] at hcs
   simp only [VR,LR] at hx
   obtain ⟨_,_,_,_,h1,rfl⟩:=hx
   obtain ⟨es,clock,hb,hkr,hU⟩:=hm.obj _ _ hkey
   obtain ⟨r',f1,f2,f3,f4⟩:=findNow_ok hd hkr hq
   have hobj:(getObj (ι key).1).run P w=.ok (.map es clock) w:=by simp [getObj,Sem.run,hb]
   have hfind:(Instr.findKey kt k es.toList).run P w=.ok r' w:=by simp [Instr.findKey,run_underlying htk,f1]
   have hset:∀ o:Obj,(setObj (ι key).1 o).run P w=.ok () { w with heap:=w.heap.setIfInBounds (ι key).1 o }:=fun o=>by simp [setObj,Sem.run,hb]
   have hblk:=hm.block hkey
   have fin:∀ (es2:Array MapEntry) (clock2:Nat) (keys2:List Value) (vals2:List (List D)),KR w U g keys2 es2.toList vals2→(Instr.mapUpdate t (.map (some (ι key).1)) k uv).run P w=.ok () { w with heap:=w.heap.setIfInBounds (ι key).1 (.map es2 clock2) } →
     r=(.one .undef,[(key,.mp g keys2 vals2 true)])→GoodU P w U ι ob (Instr.mapUpdate t (.map (some (ι key).1)) k uv) r:=by
    intro es2 clock2 keys2 vals2 hk2 hrun hr'
    subst hr'
    obtain ⟨m1,m2⟩:=mem_step (w':={ w with heap:=w.heap.setIfInBounds (ι key).1 (.map es2 clock2) }) hm key (.mp g keys2 vals2 true) ((ι key).1,(ι key).2) rfl rfl rfl (by simp)
     (fun b hb' hbk=>by
      have hne:b≠(ι key).1:=hbk.resolve_left (by simp [hkey])
      simp [Ne.symm hne])
     (fun o ho=>by rw [hkey] at ho;cases ho;exact ⟨rfl,rfl,rfl⟩) (.inr ⟨by simp [hkey],rfl⟩) rfl
     (fun e2=>⟨es2,clock2,by rw [updP_same];simp [hblk],KR.mono e2.kept e2.sub _ _ _ _ hk2,by rw [updP_same];exact hU⟩)
    exact ⟨_,U,_,hrun,m1,m2,rfl⟩
   cases q with
   | none =>
    simp only [Q.run,Option.some.injEq] at hr
    have hr'n:r'=none:=by cases r'<;>simp at f2 ⊢
    subst hr'n
    refine fin (es.push { key:=k,val:=uv,born:=clock }) (clock+1) _ _ ?_ ?_ hr.symm
    ·have:=KR.push (n:=clock) hkr hkp huv.2 hFR
     rw [←huv.1] at this
     simpa using this
    ·simp [Instr.mapUpdate,run_underlying ht,hobj,checkKey_ok htk hd,hfind,hset]
   | some j =>
    simp only [Q.run,Option.some.injEq] at hr
    obtain ⟨⟨j',x'⟩,rfl,hj'⟩:=Option.map_eq_some_iff.1 f2
    simp only at hj'
    subst hj'
    obtain ⟨_,kk,hkk,hkeq⟩:=f4 j' rfl
    rw [Nat.sub_zero] at hkk
    have hkk':=kEq_eq hkeq
    have hold:((es[j']?).map (·.key)).getD k=k:=by
     cases hes:es[j']? with
     | none=>rfl
     | some e0 =>
      have aux:∀ {vals:List (List D)} {keys:List Value} {es:List MapEntry} {j:Nat} {e:MapEntry} {kk:Value},KR w U g keys es vals→es[j]?=some e→keys[j]?=some kk→e.key=kk:=by
       intro vals
       induction vals with
       | nil=>intro keys es j e kk h h1;simp only [KR] at h;obtain ⟨rfl,rfl⟩:=h;simp at h1
       | cons r rs ih =>
        intro keys es j e kk h h1 h2
        simp only [KR] at h
        obtain ⟨k1,ks,e1,es',cs1,rfl,rfl,h3,_,_,_,_,h8⟩:=h
        cases j with
        | zero=>simp at h1 h2;rw [←h1,← h2];exact h3
        | succ j=>exact ih h8 (by simpa using h1) (by simpa using h2)
      simp only [Option.map_some,Option.getD_some]
      rw [aux hkr (by simpa using hes) hkk,hkk']
    have hstay:(Instr.keyThatStays (((es[j']?).map (·.key)).getD k) k).run P w=.ok k w:=by
     rw [hold]
     have:Instr.sameBits 10000 k k=true:=by
      have h:=stays_ok hkeq 10000
      rwa [hkk'] at h
     simp [Instr.keyThatStays,this]
    refine fin (es.modify j' fun e=>{ e with key:=k,val:=uv }) clock _ _ ?_ ?_ hr.symm
    ·have:=KR.set_ (j:=j') (k:=k) hkr (fun q hq=>by rw [hkk] at hq;cases hq;exact hkk') huv.2 hFR
     rw [←huv.1] at this
     simpa using this
    ·simp only [Instr.mapUpdate,Sem.run_bind,run_underlying ht,Result.andThen_ok,hobj,checkKey_ok htk hd,hfind,hstay,hset]
  ·simp [Q.run] at hr
 ·simp [Q.run] at hr
theorem good_makeMap (hm:Mem w U ι ob) {dst:Option Nat} {t e:Nat} {g:Bool} {o:O} {r:Res} (ho:mapO P e g=some o) (hr:(fresh dst o (mapL o)).run ob=some r):Good P w U ι ob (Instr.makeMap t none) r:=by
 have nU:¬ U w.heap.size:=fun h=>absurd (hm.lt _ h) (by simp)
 have cases3:(∃ s t',o=.am [] [] s t')∨o=.ml [] []∨o=.mp g [] [] true:=by
  unfold mapO at ho
  split at ho
  ·simp only [Option.map_eq_some_iff] at ho
   obtain ⟨s,_,rfl⟩:=ho
   exact .inl ⟨_,_,rfl⟩
  ·cases ho;exact .inr (.inl rfl)
  ·cases ho;exact .inr (.inr rfl)
 refine good_fresh hm hr (u:=.map (some w.heap.size)) (obj:=.map #[] 0) (c:=0) (by simp [Instr.makeMap]) (by rcases cases3 with ⟨_,_,rfl⟩ | rfl | rfl<;>rfl) ?_ ?_
 ·intro k ι' ob' _ hι e'
  rcases cases3 with ⟨_,_,rfl⟩ | rfl | rfl
  ·exact ⟨#[],0,by rw [hι];exact heap_alloc_new w _,by simp [PR],by rw [hι];trivial,by rw [hι];exact nU,by rw [hι];simp [Pt.foot]⟩
  ·exact ⟨#[],0,by rw [hι];exact heap_alloc_new w _,by simp [ER],by rw [hι];exact nU⟩
  ·exact ⟨#[],0,by rw [hι];exact heap_alloc_new w _,by simp [KR],by rw [hι];simpa using nU⟩
 ·intro k ι' ob' ho hι
  rcases cases3 with ⟨_,_,rfl⟩ | rfl | rfl
  ·simp only [mapL,VR,LR];exact ⟨.inr ⟨_,_,_,_,ho⟩,by rw [hι]⟩
  ·simp only [mapL,VR,LR];exact ⟨.inl ⟨_,_,ho⟩,by rw [hι]⟩
  ·simp only [mapL,VR,LR];exact ⟨g,[],[],true,ho,by rw [hι]⟩
end Go.VE
namespace Go.VE
open Go.RowKit
variable {P:Program} {w:World} {U:Nat→Prop} {ι:Pl} {ob:Ob}
theorem arr_rewrite (hm:Mem w U ι ob) {k:Nat} {rows rows':List (List D)} {size elem:Nat} {cur:Array Value} (hk:ob k=some (.arr rows size elem true)) (hcur:w.heap[(ι k).1]?=some (.cells cur elem (0,0)))
  {new:List Value} (hnl:new.length=cur.size) (hlen:rows'.length=rows.length) (hrl:∀ r∈rows',r.length=size) {vs:List Value} (hvs:FR w U rows'.flatten vs) (hv:∀ (j:Nat) (u:Value),vs[j]?=some u→new[j]?=some u) :
  ∃ ι',Mem (w.setRow (ι k).1 new.toArray) U ι' (put1 ob k (.arr rows' size elem true))∧Evo w U ι ob (w.setRow (ι k).1 new.toArray) U ι' (put1 ob k (.arr rows' size elem true)):=by
 obtain ⟨cur',h2,h3,h4,h5,h6,h7⟩:=hm.obj k _ hk
 rw [hcur] at h2
 cases h2
 obtain ⟨m1,m2⟩:=mem_step (w':=w.setRow (ι k).1 new.toArray) hm k (.arr rows' size elem true) ((ι k).1,(ι k).2) rfl rfl rfl (by rw [setRow_size];exact Nat.le_refl _)
  (fun b _ hb=>setRow_other _ _ _ _ (hb.resolve_left (by simp [hk]))) (fun o ho=>by rw [hk] at ho;cases ho;exact ⟨rfl,rfl,rfl,by omega,fun _=>rfl⟩) (.inr ⟨by simp [hk],rfl⟩) rfl
  (fun e'=>by
   refine ⟨_,by rw [updP_same];exact setRow_heap _ _ _ _ _ _ hcur,by rw [updP_same];simp only [];omega,by rw [updP_same];exact h4,by rw [updP_same];simp [hnl,h5],?_,by rw [updP_same];exact h7⟩
   rw [updP_same,RR_iff]
   refine ⟨hrl,vs,FR.mono e'.kept e'.sub _ _ hvs,fun j u hj=>?_⟩
   rw [heap_cell (setRow_heap _ _ _ _ _ _ hcur)]
   simpa using hv j u hj)
 exact ⟨_,m1,m2⟩
theorem good_clear (hm:Mem w U ι ob) {x:V} {ux:Value} {t ty e:Nat} {zs:List Value} {r:Res} (hx:VR w U ι ob x ux) (he:elemC P t=some e) (hz:zeroC P e=some zs) (hs0:0 < zs.length) (hr:(clearQ zs x).run ob=some r) :
  Good P w U ι ob (Builtin.clear_ #[t] ty #[ux]) r:=by
 obtain ⟨zv,hzv,hzc,hzp⟩:=r_zero (w:=w) hz
 have hu:=r_slice he
 unfold clearQ at hr
 split at hr
 ·simp only [Q.run,Option.some.injEq] at hr
  subst hr
  simp only [VR,LR,DR] at hx
  obtain ⟨rfl,_⟩:=hx
  refine good_pure hm (u:=.tuple #[]) ?_ (by simp only [VR,VF];exact ⟨#[],rfl,rfl⟩)
  simp [Builtin.clear_,run_underlying hu]
 ·rename_i k off n c
  simp only [Q.run] at hr
  split at hr
  ·rename_i rows size elem own hk
   obtain ⟨hg,hr'⟩:=guard_run hr
   simp only [Q.run,Option.some.injEq] at hr'
   subst hr'
   clear hr
   simp only [Bool.and_eq_true,decide_eq_true_eq] at hg
   obtain ⟨hown,rfl,rfl,hofn⟩:=hg
   subst hown
   simp only [VR,LR] at hx
   obtain ⟨rows',size',elem',own',hk',_,hval,_⟩:=hx
   rw [hk] at hk'
   cases hk'
   obtain ⟨_,rfl⟩:=hval rfl
   obtain ⟨cur,h2,h3,h4,h5,h6,h7⟩:=hm.obj k _ hk
   rw [RR_iff] at h6
   obtain ⟨hrl,vs,hvs,hcell⟩:=h6
   have hvl:vs.length=rows.length*zs.length:=by
    rw [hvs.len,flatten_len (fun r hr=>hrl r hr)]
   have hvc:∀ (j:Nat) (u:Value),vs[j]?=some u→cur.toList[j]?=some u:=fun j u hj=>by
    have:=hcell j u hj
    rw [heap_cell h2] at this
    simpa using this
   have hzsz:zv.cells.size=zs.length:=by rw [←hzc];simp
   have hzer:(Builtin.zeroCells zv.cells n).toList=(List.replicate n zs).flatten:=by
    have:=made_flatten (z:=zv.cells) (n:=n) hzsz hs0
    rw [hzc] at this
    rw [←this]
    unfold Builtin.zeroCells
    rw [hzsz]
   have hzflen:(List.replicate n zs).flatten.length=n*zs.length:=by
    simp [List.length_flatten]
   have hcl:rows.length*zs.length≤cur.toList.length:=by
    have:=Nat.mul_le_mul_right zs.length h3
    rw [←h5] at this
    simpa using this
   have hmul:off*zs.length+n*zs.length=rows.length*zs.length:=by rw [←Nat.add_mul,hofn]
   have hone:∀ v∈(List.replicate n zs).flatten,v.oneCell'=true:=by
    intro v hv
    obtain ⟨l,hl,hv⟩:=List.mem_flatten.1 hv
    rw [(List.mem_replicate.1 hl).2] at hv
    exact plain_one (by simpa using (List.all_eq_true.1 hzp) v hv)
   have hnl:(cur.toList.take (off*zs.length)++(List.replicate n zs).flatten++cur.toList.drop (off*zs.length+(List.replicate n zs).flatten.length)).length=cur.size:=by
    simp only [List.length_append,List.length_take,List.length_drop,hzflen,Array.length_toList] at hcl ⊢
    omega
   obtain ⟨ι',m1,m2⟩:=arr_rewrite hm hk h2 hnl (rows':=rows.take off++List.replicate n (zs.map .lit)) (by simp;omega)
    (fun r hr=>by
     rcases List.mem_append.1 hr with hr | hr
     ·exact hrl r (List.mem_of_mem_take hr)
     ·rw [(List.mem_replicate.1 hr).2];simp)
    (vs:=vs.take (off*zs.length)++(List.replicate n zs).flatten)
    (by
     rw [List.flatten_append]
     have hto:(rows.take off).flatten=rows.flatten.take (off*zs.length):=by
      have e1:rows.flatten=(rows.take off).flatten++(rows.drop off).flatten:=by rw [←List.flatten_append,List.take_append_drop]
      have e2:(rows.take off).flatten.length=off*zs.length:=by
       rw [flatten_len (size:=zs.length) (fun r hr=>hrl r (List.mem_of_mem_take hr)),List.length_take,Nat.min_eq_left (by omega)]
      rw [e1,List.take_append_of_le_length (by omega),← e2,List.take_length]
     rw [hto]
     exact (hvs.take _).append (replicate_FR hzp n))
    (fun j u hj=>by
     by_cases hlt:j < off*zs.length
     ·rw [List.getElem?_append_left (by rw [List.length_take];omega),List.getElem?_take,if_pos hlt] at hj
      rw [List.append_assoc,List.getElem?_append_left (by rw [List.length_take];omega),List.getElem?_take,if_pos hlt]
      exact hvc j u hj
     ·have hl1:(vs.take (off*zs.length)).length=off*zs.length:=by rw [List.length_take];omega
      have hl2:(cur.toList.take (off*zs.length)).length=off*zs.length:=by rw [List.length_take];omega
      rw [List.getElem?_append_right (by omega),hl1] at hj
      rw [List.append_assoc,List.getElem?_append_right (by omega),hl2]
      have:=(List.getElem?_eq_some_iff.1 hj).1
      rw [List.getElem?_append_left this]
      exact hj)
   by_cases hn:n=0
   ·subst hn
    have hoff:off=rows.length:=by omega
    have hself:put1 ob k (.arr (rows.take off++List.replicate 0 (zs.map .lit)) zs.length elem true)=ob:=by
     funext j
     simp only [put1,hoff,List.take_length,List.replicate_zero,List.append_nil]
     split
     ·rename_i e;rw [e,hk]
     ·rfl
    refine ⟨.tuple #[],w,U,ι,?_,?_,?_,by simp only [VR,VF];exact ⟨#[],rfl,rfl⟩⟩
    ·simp [Builtin.clear_,run_underlying hu]
    ·simp only [putO];rw [hself];exact hm
    ·simp only [putO];rw [hself];exact Evo.refl _ _ _ _
   ·have hrun:=run_storeCells_at P (ι k).1 (off*zs.length) elem (List.replicate n zs).flatten 0 cur w h2 (by rw [hzflen];simp only [Array.length_toList] at hcl;omega) hone
    simp only [Nat.add_zero] at hrun
    refine ⟨.tuple #[],_,U,ι',?_,m1,m2,by simp only [VR,VF];exact ⟨#[],rfl,rfl⟩⟩
    cases n with
    | zero=>exact absurd rfl hn
    | succ n=>simp [Builtin.clear_,run_underlying hu,hzv,hzer,hrun]
  ·simp [Q.run] at hr
 ·simp [Q.run] at hr
theorem flatten_take {rs:List (List D)} {size:Nat} (h:∀ r∈rs,r.length=size) (n:Nat):(rs.take n).flatten=rs.flatten.take (n*size):=by
 induction rs generalizing n with
 | nil=>simp
 | cons r rs ih =>
  have hr:=h r (by simp)
  cases n with
  | zero=>simp
  | succ n=>simp only [List.take_succ_cons,List.flatten_cons,ih (fun x hx=>h x (by simp [hx])),Nat.add_mul,Nat.one_mul,List.take_append,hr];rw [List.take_of_length_le (l:=r) (by omega),Nat.add_sub_cancel]
theorem flatten_drop {rs:List (List D)} {size:Nat} (h:∀ r∈rs,r.length=size) (n:Nat):(rs.drop n).flatten=rs.flatten.drop (n*size):=by
 induction rs generalizing n with
 | nil=>simp
 | cons r rs ih =>
  have hr:=h r (by simp)
  cases n with
  | zero=>simp
  | succ n=>simp only [List.drop_succ_cons,List.flatten_cons,ih (fun x hx=>h x (by simp [hx])),Nat.add_mul,Nat.one_mul,List.drop_append,hr];rw [List.drop_of_length_le (l:=r) (by omega),Nat.add_sub_cancel];rfl
theorem good_copy (hm:Mem w U ι ob) {x y:V} {ux uy:Value} {t ty e sz:Nat} {new:List (List D)} {r:Res} (hx:VR w U ι ob x ux) (hy:VR w U ι ob y uy) (he:elemC P t=some e) (hs:sizeC P e=some sz)
  (hsrc:(srcRows sz y).run ob=some new) (hr:(copyQ sz x new).run ob=some r):Good P w U ι ob (Builtin.copy_ #[t,t] ty #[ux,uy]) r:=by
 obtain ⟨a,sn,sc,rfl,rfl,hnl,hnil,vs,hvs,hcell⟩:=src_ok hm hy hsrc
 have hu:=r_slice he
 unfold copyQ at hr
 split at hr
 ·rename_i k n c
  simp only [Q.run] at hr
  split at hr
  ·rename_i rows size elem own hk
   have hg:=(guard_run hr).1
   replace hr:=(guard_run hr).2
   simp only [Q.run,Option.some.injEq] at hr
   subst hr
   simp only [Bool.and_eq_true,decide_eq_true_eq] at hg
   obtain ⟨hown,rfl,rfl,rfl⟩:=hg
   subst hown
   simp only [VR,LR] at hx
   obtain ⟨rows',size',elem',own',hk',_,hval,_⟩:=hx
   rw [hk] at hk'
   cases hk'
   obtain ⟨_,rfl⟩:=hval rfl
   obtain ⟨cur,h2,h3,h4,h5,h6,h7⟩:=hm.obj k _ hk
   rw [RR_iff] at h6
   obtain ⟨hrl,ws,hws,hwcell⟩:=h6
   have hwl:ws.length=rows.length*size:=by rw [hws.len,flatten_len (fun r hr=>hrl r hr)]
   have hvl:vs.length=new.length*size:=by rw [hvs.len,flatten_len (fun r hr=>hnl r hr)]
   have hwc:∀ (j:Nat) (u:Value),ws[j]?=some u→cur.toList[j]?=some u:=fun j u hj=>by
    have:=hwcell j u hj
    rw [heap_cell h2] at this
    simpa using this
   have hcl:rows.length*size≤cur.toList.length:=by
    have:=Nat.mul_le_mul_right size h3
    rw [←h5] at this
    simpa using this
   have hul:(vs.take (rows.length*size)).length=Nat.min new.length rows.length*size:=by
    rw [List.length_take,hvl]
    show min _ _=min _ _*size
    rcases Nat.le_total new.length rows.length with h | h
    ·rw [Nat.min_eq_left h,Nat.min_eq_right (Nat.mul_le_mul_right _ h)]
    ·rw [Nat.min_eq_right h,Nat.min_eq_left (Nat.mul_le_mul_right _ h)]
   have hule:(vs.take (rows.length*size)).length≤rows.length*size:=by rw [List.length_take];omega
   have hone:∀ v∈vs.take (rows.length*size),v.oneCell'=true:=fun v hv=>hvs.one v (List.mem_of_mem_take hv)
   have hload:(Builtin.firstCells size (Nat.min new.length rows.length) (.slice a new.length sc)).run P w=.ok (vs.take (rows.length*size)).toArray w:=by
    cases a with
    | none =>
     have:=hnil rfl
     subst this
     have:vs=[]:=List.eq_nil_of_length_eq_zero (by simpa using hvl)
     subst this
     simp [Builtin.firstCells]
    | some ad =>
     have hl:=run_loadCells_list (P:=P) w ad (vs.take (rows.length*size)) (fun j u hu=>by
      rw [List.getElem?_take] at hu
      split at hu
      ·exact hcell ad rfl j u hu
      ·cases hu)
     rw [hul] at hl
     simpa [Builtin.firstCells] using hl
   have hst:=run_storeCells_at P (ι k).1 0 elem (vs.take (rows.length*size)) 0 cur w h2 (by simp only [Array.length_toList] at hcl;omega) hone
   simp only [Nat.add_zero,Nat.zero_add] at hst
   have hnlen:(cur.toList.take 0++vs.take (rows.length*size)++cur.toList.drop (vs.take (rows.length*size)).length).length=cur.size:=by
    simp only [List.length_append,List.length_take,List.length_drop,Array.length_toList] at hcl ⊢
    omega
   obtain ⟨ι',m1,m2⟩:=arr_rewrite hm hk h2 hnlen (rows':=new.take rows.length++rows.drop new.length) (by simp;omega)
    (fun r hr=>by
     rcases List.mem_append.1 hr with hr | hr
     ·exact hnl r (List.mem_of_mem_take hr)
     ·exact hrl r (List.mem_of_mem_drop hr))
    (vs:=vs.take (rows.length*size)++ws.drop (new.length*size))
    (by
     rw [List.flatten_append,flatten_take hnl,flatten_drop (fun r hr=>hrl r hr)]
     exact (hvs.take _).append (hws.drop _))
    (fun j u hj=>by
     simp only [List.take_zero,List.nil_append]
     rw [List.getElem?_append] at hj ⊢
     split
     ·rename_i hlt;rw [if_pos hlt] at hj;exact hj
     ·rename_i hlt
      rw [if_neg hlt,List.getElem?_drop] at hj
      have h8:=(List.getElem?_eq_some_iff.1 hj).1
      rw [hwl] at h8
      have h9:new.length*size < rows.length*size:=by omega
      have h10:(vs.take (rows.length*size)).length=new.length*size:=by rw [List.length_take,hvl];omega
      rw [List.getElem?_drop,h10]
      rw [h10] at hj
      exact hwc _ u hj)
   refine ⟨goInt (Nat.min new.length rows.length),_,U,ι',?_,m1,m2,?_⟩
   ·simp [Builtin.copy_,run_underlying hu,Builtin.lenOf,r_sizeOf hs,hload,hst]
   ·simp only []
    rw [show min rows.length new.length=Nat.min new.length rows.length from Nat.min_comm _ _]
    exact vlit_VR rfl
  ·simp [Q.run] at hr
 ·simp [Q.run] at hr
theorem alloc_old (w:World) (o:Obj) {b:Nat} (hb:b < w.heap.size):(w.alloc o).heap[b]?=w.heap[b]?:=by
 show (w.heap.push o)[b]?=_
 rw [Array.getElem?_push,if_neg (by omega)]
theorem mem_newU (hm:Mem w U ι ob) (obj:Obj):Mem (w.alloc obj) (fun b=>U b∨b=w.heap.size) ι ob∧Evo w U ι ob (w.alloc obj) (fun b=>U b∨b=w.heap.size) ι ob:=by
 have e:Evo w U ι ob (w.alloc obj) (fun b=>U b∨b=w.heap.size) ι ob :=
  ⟨rfl,rfl,rfl,by simp,fun b hb=>alloc_old w obj (hm.lt b hb),fun _ h=>.inl h,fun _ cells _ h=>⟨cells,h,rfl⟩,fun _ rows _ _ own h=>⟨rows,own,h,Nat.le_refl _,fun _=>rfl⟩,fun _ _ keys vals own h=>⟨keys,vals,own,h,rfl⟩,fun _ keys vals h=>⟨keys,vals,h,rfl⟩,fun _ keys rows _ _ h=>⟨keys,rows,h,rfl,List.prefix_refl _⟩,
   fun b hb _=>alloc_old w obj hb,fun k o h ho b hb=>.inr ⟨k,o,h,ho,hb⟩,fun b h=>h.elim .inl fun h=>.inr (.inl (by omega))⟩
 refine ⟨⟨fun b hb=>?_,fun k o hk=>?_,hm.inj,hm.one,hm.lay.mono e.kept e.sub⟩,e⟩
 ·have:(w.alloc obj).heap.size=w.heap.size+1:=by simp
  rcases hb with hb | rfl
  ·have:=hm.lt b hb;omega
  ·omega
 ·exact OR.evo e rfl (fun b hb=>alloc_old w obj (hm.foot hk hb)) (fun b hb=>⟨fun h=>h.resolve_right (Nat.ne_of_lt (hm.foot hk hb)),.inl⟩) (hm.obj k o hk)
theorem good_cslice (hm:Mem w U ι ob) {t e s len:Nat} {zs:List Value} {ρ:Operand→V} {ρ':Operand→Value} {parts:Array (Nat×Operand)} {rows:List (List D)} {us:List (Nat×O)}
  (hρ:∀ x,VR w U ι ob (ρ x) (ρ' x)) (he:elemC P t=some e) (hs:sizeC P e=some s) (hz:zeroC P e=some zs) (hs0:0 < s) (hzl:zs.length=s) (hlen:len*s≤16777216)
  (hrows:(rowsOf ρ s (List.replicate len (zs.map .lit)) parts.toList).run ob=some (rows,us)) :
  Good P w U ι ob (Instr.buildSlice t len (parts.map fun (i,x)=>(i,ρ' x))) (.one (.d (.sl s rows)),us):=by
 obtain ⟨U',arr',m1,m2,m4,m5,hrl,hasz,m7,hrun⟩:=buildSlice_run hm hρ he hs hz hs0 hzl hlen hrows
 obtain ⟨n1,n2⟩:=mem_newU m1 (.cells arr' e)
 refine ⟨_,w.alloc (.cells arr' e),_,ι,hrun,n1,m2.trans n2,?_⟩
 simp only [VR,LR,DR]
 have hle:len≤len*s:=Nat.le_mul_of_pos_right _ hs0
 refine ⟨⟨w.heap.size,0,none⟩,len,by rw [hrl],by omega,by simp [maxLen];omega,fun _=>⟨w.heap.size,0,rfl,.inr rfl,?_⟩⟩
 have hnew:(w.alloc (.cells arr' e)).heap[w.heap.size]?=some (.cells arr' e (0,0)):=heap_alloc_new w _
 exact RR_iff.2 ⟨m5,arr'.toList,FR.mono n2.kept n2.sub _ _ m4,fun j u hu=>by rw [heap_cell hnew,Nat.zero_add];simpa using hu⟩
theorem good_cbox (hm:Mem w U ι ob) {x:V} {u:Value} {cs:List L} {e:Nat} {r:Res} (hx:VR w U ι ob x u) (hc:x.cells=some cs)
  (hr:((frzs cs).bind fun (ds,us)=>.ret (.one (.d (.dp ds 0)),us)).run ob=some r):Good P w U ι ob (Instr.box e u) r:=by
 obtain ⟨⟨ds,us⟩,hf,hr⟩:=bind_run hr
 simp only [Q.run,Option.some.injEq] at hr
 subst hr
 have hl:=(VR.cells hx hc).1
 obtain ⟨U1,m1,e1,f1,_⟩:=frzs_ok hf (SameBut.refl ob) hm hl
 obtain ⟨m2,e2⟩:=mem_newU m1 (.cells u.cells e)
 refine ⟨.pointer (some ⟨w.heap.size,0,none⟩),w.alloc (.cells u.cells e),_,ι,by simp [Instr.box,newVar,newRow],m2,e1.trans e2,?_⟩
 simp only [VR,LR,DR]
 refine ⟨w.heap.size,0,rfl,.inr rfl,?_⟩
 rw [CR_iff]
 refine ⟨u.cells.toList,FR.mono e2.kept e2.sub _ _ f1,fun j v hj=>?_⟩
 have hh:(w.alloc (.cells u.cells e)).heap[w.heap.size]?=some (.cells u.cells e):=heap_alloc_new w _
 rw [heap_cell hh]
 simpa using hj
theorem strC_u {t:Nat} (h:strC P t=true):P.underlying t=some .string:=by
 unfold strC at h
 split at h
 ·assumption
 ·cases h
theorem good_strAt (hm:Mem w U ι ob) {x:V} {u iv:Value} {t:Nat} {k:IntKind} {i:Int} {v:Value} (hx:VR w U ι ob x u) (ht:strC P t=true) (hi:iv=.int k i) (hv:strAt x i=some v):Good P w U ι ob (Instr.index t u iv) (vlit v,[]):=by
 unfold strAt at hv
 split at hv
 ·rename_i s j
  split at hv
  ·rename_i h0
   simp only [Option.map_eq_some_iff] at hv
   obtain ⟨b,hb,rfl⟩:=hv
   simp only [VR,LR,DR] at hx
   refine good_pure hm (u:=.int .u8 b.toNat) ?_ (vlit_VR rfl)
   simp [Instr.index,hi,asIntOf,run_underlying (strC_u ht),hx.1,h0,hb]
  ·cases hv
 ·cases hv
theorem r_boundsS {kl kh:IntKind} {n cap:Nat} {l h:Option Int} {lv hv:Option Value} (hl:lv=l.map (Value.int kl)) (hh:hv=h.map (Value.int kh)) (h0:0≤l.getD 0) (h1:l.getD 0≤h.getD n) (h2:h.getD n≤n) (h3:n≤cap) :
  (Instr.sliceBounds false n cap lv hv none).run P w=.ok ((l.getD 0).toNat,(h.getD n).toNat,cap) w:=by
 subst hl hh
 cases l<;>cases h<;>simp only [Option.getD_none,Option.getD_some,Option.map_none,Option.map_some] at*<;> simp only [Instr.sliceBounds,Sem.run_bind,Sem.run_pure,Result.andThen_ok]
 ·simp
 ·rename_i hi
  rw [run_sliceBound _ _ _ _ _ (by omega) (by omega)]
  simp
 ·rename_i lo
  rw [run_sliceBound _ _ _ _ _ (by omega) (by omega)]
  simp
 ·rename_i lo hi
  rw [run_sliceBound _ _ _ _ _ (by omega) (by omega)]
  simp only [Result.andThen_ok]
  rw [run_sliceBound _ _ _ _ _ (by omega) (by omega)]
  simp
theorem good_strCut (hm:Mem w U ι ob) {x:V} {u:Value} {t:Nat} {kl kh:IntKind} {l h:Option Int} {lv hv:Option Value} {v:Value} (hx:VR w U ι ob x u) (ht:strC P t=true) (hl:lv=l.map (Value.int kl)) (hh:hv=h.map (Value.int kh)) (hr:strCut x l h=some v):Good P w U ι ob (Instr.sliceAt t u lv hv none) (vlit v,[]):=by
 unfold strCut at hr
 split at hr
 ·rename_i s
  split at hr
  ·rename_i hb
   cases hr
   simp only [VR,LR,DR] at hx
   refine good_pure hm (u:=.string (s.extract (l.getD 0).toNat (h.getD s.size).toNat)) ?_ (vlit_VR rfl)
   have:=r_boundsS (P:=P) (w:=w) hl hh hb.1 hb.2.1 hb.2.2 (Nat.le_refl _)
   simp [Instr.sliceAt,run_underlying (strC_u ht),Instr.slice,hx.1,this]
  ·cases hr
 ·cases hr
theorem rowInts_FR:∀ {rows:List (List D)} {l:List Int} {vs:List Value},rowInts rows=some l→FR w U rows.flatten vs→vs=l.map (Value.int .u8)∧l.length=rows.length
 | [],l,vs,h,hf=>by
  simp only [rowInts,Option.some.injEq] at h
  subst h
  cases vs with
  | nil=>exact ⟨rfl,rfl⟩
  | cons v vs=>exact absurd hf.len (by simp)
 | r::rows,l,vs,h,hf=>by
  unfold rowInts at h
  split at h
  ·rename_i h';cases h'
  ·rename_i n r' h'
   cases h'
   simp only [Option.map_eq_some_iff] at h
   obtain ⟨l',hl,rfl⟩:=h
   simp only [List.flatten_cons,List.singleton_append] at hf
   simp only [FR,DR] at hf
   obtain ⟨v,vs',rfl,⟨rfl,_⟩,hf⟩:=hf
   obtain ⟨e1,e2⟩:=rowInts_FR hl hf
   exact ⟨by rw [List.map_cons,← e1],by simp [e2]⟩
  ·cases h
theorem good_bytesStr (hm:Mem w U ι ob) {x:V} {u:Value} {src dst e:Nat} {rows:List (List D)} {l:List Int} (hx:VR w U ι ob x u) (hd:strC P dst=true) (he:elemC P src=some e) (hu:intC P e=some .u8) (hr:(srcRows 1 x).run ob=some rows) (hl:rowInts rows=some l):Good P w U ι ob (convert src dst u) (vlit (.string (strOfI l)),[]):=by
 obtain ⟨a,n,c,rfl,hn,hrl,hnil,vs,hf,hcell⟩:=src_ok hm hx hr
 obtain ⟨e1,e2⟩:=rowInts_FR hl hf
 have hue:P.underlying e=some (.int .u8):=by
  unfold intC at hu
  split at hu
  ·cases hu;assumption
  ·cases hu
 refine good_pure hm (u:=.string (strOfI l)) ?_ (vlit_VR rfl)
 rw [run_convert_bytes_string w src dst e a n c (r_slice he) hue (strC_u hd)]
 cases a with
 | none =>
  have:=hnil rfl
  subst this
  simp only [rowInts,Option.some.injEq] at hl
  subst hl
  simp [Conv.bytesToString,strOfI,Sem.run_pure]
 | some ad =>
  have hlc:=run_loadCells_list (P:=P) (w:=w) ad vs (hcell ad rfl)
  rw [e1,List.length_map,e2,← hn] at hlc
  exact run_bytesToString w ad n c l hlc
end Go.VE
