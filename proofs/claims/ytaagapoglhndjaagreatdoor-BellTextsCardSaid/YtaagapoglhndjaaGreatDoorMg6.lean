/- Bell: Parse, walked. -/
import Derived.Test.YtaagapoglhndjaaGreatDoorMg5
namespace Go.VE
open Go.RowKit Go.Proofs Go.Shelf Go.Lib
set_option maxRecDepth 100000
set_option maxHeartbeats 4000000
theorem split_c (l:List UInt8) (hl:l.length≤8000) (w:World) (hL:Laid w):Calls Tryz.prog 62 #[.string ⟨l.toArray⟩,.string ⟨#[10]⟩] w fun e w' =>
  e=.returned (.slice (some ⟨w.heap.size,0,none⟩) (spl [] l).length (spl [] l).length)∧w'=w.alloc (.cells ((spl [] l).map fun x=>.string ⟨x.toArray⟩).toArray 9):=by
 obtain ⟨m,hm⟩:=hL.m
 have hsz:=bs_size l
 refine (Tryz.strings_Split ⟨l.toArray⟩ ⟨#[10]⟩ m w (by rw [hsz];omega) hm (by decide)).mono ?_
 have hn:countB ⟨l.toArray⟩ ⟨#[10]⟩+1=(spl [] l).length:=by
  have h1:=splitB_all ⟨#[10]⟩ (by decide) 0 _ ⟨l.toArray⟩ rfl
  rw [splitB10,List.length_map] at h1
  exact h1.symm
 rintro e w' ⟨rfl,rfl⟩
 rw [hn]
 refine ⟨rfl,?_⟩
 rw [splitB10,List.map_map]
 rfl
theorem fields_c (x:List UInt8) (hx:x.length≤8000) (w:World):Calls Tryz.prog 63 #[.string ⟨x.toArray⟩,.func (.func 64) #[] #[]] w fun e w' =>
  ∃ A,e=.returned (.slice (some ⟨A,0,none⟩) (wds [] x).length (wds [] x).length)∧w.heap.size≤A∧(∀ (i:Nat) (y:List UInt8),(wds [] x)[i]?=some y→w'.cell? ⟨A,i,none⟩=some (.string ⟨y.toArray⟩))∧Below w.heap.size w w':=by
 have hsz:=bs_size x
 refine (Tryz.strings_FieldsFunc_runes 64 #[] (by intro args w;kernel_rfl) isSp ⟨x.toArray⟩ w (by rw [hsz];omega) (pred64 w)).mono ?_
 rintro e w' ⟨A,rfl,hA,hown,hb⟩
 rw [fields_wds,List.length_map,List.map_map] at hown
 rw [fields_wds,List.length_map]
 refine ⟨A,rfl,hA,fun i y hy=>?_,hb⟩
 have hi:=(List.getElem?_eq_some_iff.1 hy).1
 rw [hown.cellAt i (by omega),List.getElem?_map,hy]
 rfl
def cellsS (acc:List Stk):List Value:=acc.flatMap fun s=>[.int .i64 s.1,.int .i64 s.2.1,.int .i64 s.2.2.1,.int .i64 s.2.2.2]
structure Rnd (l:List UInt8) (w:World) (i:Nat) (acc:List Stk) (v:Value) (wr:World):Prop where
 le:i≤(spl [] l).length
 ac:acc.length≤i
 say:parP 0 (spl [] l)=match parP i ((spl [] l).drop i) with
  | .inl a=>.inl a
  | .inr t=>.inr (acc++t)
 box:wr.heap[w.heap.size]?=some (.cells #[v] 25 (0,0))
 err:wr.heap[w.heap.size+1]?=some (.cells #[.int .i64 0] 34 (0,0))
 nil:acc=[]→v=.slice none 0 0
 own:wr.ownsRow (w.heap.size+3) 84 4 v acc.length (cellsS acc)
 lin:∀ (j:Nat) (x:List UInt8),(spl [] l)[j]?=some x→wr.cell? ⟨w.heap.size+1+1,j,none⟩=some (.string ⟨x.toArray⟩)
 bel:Below w.heap.size w wr
 siz:w.heap.size+3≤wr.heap.size
 lai:Laid wr
theorem drop_cons {l:List (List UInt8)} {i:Nat} {x:List UInt8} (h:l[i]?=some x):l.drop i=x::l.drop (i+1):=by
 obtain ⟨hi,rfl⟩:=List.getElem?_eq_some_iff.1 h
 exact List.drop_eq_getElem_cons hi
theorem own_below {w w':World} {B e size n:Nat} {v:Value} {xs:List Value} (h:w.ownsRow B e size v n xs) (hb:Below w.heap.size w w'):w'.ownsRow B e size v n xs:=by
 refine ⟨h.1,h.2.imp_right ?_⟩
 rintro ⟨g,cap,cur,h1,h2,h3,h4⟩
 have hg:g < w.heap.size:=(Array.getElem?_eq_some_iff.1 h3).1
 exact ⟨g,cap,cur,h1,h2,(hb.block g hg).trans h3,h4⟩
theorem Rnd.keep {l:List UInt8} {w:World} {i:Nat} {acc:List Stk} {v:Value} {wr w1:World} (R:Rnd l w i acc v wr) (hb:Below wr.heap.size wr w1):Rnd l w i acc v w1:=by
 have hs:=R.siz
 refine ⟨R.le,R.ac,R.say,(hb.block _ (by omega)).trans R.box,(hb.block _ (by omega)).trans R.err,R.nil,own_below R.own hb,fun j x hx=>?_,R.bel.trans (hb.mono R.bel.size),Nat.le_trans R.siz hb.size,R.lai.below hb⟩
 have:=R.lin j x hx
 exact (hb.cell (cellLt this)).trans this
theorem Rnd.skip {l:List UInt8} {w:World} {i:Nat} {acc:List Stk} {v:Value} {wr:World} (R:Rnd l w i acc v wr) {x:List UInt8} (hx:(spl [] l)[i]?=some x) (hw:wordsOf x=[]):Rnd l w (i+1) acc v wr:=by
 refine ⟨(List.getElem?_eq_some_iff.1 hx).1,Nat.le_succ_of_le R.ac,?_,R.box,R.err,R.nil,R.own,R.lin,R.bel,R.siz,R.lai⟩
 rw [R.say,drop_cons hx]
 simp only [parP,hw,if_true]
theorem Rnd.bad {l:List UInt8} {w:World} {i:Nat} {acc:List Stk} {v:Value} {wr:World} (R:Rnd l w i acc v wr) {x:List UInt8} (hx:(spl [] l)[i]?=some x) (hw:wordsOf x≠[]) (hs:strokeP (wds [] x)=none):parP 0 (spl [] l)=.inl (i+1):=by
 rw [R.say,drop_cons hx]
 simp only [parP,hw,if_false,hs]
theorem Rnd.good {l:List UInt8} {w:World} {i:Nat} {acc:List Stk} {v:Value} {wr:World} (R:Rnd l w i acc v wr) {x:List UInt8} (hx:(spl [] l)[i]?=some x) (hw:wordsOf x≠[]) {s:Stk} (hs:strokeP (wds [] x)=some s):parP 0 (spl [] l)=match parP (i+1) ((spl [] l).drop (i+1)) with
  | .inl a=>.inl a
  | .inr t=>.inr ((acc++[s])++t):=by
 rw [R.say,drop_cons hx]
 simp only [parP,hw,if_false,hs]
 cases parP (i+1) ((spl [] l).drop (i+1))<;>simp
theorem Rnd.done {l:List UInt8} {w:World} {acc:List Stk} {v:Value} {wr:World} (R:Rnd l w (spl [] l).length acc v wr):parP 0 (spl [] l)=.inr acc:=by
 rw [R.say,List.drop_length]
 simp [parP]
theorem words_ne {x:List UInt8} (h:wordsOf x≠[]):wds [] x≠[]∧∃ b r,x=b::r∧b≠35:=by
 unfold wordsOf at h
 split at h
 ·exact absurd rfl h
 ·rename_i h35
  refine ⟨h,?_⟩
  cases x with
  | nil=>exact absurd rfl h
  | cons b r=>exact ⟨b,r,rfl,fun e=>h35 (by rw [e];rfl)⟩
theorem inf84:∃ i,Tryz.prog.info? 84=some i∧i.zero=some (.agg #[.int .i64 0,.int .i64 0,.int .i64 0,.int .i64 0])∧i.size=4∧i.bytes=32:=by
 have h:((Tryz.prog.info? 84).map fun i=>(i.zero,i.size,i.bytes))=some (some (.agg #[.int .i64 0,.int .i64 0,.int .i64 0,.int .i64 0]),4,32):=by kernel_rfl
 obtain ⟨i,h1,h2⟩:=Option.map_eq_some_iff.1 h
 simp only [Prod.mk.injEq] at h2
 exact ⟨i,h1,h2.1,h2.2.1,h2.2.2⟩
theorem own_blk {w:World} {B e size n:Nat} {v:Value} {xs:List Value} (h:w.ownsRow B e size v n xs) (k:Nat) (hk:v.ownBlock=some k):B≤k:=by
 rcases h.2 with ⟨rfl,_⟩ | ⟨g,cap,cur,rfl,h2,_⟩
 ·cases hk
 ·simp only [Value.ownBlock,Option.some.injEq] at hk
  omega
theorem set_one {w:World} {b t:Nat} {v x:Value} (h:w.heap[b]?=some (.cells #[v] t (0,0))):(w.setCell ⟨b,0,none⟩ x).heap[b]?=some (.cells #[x] t (0,0)):=by
 obtain ⟨hb,e⟩:=Array.getElem?_eq_some_iff.1 h
 simp [World.setCell,hb,Array.getElem_modify,e]
theorem cells_app (a b:List Stk):cellsS (a++b)=cellsS a++cellsS b:=by simp [cellsS]
theorem Rnd.push {l:List UInt8} {w:World} (hL:Laid w) {i:Nat} {acc:List Stk} {v:Value} {w2 w4:World} (R:Rnd l w i acc v w2) {x:List UInt8} (hx:(spl [] l)[i]?=some x) (hw:wordsOf x≠[]) {s:Stk} (hs:strokeP (wds [] x)=some s)
  {O:Obj} {g cap:Nat} (own:w4.ownsRow (w.heap.size+3) 84 4 (.slice (some ⟨g,0,none⟩) (acc.length+1) cap) (acc.length+1) (cellsS acc++cellsS [s])) (gro:(w2.alloc O).grownBy w4 v.ownBlock) :
  Rnd l w (i+1) (acc++[s]) (.slice (some ⟨g,0,none⟩) (acc.length+1) cap) (w4.setCell ⟨w.heap.size,0,none⟩ (.slice (some ⟨g,0,none⟩) (acc.length+1) cap)):=by
 have ha:Below w2.heap.size w2 (w2.alloc O):=(Below.refl _ w2).alloc (Nat.le_refl _) O
 have R1:=R.keep ha
 have hsz:=R1.siz
 have far:∀ k,k < w.heap.size+3→w4.heap[k]?=(w2.alloc O).heap[k]?:=fun k hk=>gro.block k (by omega) (fun e=>by have:=own_blk R.own k e.symm;omega)
 have hbel:Below w.heap.size w (w4.setCell ⟨w.heap.size,0,none⟩ (.slice (some ⟨g,0,none⟩) (acc.length+1) cap)) :=
  (R1.bel.grown gro (by omega) (fun k hk=>by have:=own_blk R.own k hk;omega)).setCell (p:=⟨w.heap.size,0,none⟩) (Nat.le_refl _) _
 have h4:w.heap.size+3≤w4.heap.size:=by
  have:=(R1.bel.grown gro (by omega) (fun k hk=>by have:=own_blk R.own k hk;omega)).size
  have hk:=far (w.heap.size+2) (by omega)
  have hlt:w.heap.size+2 < (w2.alloc O).heap.size:=by omega
  rw [Array.getElem?_eq_getElem hlt] at hk
  have:=(Array.getElem?_eq_some_iff.1 hk).1
  omega
 refine ⟨(List.getElem?_eq_some_iff.1 hx).1,by simp;exact R.ac,R.good hx hw hs,set_one ((far _ (by omega)).trans R1.box),?_,fun h=>by simp at h,?_,fun j y hy=>?_,hbel,?_,hL.below hbel⟩
 ·rw [Below.heap_setCell _ _ _ _ (by simp)]
  exact (far _ (by omega)).trans R1.err
 ·rw [cells_app,List.length_append]
  exact RowKit.ownsRow_setCell_below own (by show w.heap.size < w.heap.size+3;omega) _
 ·have h1:=R1.lin j y hy
  rw [World.cell?_setCell_other _ _ _ _ (by simp)]
  exact (World.cell?_of_block (far _ (by show w.heap.size+1+1 < w.heap.size+3;omega))).trans h1
 ·have:(w4.setCell ⟨w.heap.size,0,none⟩ (.slice (some ⟨g,0,none⟩) (acc.length+1) cap)).heap.size=w4.heap.size:=by simp
  omega
theorem three (w:World) (x y z:Obj):(((w.alloc x).alloc y).alloc z).heap[w.heap.size]?=some x∧(((w.alloc x).alloc y).alloc z).heap[w.heap.size+1]?=some y∧(((w.alloc x).alloc y).alloc z).heap[w.heap.size+1+1]?=some z:=by
 simp only [World.alloc]
 refine ⟨?_,?_,?_⟩
 ·rw [Array.getElem?_push,if_neg (by simp only [Array.size_push];omega),Array.getElem?_push,if_neg (by simp only [Array.size_push];omega),Array.getElem?_push,if_pos rfl]
 ·rw [Array.getElem?_push,if_neg (by simp only [Array.size_push];omega),Array.getElem?_push,if_pos (by simp only [Array.size_push])]
 ·rw [Array.getElem?_push,if_pos (by simp only [Array.size_push])]
theorem Rnd.start {l:List UInt8} {w:World} (hL:Laid w):Rnd l w 0 [] (.slice none 0 0) (((w.alloc (.cells #[.slice none 0 0] 25)).alloc (.cells #[.int .i64 0] 34)).alloc (.cells ((spl [] l).map fun x=>.string ⟨x.toArray⟩).toArray 9)):=by
 obtain ⟨h1,h2,h3⟩:=three w (.cells #[.slice none 0 0] 25) (.cells #[.int .i64 0] 34) (.cells ((spl [] l).map fun x=>.string ⟨x.toArray⟩).toArray 9)
 have hb:Below w.heap.size w (((w.alloc (.cells #[.slice none 0 0] 25)).alloc (.cells #[.int .i64 0] 34)).alloc (.cells ((spl [] l).map fun x=>.string ⟨x.toArray⟩).toArray 9)) :=
  (below_alloc2 w _ _).alloc (below_alloc2 w _ _).size _
 refine ⟨Nat.zero_le _,Nat.le_refl _,?_,h1,h2,fun _=>rfl,World.ownsRow_nil _ _ _ _,fun j x hx=>?_,hb,?_,hL.below hb⟩
 ·rw [List.drop_zero]
  cases parP 0 (spl [] l)<;>simp
 ·rw [Go.Joins.cell_of_block h3 j]
  simp [hx]
 ·simp only [World.size_alloc];omega
theorem fr_cells {w:World} {U:Nat→Prop}:∀ acc:List Stk,FR w U (acc.map rS).flatten (cellsS acc)
 | []=>by simp [FR,cellsS]
 | s::r=>by
  have:=fr_cells (w:=w) (U:=U) r
  simp only [List.map_cons,List.flatten_cons,rS,List.cons_append,List.nil_append,cellsS,List.flatMap_cons,FR]
  exact ⟨_,_,rfl,⟨rfl,rfl⟩,_,_,rfl,⟨rfl,rfl⟩,_,_,rfl,⟨rfl,rfl⟩,_,_,rfl,⟨rfl,rfl⟩,this⟩
theorem Rnd.data {l:List UInt8} {w:World} {i:Nat} {acc:List Stk} {v:Value} {wr:World} (R:Rnd l w i acc v wr):DR wr (fun b=>w.heap.size+3≤b∧b < wr.heap.size) (dS (opL acc)) v:=by
 cases acc with
 | nil=>rw [R.nil rfl];exact ⟨rfl,rfl⟩
 | cons s r =>
  obtain ⟨_,⟨_,h0⟩ | ⟨g,cap,cur,rfl,hg,hh,hn,hc,hs,ht⟩⟩:=id R.own
  ·simp at h0
  ·have hlt:g < wr.heap.size:=(Array.getElem?_eq_some_iff.1 hh).1
   show DR wr _ (.sl 4 ((s::r).map rS)) _
   simp only [DR,List.length_map]
   refine ⟨_,cap,rfl,hn,hc,fun _=>⟨g,0,rfl,⟨hg,hlt⟩,RR_iff.2 ⟨?_,cellsS (s::r),fr_cells _,fun j u hj=>?_⟩⟩⟩
   ·intro x hx
    obtain ⟨y,_,rfl⟩:=List.mem_map.1 hx
    rfl
   ·rw [Nat.zero_add]
    have hj':=(List.getElem?_eq_some_iff.1 hj).1
    rw [R.own.1] at hj'
    rw [R.own.cellAt j hj',hj]
def PP (l:List UInt8) (w:World) (e:Ending) (w':World):Prop:=Below w.heap.size w w'∧∃ v,e=.returned (.tuple #[v,.int .i64 (prs l).2.1,.int .i64 (prs l).2.2])∧DR w' (fun b=>w.heap.size≤b∧b < w'.heap.size) (dS (prs l).1) v
theorem PP.nothing {l:List UInt8} {w w':World} {a e:Nat} (hb:Below w.heap.size w w') (h:prs l=(none,a,e)):PP l w (.returned (.tuple #[.slice none 0 0,.int .i64 a,.int .i64 e])) w':=by
 refine ⟨hb,.slice none 0 0,by rw [h],?_⟩
 rw [h]
 exact ⟨rfl,rfl⟩
theorem prs_bad {l:List UInt8} (h8:l.length≤8000) {a:Nat} (h:parP 0 (spl [] l)=.inl a):prs l=(none,a,5):=by
 rw [prs,if_neg (by omega),← parL_spl,h]
theorem prs_ok {l:List UInt8} (h8:l.length≤8000) {t:List Stk} (h:parP 0 (spl [] l)=.inr t):prs l=if t.all okS=true∧t.length≤120 then (opL t,0,0) else (none,0,91):=by
 rw [prs,if_neg (by omega),← parL_spl,h]
theorem wds_size:∀ (l cur y:List UInt8),y∈wds cur l→y.length≤cur.length+l.length
 | [],cur,y,h=>by
  simp only [wds] at h
  split at h
  ·cases h
  ·simp at h;subst h;simp
 | b::r,cur,y,h=>by
  simp only [wds] at h
  split at h
  ·split at h
   ·have:=wds_size r [] y h;simp at this ⊢;omega
   ·rcases List.mem_cons.1 h with rfl | h
    ·simp
    ·have:=wds_size r [] y h;simp at this ⊢;omega
  ·have:=wds_size r _ y h;simp at this ⊢;omega
theorem Rnd.far {l:List UInt8} {w:World} {i:Nat} {acc:List Stk} {v:Value} {w2 w4:World} (R:Rnd l w i acc v w2) {O:Obj} (gro:(w2.alloc O).grownBy w4 v.ownBlock):w4.heap[w.heap.size]?=some (.cells #[v] 25 (0,0)):=by
 have ha:Below w2.heap.size w2 (w2.alloc O):=(Below.refl _ w2).alloc (Nat.le_refl _) O
 have R1:=R.keep ha
 have hsz:=R1.siz
 exact (gro.block _ (by omega) (fun e=>by have:=own_blk R.own _ e.symm;omega)).trans R1.box
theorem settle_r (v:Value):settle (.panicking [{ v:=v,recovered:=true }])=.returning:=by simp [settle]
theorem leave25 {T:Array Value} {W:World} {R:Ending→World→Prop} {v:Value} {a er:Int} {b c:Nat} (h2:T.getD 2 undef=.pointer (some ⟨b,0,none⟩)) (h3:T.getD 3 undef=.int .i64 a) (h4:T.getD 4 undef=.pointer (some ⟨c,0,none⟩))
  (hv:W.cell? ⟨b,0,none⟩=some v) (he:W.cell? ⟨c,0,none⟩=some (.int .i64 er)) (hR:R (.returned (.tuple #[v,.int .i64 a,.int .i64 er])) W):Leaves Tryz.prog Tryz.f25 T R [] .returning W:=by
 have h2':T[2]?.getD undef=.pointer (some ⟨b,0,none⟩):=by simpa using h2
 have h3':T[3]?.getD undef=.int .i64 a:=by simpa using h3
 have h4':T[4]?.getD undef=.pointer (some ⟨c,0,none⟩):=by simpa using h4
 refine ⟨_,?_,hR⟩
 simp [results,Tryz.results25,go_sem,h2',h3',h4',hv,he]
theorem two_cells {w:World} {b c:Nat} {x y x' y':Value} (hbc:b≠c) (hb:w.cell? ⟨b,0,none⟩=some x) (hc:w.cell? ⟨c,0,none⟩=some y):((w.setCell ⟨b,0,none⟩ x').setCell ⟨c,0,none⟩ y').cell? ⟨b,0,none⟩=some x'∧((w.setCell ⟨b,0,none⟩ x').setCell ⟨c,0,none⟩ y').cell? ⟨c,0,none⟩=some y':=by
 refine ⟨?_,?_⟩
 ·rw [World.cell?_setCell_other _ _ _ _ (fun e=>hbc (congrArg Addr.block e).symm)]
  exact World.cell?_setCell_same _ _ _ hb
 ·exact World.cell?_setCell_same _ _ y' ((World.cell?_setCell_other w ⟨b,0,none⟩ ⟨c,0,none⟩ x' (fun e=>hbc (congrArg Addr.block e))).trans hc)
theorem fin_ok {l:List UInt8} (h8:l.length≤8000) {w:World} {acc:List Stk} {v:Value} {wr w5:World} (R:Rnd l w (spl [] l).length acc v wr) (h5:Below wr.heap.size wr w5) (hok:acc.all okS=true∧acc.length≤120) (x y:Value) :
  PP l w (.returned (.tuple #[v,.int .i64 0,.int .i64 0])) ((w5.setCell ⟨w.heap.size,0,none⟩ x).setCell ⟨w.heap.size+1,0,none⟩ y):=by
 have e:=prs_ok h8 R.done
 rw [if_pos hok] at e
 have hsz:=R.siz
 refine ⟨((R.bel.trans (h5.mono R.bel.size)).setCell (p:=⟨w.heap.size,0,none⟩) (Nat.le_refl _) _).setCell (p:=⟨w.heap.size+1,0,none⟩) (by simp) _,v,by rw [e];rfl,?_⟩
 rw [e]
 refine DR.mono (fun b hb=>?_) (fun b hb=>?_) _ _ R.data
 ·rw [Below.heap_setCell _ _ _ _ (by simp;omega),Below.heap_setCell _ _ _ _ (by simp;omega)]
  exact h5.block b hb.2
 ·have h:=h5.size
  simp only [World.size_setCell]
  omega
theorem fin_bad {l:List UInt8} (h8:l.length≤8000) {w:World} {i j:Nat} {acc:List Stk} {v:Value} {w2:World} (R:Rnd l w j acc v w2) (hbad:parP 0 (spl [] l)=.inl (i+1)) {T:Array Value} {a:Int} (h2:T.getD 2 undef=.pointer (some ⟨w.heap.size,0,none⟩)) (h3:T.getD 3 undef=.int .i64 a) (ha:a=((i+1:Nat):Int)) (h4:T.getD 4 undef=.pointer (some ⟨w.heap.size+1,0,none⟩)) :
  Leaves Tryz.prog Tryz.f25 T (PP l w) [] (settle (.panicking [{ v:=wrongV,recovered:=true }])) (((w2.setCell ⟨w.heap.size,0,none⟩ (.slice none 0 0)).setCell ⟨w.heap.size+1,0,none⟩ (.int .i64 5)).alloc (.cells #[] 123)):=by
 subst ha
 have hsz:=R.siz
 obtain ⟨e1,e2⟩:=two_cells (x':=.slice none 0 0) (y':=.int .i64 5) (show w.heap.size≠w.heap.size+1 by omega) (Go.Joins.cell_of_block R.box 0) (Go.Joins.cell_of_block R.err 0)
 have hal:=(Below.refl ((w2.setCell ⟨w.heap.size,0,none⟩ (.slice none 0 0)).setCell ⟨w.heap.size+1,0,none⟩ (.int .i64 5)).heap.size ((w2.setCell ⟨w.heap.size,0,none⟩ (.slice none 0 0)).setCell ⟨w.heap.size+1,0,none⟩ (.int .i64 5))).alloc (Nat.le_refl _) (.cells #[] 123)
 rw [settle_r]
 refine leave25 h2 h3 h4 ((hal.cell (cellLt e1)).trans e1) ((hal.cell (cellLt e2)).trans e2) (PP.nothing (a:=i+1) (e:=5) ?_ (prs_bad h8 hbad))
 have hb:Below w.heap.size w ((w2.setCell ⟨w.heap.size,0,none⟩ (.slice none 0 0)).setCell ⟨w.heap.size+1,0,none⟩ (.int .i64 5)):=(R.bel.setCell (p:=⟨w.heap.size,0,none⟩) (Nat.le_refl _) _).setCell (p:=⟨w.heap.size+1,0,none⟩) (by simp) _
 exact hb.trans (hal.mono hb.size)
theorem own_shape {w:World} {B e size n:Nat} {v:Value} {xs:List Value} (h:w.ownsRow B e size v n xs):∃ p c,v=.slice p n c:=by
 rcases h.2 with ⟨rfl,rfl⟩ | ⟨g,cap,cur,rfl,_⟩
 ·exact ⟨none,0,rfl⟩
 ·exact ⟨_,cap,rfl⟩
theorem fin_no {l:List UInt8} (h8:l.length≤8000) {w:World} {acc:List Stk} {v:Value} {wr w5:World} (R:Rnd l w (spl [] l).length acc v wr) (h5:Below wr.heap.size wr w5) (hok:¬ (acc.all okS=true∧acc.length≤120)) (x y:Value) :
  PP l w (.returned (.tuple #[.slice none 0 0,.int .i64 0,.int .i64 91])) ((w5.setCell ⟨w.heap.size,0,none⟩ x).setCell ⟨w.heap.size+1,0,none⟩ y):=by
 have e:=prs_ok h8 R.done
 rw [if_neg hok] at e
 exact PP.nothing (a:=0) (e:=91) (((R.bel.trans (h5.mono R.bel.size)).setCell (p:=⟨w.heap.size,0,none⟩) (Nat.le_refl _) _).setCell (p:=⟨w.heap.size+1,0,none⟩) (by simp) _) e
theorem parse_c (l:List UInt8) (h8:l.length≤8000) (w:World) (hL:Laid w):Calls Tryz.prog 25 #[.string ⟨l.toArray⟩] w (PP l w):=by
 have hgt:¬ (8000:Int) < (l.length:Int):=by omega
 have hmf:∀ (fn:Fn) (first cap:Array Value) (w:World),(Instr.makeFunc fn first cap).run Tryz.prog w=.ok (.func fn first cap) w:=fun _ _ _ _=>rfl
 have hL0:Laid ((w.alloc (.cells #[.slice none 0 0] 25)).alloc (.cells #[.int .i64 0] 34)):=hL.below (below_alloc2 _ _ _)
 have hlen:(spl [] l).length≤8001:=by have:=spl_len l [];omega
 go_enter_defers Tryz.func25,Tryz.ntmps25
 go_wp2_with (go_at_call 62;refine (split_c l h8 _ hL0).mono ?_;rintro e w1 ⟨rfl,rfl⟩)
 go_loopg [3,17] (spl [] l).length (fun g z3 z17 wr=>∃ (i:Nat) (acc:List Stk) (v:Value) (a3:Int),z17=.int .i64 i∧z3=.int .i64 a3∧i+g=(spl [] l).length∧Rnd l w i acc v wr)
 case atStart=>exact ⟨0,[],_,0,rfl,rfl,by omega,Rnd.start hL⟩
 case round =>
  obtain ⟨i,acc,v,a3,rfl,rfl,hg,R⟩:=hrel
  by_cases hi:i < (spl [] l).length
  ·have hx:=List.getElem?_eq_getElem hi
   have hcx:=R.lin i _ hx
   generalize (spl [] l)[i]=x at hx hcx
   have hxl:x.length≤8000:=by
    have:=spl_mem l [] x (List.mem_of_getElem? hx);simp at this;omega
   obtain ⟨g,rfl⟩:∃ g,gk=g+1:=⟨gk - 1,by omega⟩
   by_cases hw:wordsOf x=[]
   ·by_cases hq:wds [] x=[]
    ·have hq0:(wds [] x).length=0:=by rw [hq];rfl
     go_wp2_with (go_at_call 63;refine (fields_c x hxl _).mono ?_;rintro e w1 ⟨A,rfl,hA,hwc,hb1⟩;rw [hq0])
     go_roundg g
     case measure=>omega
     case rel=>exact ⟨i+1,acc,v,((i+1:Nat):Int),by simp,by simp,by omega,(R.keep hb1).skip hx hw⟩
    ·obtain ⟨r,rfl⟩:∃ r,x=35::r:=by
      unfold wordsOf at hw
      split at hw
      ·rename_i h
       cases x with
       | nil=>cases h
       | cons b r=>simp at h;exact ⟨r,by rw [h]⟩
      ·exact absurd hw hq
     have hqp:0 < ((wds [] (35::r)).length:Int):=by
      have:=List.length_pos_iff.2 hq;omega
     have hb0:∀ h,(⟨((35:UInt8)::r).toArray⟩:ByteArray)[0]'h=35:=fun _=>rfl
     have h35:(((35:UInt8).toNat:Int) != 35)=false:=by decide
     go_wp2_with (go_at_call 63;refine (fields_c (35::r) hxl _).mono ?_;rintro e w1 ⟨A,rfl,hA,hwc,hb1⟩)
     go_roundg g
     case measure=>omega
     case rel=>exact ⟨i+1,acc,v,((i+1:Nat):Int),by simp,by simp,by omega,(R.keep hb1).skip hx hw⟩
   ·obtain ⟨hwd,b,r,rfl,hb35⟩:=words_ne hw
    have hqp:0 < ((wds [] (b::r)).length:Int):=by
     have:=List.length_pos_iff.2 hwd;omega
    have hbn:¬ (b.toNat:Int)=35:=by
     intro h;exact hb35 (UInt8.toNat_inj.1 (by show b.toNat=35;omega))
    have hb0:∀ h,(⟨(b::r).toArray⟩:ByteArray)[0]'h=b:=fun _=>rfl
    have hbb:((b.toNat:Int) != 35)=true:=by simpa using hbn
    have hwl:∀ y∈wds [] (b::r),y.length≤1000000:=fun y hy=>by have:=wds_size _ _ _ hy;simp at this hxl;omega
    have strk:∀ (A:Nat) (W:World),Laid W→(∀ (i:Nat) (y:List UInt8),(wds [] (b::r))[i]?=some y→W.cell? ⟨A,i,none⟩=some (.string ⟨y.toArray⟩)) →
      Calls Tryz.prog 65 #[.slice (some ⟨A,0,none⟩) (wds [] (b::r)).length (wds [] (b::r)).length] W fun e w'=>Below W.heap.size W w'∧e=outS (strokeP (wds [] (b::r))):=by
     intro A W hLW hcW
     cases hwe:wds [] (b::r) with
     | nil=>exact absurd hwe hwd
     | cons y ys=>rw [hwe] at hwl hcW;exact stroke_c y ys hwl A _ W hLW hcW
    cases hs:strokeP (wds [] (b::r)) with
    | none =>
     rw [hs] at strk
     simp only [outS] at strk
     go_wp2_with (go_at_call 63;refine (fields_c (b::r) hxl _).mono ?_;rintro e w1 ⟨A,rfl,hA,hwc,hb1⟩)
     have R1:=R.keep hb1
     have c2:=Go.Joins.cell_of_block R1.box 0
     have hcW:∀ (i:Nat) (y:List UInt8),(wds [] (b::r))[i]?=some y→w1.drew.cell? ⟨A,i,none⟩=some (.string ⟨y.toArray⟩):=hwc
     have hLW:Laid w1.drew:=R1.lai.below ((Below.refl _ w1).drew)
     refine wp_region_held_drew (S:=fun _=>True) (by kernel_rfl) trivial (fun _=>?_)
     refine wpAnyH_ready (rs:=[0,1]) (by kernel_rfl) (by simp) (AllReadyH.cons (o:=⟨some 34,.load 25 (.tmp 2),25, "ring.go:294",#[],none⟩) rfl (fun K hK=>?_) (AllReadyH.cons (o:=⟨some 35,.move (.tmp 7),124, "ring.go:294",#[],none⟩) rfl (fun K hK=>?_) AllReadyH.nil))
     ·try go_simp
      refine hK.out _ _ trivial (fun _=>?_)
      try simp only [Act.put,List.setIfInBounds_toArray,List.set_cons_zero,List.set_cons_succ]
      refine wpAnyH_ready (rs:=[1]) (by kernel_rfl) (by simp) (AllReadyH.cons (o:=⟨some 35,.move (.tmp 7),124, "ring.go:294",#[],none⟩) rfl (fun K hK=>?_) AllReadyH.nil)
      try go_simp
      refine hK.out _ _ trivial (fun _=>?_)
      try simp only [Act.put,List.setIfInBounds_toArray,List.set_cons_zero,List.set_cons_succ]
      refine wpAnyH_ready (rs:=[2]) (by kernel_rfl) (by simp) (AllReadyH.cons (o:=⟨some 36,.call { callee:=.value (.func 65),args:=#[.tmp 35],argTypes:=#[124] },84, "ring.go:294",#[⟨1,.data⟩],none⟩) rfl (fun K hK=>?_) AllReadyH.nil)
      try go_simp
      go_wp2_with (go_at_call 65;refine (strk _ _ hLW hcW).mono ?_;rintro e w2 ⟨hb2,rfl⟩)
      have R2:=R1.keep (((Below.refl _ w1).drew).trans hb2)
      refine leaves_cons (f:=61) (args:=#[.pointer (some ⟨w.heap.size,0,none⟩),.pointer (some ⟨w.heap.size+1,0,none⟩)]) (by simp) (by simp [go_sem]) ?_
      refine (catch61 w.heap.size (w.heap.size+1) v (.int .i64 0) [] w2 (by omega) (Go.Joins.cell_of_block R2.box 0) (Go.Joins.cell_of_block R2.err 0) (Go.Joins.unfrozen_of_block R2.box 0) (Go.Joins.unfrozen_of_block R2.err 0)).mono ?_
      rintro e u' w'' ⟨rfl,rfl,rfl⟩
      exact fin_bad h8 R2 (R.bad hx hw hs) rfl rfl (by simp) rfl
     ·try go_simp
      refine hK.out _ _ trivial (fun _=>?_)
      try simp only [Act.put,List.setIfInBounds_toArray,List.set_cons_zero,List.set_cons_succ]
      refine wpAnyH_ready (rs:=[0,2]) (by kernel_rfl) (by simp) (AllReadyH.cons (o:=⟨some 34,.load 25 (.tmp 2),25, "ring.go:294",#[],none⟩) rfl (fun K hK=>?_) (AllReadyH.cons (o:=⟨some 36,.call { callee:=.value (.func 65),args:=#[.tmp 35],argTypes:=#[124] },84, "ring.go:294",#[⟨1,.data⟩],none⟩) rfl (fun K hK=>?_) AllReadyH.nil))
      ·try go_simp
       refine hK.out _ _ trivial (fun _=>?_)
       try simp only [Act.put,List.setIfInBounds_toArray,List.set_cons_zero,List.set_cons_succ]
       refine wpAnyH_ready (rs:=[2]) (by kernel_rfl) (by simp) (AllReadyH.cons (o:=⟨some 36,.call { callee:=.value (.func 65),args:=#[.tmp 35],argTypes:=#[124] },84, "ring.go:294",#[⟨1,.data⟩],none⟩) rfl (fun K hK=>?_) AllReadyH.nil)
       try go_simp
       go_wp2_with (go_at_call 65;refine (strk _ _ hLW hcW).mono ?_;rintro e w2 ⟨hb2,rfl⟩)
       have R2:=R1.keep (((Below.refl _ w1).drew).trans hb2)
       refine leaves_cons (f:=61) (args:=#[.pointer (some ⟨w.heap.size,0,none⟩),.pointer (some ⟨w.heap.size+1,0,none⟩)]) (by simp) (by simp [go_sem]) ?_
       refine (catch61 w.heap.size (w.heap.size+1) v (.int .i64 0) [] w2 (by omega) (Go.Joins.cell_of_block R2.box 0) (Go.Joins.cell_of_block R2.err 0) (Go.Joins.unfrozen_of_block R2.box 0) (Go.Joins.unfrozen_of_block R2.err 0)).mono ?_
       rintro e u' w'' ⟨rfl,rfl,rfl⟩
       exact fin_bad h8 R2 (R.bad hx hw hs) rfl rfl (by simp) rfl
      ·try go_simp
       go_wp2_with (go_at_call 65;refine (strk _ _ hLW hcW).mono ?_;rintro e w2 ⟨hb2,rfl⟩)
       have R2:=R1.keep (((Below.refl _ w1).drew).trans hb2)
       refine leaves_cons (f:=61) (args:=#[.pointer (some ⟨w.heap.size,0,none⟩),.pointer (some ⟨w.heap.size+1,0,none⟩)]) (by simp) (by simp [go_sem]) ?_
       refine (catch61 w.heap.size (w.heap.size+1) v (.int .i64 0) [] w2 (by omega) (Go.Joins.cell_of_block R2.box 0) (Go.Joins.cell_of_block R2.err 0) (Go.Joins.unfrozen_of_block R2.box 0) (Go.Joins.unfrozen_of_block R2.err 0)).mono ?_
       rintro e u' w'' ⟨rfl,rfl,rfl⟩
       exact fin_bad h8 R2 (R.bad hx hw hs) rfl rfl (by simp) rfl
    | some s =>
     rw [hs] at strk
     simp only [outS] at strk
     obtain ⟨i0,hi0,hz0,hs0,hb00⟩:=inf84
     go_wp2_with (go_at_call 63;refine (fields_c (b::r) hxl _).mono ?_;rintro e w1 ⟨A,rfl,hA,hwc,hb1⟩)
     have R1:=R.keep hb1
     have c2:=Go.Joins.cell_of_block R1.box 0
     have hcW:∀ (i:Nat) (y:List UInt8),(wds [] (b::r))[i]?=some y→w1.drew.cell? ⟨A,i,none⟩=some (.string ⟨y.toArray⟩):=hwc
     have hLW:Laid w1.drew:=R1.lai.below ((Below.refl _ w1).drew)
     refine wp_region_held_drew (S:=fun _=>True) (by kernel_rfl) trivial (fun _=>?_)
     refine wpAnyH_ready (rs:=[0,1]) (by kernel_rfl) (by simp) (AllReadyH.cons (o:=⟨some 34,.load 25 (.tmp 2),25, "ring.go:294",#[],none⟩) rfl (fun K hK=>?_) (AllReadyH.cons (o:=⟨some 35,.move (.tmp 7),124, "ring.go:294",#[],none⟩) rfl (fun K hK=>?_) AllReadyH.nil))
     ·try go_simp
      refine hK.out _ _ trivial (fun _=>?_)
      try simp only [Act.put,List.setIfInBounds_toArray,List.set_cons_zero,List.set_cons_succ]
      refine wpAnyH_ready (rs:=[1]) (by kernel_rfl) (by simp) (AllReadyH.cons (o:=⟨some 35,.move (.tmp 7),124, "ring.go:294",#[],none⟩) rfl (fun K hK=>?_) AllReadyH.nil)
      try go_simp
      refine hK.out _ _ trivial (fun _=>?_)
      try simp only [Act.put,List.setIfInBounds_toArray,List.set_cons_zero,List.set_cons_succ]
      refine wpAnyH_ready (rs:=[2]) (by kernel_rfl) (by simp) (AllReadyH.cons (o:=⟨some 36,.call { callee:=.value (.func 65),args:=#[.tmp 35],argTypes:=#[124] },84, "ring.go:294",#[⟨1,.data⟩],none⟩) rfl (fun K hK=>?_) AllReadyH.nil)
      try go_simp
      go_wp2_with (go_at_call 65;refine (strk _ _ hLW hcW).mono ?_;rintro e w2 ⟨hb2,rfl⟩)
      have R2:=R1.keep (((Below.refl _ w1).drew).trans hb2)
      have hsz2:=R2.siz
      have hac:=R2.ac
      have al2:Below w2.heap.size w2 (w2.alloc (.cells #[.int .i64 s.1,.int .i64 s.2.1,.int .i64 s.2.2.1,.int .i64 s.2.2.2] 84)):=(Below.refl _ w2).alloc (Nat.le_refl _) _
      have own3:=own_below R2.own al2
      have c3:=Go.Joins.cell_of_block (R2.keep al2).box 0
      have c3':=Go.Joins.cell_of_block R2.box 0
      have new3:∀ j u,(cellsS [s])[j]?=some u→(w2.alloc (.cells #[.int .i64 s.1,.int .i64 s.2.1,.int .i64 s.2.2.1,.int .i64 s.2.2.2] 84)).cell? ((⟨w2.heap.size,0,none⟩:Addr).add j)=some u:=World.news_of_block (cs:=#[.int .i64 s.1,.int .i64 s.2.1,.int .i64 s.2.2.1,.int .i64 s.2.2.2]) (heap_alloc_new w2 _)
      have one3:∀ u∈cellsS [s],u.oneCell'=true:=by
       intro u hu
       simp [cellsS] at hu
       rcases hu with rfl | rfl | rfl | rfl<;>rfl
      have hac1:acc.length+1≤maxLen:=by unfold maxLen;omega
      have hac2:(acc.length+1)*32≤140737488355328:=by omega
      have hac3:w.heap.size+3≤(w2.alloc (.cells #[.int .i64 s.1,.int .i64 s.2.1,.int .i64 s.2.2.1,.int .i64 s.2.2.2] 84)).heap.size:=Nat.le_trans hsz2 al2.size
      clear hac hsz2
      refine hK.out _ _ trivial (fun _=>?_)
      try simp only [Act.put,List.setIfInBounds_toArray,List.set_cons_zero,List.set_cons_succ]
      refine wpAnyH_ready (rs:=[3]) (by kernel_rfl) (by simp) (AllReadyH.cons (o:=⟨some 37,.buildSlice 25 1 #[(0,.tmp 36)],25, "ring.go:294",#[⟨2,.data⟩],none⟩) rfl (fun K hK=>?_) AllReadyH.nil)
      try go_simp
      refine hK.out _ _ trivial (fun _=>?_)
      try simp only [Act.put,List.setIfInBounds_toArray,List.set_cons_zero,List.set_cons_succ]
      refine wpAnyH_ready (rs:=[4]) (by kernel_rfl) (by simp) (AllReadyH.cons (o:=⟨some 38,.call { callee:=.builtin .append,args:=#[.tmp 34,.tmp 37],argTypes:=#[25,25] },25, "ring.go:294",#[⟨0,.data⟩,⟨3,.data⟩,⟨2,.chain⟩],none⟩) rfl (fun K hK=>?_) AllReadyH.nil)
      refine step_append_lies _ rfl (.tmp 34)  (.tmp 37) 25 rfl (w.heap.size+3) 84 i0 _ 4 32 Tryz.underlying25 hi0 hz0 hs0 hb00 rfl (by decide) v acc.length (cellsS acc) rfl own3 ⟨w2.heap.size,0,none⟩ 1 1 (cellsS [s]) rfl rfl new3 one3 (by decide) hac1 hac2 hac3 _ rfl (fun g' cap w4 own4 gro4 _ _=>?_)
      have b4:=R2.far gro4
      have k4:=Go.Joins.cell_of_block b4 0
      have f4:=Go.Joins.unfrozen_of_block b4 0
      refine hK.out _ _ trivial (fun _=>?_)
      try simp only [Act.put,List.setIfInBounds_toArray,List.set_cons_zero,List.set_cons_succ]
      refine wpAnyH_ready (rs:=[5]) (by kernel_rfl) (by simp) (AllReadyH.cons (o:=⟨none,.store 25 (.tmp 2) (.tmp 38),0, "ring.go:294",#[⟨4,.data⟩,⟨4,.chain⟩,⟨0,.phase⟩,⟨1,.phase⟩,⟨2,.phase⟩,⟨3,.phase⟩,⟨4,.phase⟩],none⟩) rfl (fun K hK=>?_) AllReadyH.nil)
      try go_simp
      refine hK.out _ _ trivial (fun _=>?_)
      try simp only [Act.put,List.setIfInBounds_toArray,List.set_cons_zero,List.set_cons_succ]
      refine wpAnyH_done (by kernel_rfl) ?_ _
      go_wp2
      go_roundg g
      case measure=>omega
      case rel=>exact ⟨i+1,acc++[s],_,((i+1:Nat):Int),by simp,by simp,by omega,Rnd.push hL R2 hx hw hs own4 gro4⟩
     ·try go_simp
      refine hK.out _ _ trivial (fun _=>?_)
      try simp only [Act.put,List.setIfInBounds_toArray,List.set_cons_zero,List.set_cons_succ]
      refine wpAnyH_ready (rs:=[0,2]) (by kernel_rfl) (by simp) (AllReadyH.cons (o:=⟨some 34,.load 25 (.tmp 2),25, "ring.go:294",#[],none⟩) rfl (fun K hK=>?_) (AllReadyH.cons (o:=⟨some 36,.call { callee:=.value (.func 65),args:=#[.tmp 35],argTypes:=#[124] },84, "ring.go:294",#[⟨1,.data⟩],none⟩) rfl (fun K hK=>?_) AllReadyH.nil))
      ·try go_simp
       refine hK.out _ _ trivial (fun _=>?_)
       try simp only [Act.put,List.setIfInBounds_toArray,List.set_cons_zero,List.set_cons_succ]
       refine wpAnyH_ready (rs:=[2]) (by kernel_rfl) (by simp) (AllReadyH.cons (o:=⟨some 36,.call { callee:=.value (.func 65),args:=#[.tmp 35],argTypes:=#[124] },84, "ring.go:294",#[⟨1,.data⟩],none⟩) rfl (fun K hK=>?_) AllReadyH.nil)
       try go_simp
       go_wp2_with (go_at_call 65;refine (strk _ _ hLW hcW).mono ?_;rintro e w2 ⟨hb2,rfl⟩)
       have R2:=R1.keep (((Below.refl _ w1).drew).trans hb2)
       have hsz2:=R2.siz
       have hac:=R2.ac
       have al2:Below w2.heap.size w2 (w2.alloc (.cells #[.int .i64 s.1,.int .i64 s.2.1,.int .i64 s.2.2.1,.int .i64 s.2.2.2] 84)):=(Below.refl _ w2).alloc (Nat.le_refl _) _
       have own3:=own_below R2.own al2
       have c3:=Go.Joins.cell_of_block (R2.keep al2).box 0
       have c3':=Go.Joins.cell_of_block R2.box 0
       have new3:∀ j u,(cellsS [s])[j]?=some u→(w2.alloc (.cells #[.int .i64 s.1,.int .i64 s.2.1,.int .i64 s.2.2.1,.int .i64 s.2.2.2] 84)).cell? ((⟨w2.heap.size,0,none⟩:Addr).add j)=some u:=World.news_of_block (cs:=#[.int .i64 s.1,.int .i64 s.2.1,.int .i64 s.2.2.1,.int .i64 s.2.2.2]) (heap_alloc_new w2 _)
       have one3:∀ u∈cellsS [s],u.oneCell'=true:=by
        intro u hu
        simp [cellsS] at hu
        rcases hu with rfl | rfl | rfl | rfl<;>rfl
       have hac1:acc.length+1≤maxLen:=by unfold maxLen;omega
       have hac2:(acc.length+1)*32≤140737488355328:=by omega
       have hac3:w.heap.size+3≤(w2.alloc (.cells #[.int .i64 s.1,.int .i64 s.2.1,.int .i64 s.2.2.1,.int .i64 s.2.2.2] 84)).heap.size:=Nat.le_trans hsz2 al2.size
       clear hac hsz2
       refine hK.out _ _ trivial (fun _=>?_)
       try simp only [Act.put,List.setIfInBounds_toArray,List.set_cons_zero,List.set_cons_succ]
       refine wpAnyH_ready (rs:=[3]) (by kernel_rfl) (by simp) (AllReadyH.cons (o:=⟨some 37,.buildSlice 25 1 #[(0,.tmp 36)],25, "ring.go:294",#[⟨2,.data⟩],none⟩) rfl (fun K hK=>?_) AllReadyH.nil)
       try go_simp
       refine hK.out _ _ trivial (fun _=>?_)
       try simp only [Act.put,List.setIfInBounds_toArray,List.set_cons_zero,List.set_cons_succ]
       refine wpAnyH_ready (rs:=[4]) (by kernel_rfl) (by simp) (AllReadyH.cons (o:=⟨some 38,.call { callee:=.builtin .append,args:=#[.tmp 34,.tmp 37],argTypes:=#[25,25] },25, "ring.go:294",#[⟨0,.data⟩,⟨3,.data⟩,⟨2,.chain⟩],none⟩) rfl (fun K hK=>?_) AllReadyH.nil)
       refine step_append_lies _ rfl (.tmp 34)  (.tmp 37) 25 rfl (w.heap.size+3) 84 i0 _ 4 32 Tryz.underlying25 hi0 hz0 hs0 hb00 rfl (by decide) v acc.length (cellsS acc) rfl own3 ⟨w2.heap.size,0,none⟩ 1 1 (cellsS [s]) rfl rfl new3 one3 (by decide) hac1 hac2 hac3 _ rfl (fun g' cap w4 own4 gro4 _ _=>?_)
       have b4:=R2.far gro4
       have k4:=Go.Joins.cell_of_block b4 0
       have f4:=Go.Joins.unfrozen_of_block b4 0
       refine hK.out _ _ trivial (fun _=>?_)
       try simp only [Act.put,List.setIfInBounds_toArray,List.set_cons_zero,List.set_cons_succ]
       refine wpAnyH_ready (rs:=[5]) (by kernel_rfl) (by simp) (AllReadyH.cons (o:=⟨none,.store 25 (.tmp 2) (.tmp 38),0, "ring.go:294",#[⟨4,.data⟩,⟨4,.chain⟩,⟨0,.phase⟩,⟨1,.phase⟩,⟨2,.phase⟩,⟨3,.phase⟩,⟨4,.phase⟩],none⟩) rfl (fun K hK=>?_) AllReadyH.nil)
       try go_simp
       refine hK.out _ _ trivial (fun _=>?_)
       try simp only [Act.put,List.setIfInBounds_toArray,List.set_cons_zero,List.set_cons_succ]
       refine wpAnyH_done (by kernel_rfl) ?_ _
       go_wp2
       go_roundg g
       case measure=>omega
       case rel=>exact ⟨i+1,acc++[s],_,((i+1:Nat):Int),by simp,by simp,by omega,Rnd.push hL R2 hx hw hs own4 gro4⟩
      ·try go_simp
       go_wp2_with (go_at_call 65;refine (strk _ _ hLW hcW).mono ?_;rintro e w2 ⟨hb2,rfl⟩)
       have R2:=R1.keep (((Below.refl _ w1).drew).trans hb2)
       have hsz2:=R2.siz
       have hac:=R2.ac
       have al2:Below w2.heap.size w2 (w2.alloc (.cells #[.int .i64 s.1,.int .i64 s.2.1,.int .i64 s.2.2.1,.int .i64 s.2.2.2] 84)):=(Below.refl _ w2).alloc (Nat.le_refl _) _
       have own3:=own_below R2.own al2
       have c3:=Go.Joins.cell_of_block (R2.keep al2).box 0
       have c3':=Go.Joins.cell_of_block R2.box 0
       have new3:∀ j u,(cellsS [s])[j]?=some u→(w2.alloc (.cells #[.int .i64 s.1,.int .i64 s.2.1,.int .i64 s.2.2.1,.int .i64 s.2.2.2] 84)).cell? ((⟨w2.heap.size,0,none⟩:Addr).add j)=some u:=World.news_of_block (cs:=#[.int .i64 s.1,.int .i64 s.2.1,.int .i64 s.2.2.1,.int .i64 s.2.2.2]) (heap_alloc_new w2 _)
       have one3:∀ u∈cellsS [s],u.oneCell'=true:=by
        intro u hu
        simp [cellsS] at hu
        rcases hu with rfl | rfl | rfl | rfl<;>rfl
       have hac1:acc.length+1≤maxLen:=by unfold maxLen;omega
       have hac2:(acc.length+1)*32≤140737488355328:=by omega
       have hac3:w.heap.size+3≤(w2.alloc (.cells #[.int .i64 s.1,.int .i64 s.2.1,.int .i64 s.2.2.1,.int .i64 s.2.2.2] 84)).heap.size:=Nat.le_trans hsz2 al2.size
       clear hac hsz2
       refine hK.out _ _ trivial (fun _=>?_)
       try simp only [Act.put,List.setIfInBounds_toArray,List.set_cons_zero,List.set_cons_succ]
       refine wpAnyH_ready (rs:=[0,3]) (by kernel_rfl) (by simp) (AllReadyH.cons (o:=⟨some 34,.load 25 (.tmp 2),25, "ring.go:294",#[],none⟩) rfl (fun K hK=>?_) (AllReadyH.cons (o:=⟨some 37,.buildSlice 25 1 #[(0,.tmp 36)],25, "ring.go:294",#[⟨2,.data⟩],none⟩) rfl (fun K hK=>?_) AllReadyH.nil))
       ·try go_simp
        refine hK.out _ _ trivial (fun _=>?_)
        try simp only [Act.put,List.setIfInBounds_toArray,List.set_cons_zero,List.set_cons_succ]
        refine wpAnyH_ready (rs:=[3]) (by kernel_rfl) (by simp) (AllReadyH.cons (o:=⟨some 37,.buildSlice 25 1 #[(0,.tmp 36)],25, "ring.go:294",#[⟨2,.data⟩],none⟩) rfl (fun K hK=>?_) AllReadyH.nil)
        try go_simp
        refine hK.out _ _ trivial (fun _=>?_)
        try simp only [Act.put,List.setIfInBounds_toArray,List.set_cons_zero,List.set_cons_succ]
        refine wpAnyH_ready (rs:=[4]) (by kernel_rfl) (by simp) (AllReadyH.cons (o:=⟨some 38,.call { callee:=.builtin .append,args:=#[.tmp 34,.tmp 37],argTypes:=#[25,25] },25, "ring.go:294",#[⟨0,.data⟩,⟨3,.data⟩,⟨2,.chain⟩],none⟩) rfl (fun K hK=>?_) AllReadyH.nil)
        refine step_append_lies _ rfl (.tmp 34)  (.tmp 37) 25 rfl (w.heap.size+3) 84 i0 _ 4 32 Tryz.underlying25 hi0 hz0 hs0 hb00 rfl (by decide) v acc.length (cellsS acc) rfl own3 ⟨w2.heap.size,0,none⟩ 1 1 (cellsS [s]) rfl rfl new3 one3 (by decide) hac1 hac2 hac3 _ rfl (fun g' cap w4 own4 gro4 _ _=>?_)
        have b4:=R2.far gro4
        have k4:=Go.Joins.cell_of_block b4 0
        have f4:=Go.Joins.unfrozen_of_block b4 0
        refine hK.out _ _ trivial (fun _=>?_)
        try simp only [Act.put,List.setIfInBounds_toArray,List.set_cons_zero,List.set_cons_succ]
        refine wpAnyH_ready (rs:=[5]) (by kernel_rfl) (by simp) (AllReadyH.cons (o:=⟨none,.store 25 (.tmp 2) (.tmp 38),0, "ring.go:294",#[⟨4,.data⟩,⟨4,.chain⟩,⟨0,.phase⟩,⟨1,.phase⟩,⟨2,.phase⟩,⟨3,.phase⟩,⟨4,.phase⟩],none⟩) rfl (fun K hK=>?_) AllReadyH.nil)
        try go_simp
        refine hK.out _ _ trivial (fun _=>?_)
        try simp only [Act.put,List.setIfInBounds_toArray,List.set_cons_zero,List.set_cons_succ]
        refine wpAnyH_done (by kernel_rfl) ?_ _
        go_wp2
        go_roundg g
        case measure=>omega
        case rel=>exact ⟨i+1,acc++[s],_,((i+1:Nat):Int),by simp,by simp,by omega,Rnd.push hL R2 hx hw hs own4 gro4⟩
       ·try go_simp
        refine hK.out _ _ trivial (fun _=>?_)
        try simp only [Act.put,List.setIfInBounds_toArray,List.set_cons_zero,List.set_cons_succ]
        refine wpAnyH_ready (rs:=[0]) (by kernel_rfl) (by simp) (AllReadyH.cons (o:=⟨some 34,.load 25 (.tmp 2),25, "ring.go:294",#[],none⟩) rfl (fun K hK=>?_) AllReadyH.nil)
        try go_simp
        refine hK.out _ _ trivial (fun _=>?_)
        try simp only [Act.put,List.setIfInBounds_toArray,List.set_cons_zero,List.set_cons_succ]
        refine wpAnyH_ready (rs:=[4]) (by kernel_rfl) (by simp) (AllReadyH.cons (o:=⟨some 38,.call { callee:=.builtin .append,args:=#[.tmp 34,.tmp 37],argTypes:=#[25,25] },25, "ring.go:294",#[⟨0,.data⟩,⟨3,.data⟩,⟨2,.chain⟩],none⟩) rfl (fun K hK=>?_) AllReadyH.nil)
        refine step_append_lies _ rfl (.tmp 34)  (.tmp 37) 25 rfl (w.heap.size+3) 84 i0 _ 4 32 Tryz.underlying25 hi0 hz0 hs0 hb00 rfl (by decide) v acc.length (cellsS acc) rfl own3 ⟨w2.heap.size,0,none⟩ 1 1 (cellsS [s]) rfl rfl new3 one3 (by decide) hac1 hac2 hac3 _ rfl (fun g' cap w4 own4 gro4 _ _=>?_)
        have b4:=R2.far gro4
        have k4:=Go.Joins.cell_of_block b4 0
        have f4:=Go.Joins.unfrozen_of_block b4 0
        refine hK.out _ _ trivial (fun _=>?_)
        try simp only [Act.put,List.setIfInBounds_toArray,List.set_cons_zero,List.set_cons_succ]
        refine wpAnyH_ready (rs:=[5]) (by kernel_rfl) (by simp) (AllReadyH.cons (o:=⟨none,.store 25 (.tmp 2) (.tmp 38),0, "ring.go:294",#[⟨4,.data⟩,⟨4,.chain⟩,⟨0,.phase⟩,⟨1,.phase⟩,⟨2,.phase⟩,⟨3,.phase⟩,⟨4,.phase⟩],none⟩) rfl (fun K hK=>?_) AllReadyH.nil)
        try go_simp
        refine hK.out _ _ trivial (fun _=>?_)
        try simp only [Act.put,List.setIfInBounds_toArray,List.set_cons_zero,List.set_cons_succ]
        refine wpAnyH_done (by kernel_rfl) ?_ _
        go_wp2
        go_roundg g
        case measure=>omega
        case rel=>exact ⟨i+1,acc++[s],_,((i+1:Nat):Int),by simp,by simp,by omega,Rnd.push hL R2 hx hw hs own4 gro4⟩
  ·obtain rfl:i=(spl [] l).length:=by have:=R.le;omega
   obtain rfl:gk=0:=by omega
   obtain ⟨vp,vc,rfl⟩:=own_shape R.own
   have c2:=Go.Joins.cell_of_block R.box 0
   have c4:=Go.Joins.cell_of_block R.err 0
   have f2:=Go.Joins.unfrozen_of_block R.box 0
   have f4:=Go.Joins.unfrozen_of_block R.err 0
   have h23:=prC (opL acc) _ wr R.lai _ (fun b hb=>hb.2) R.data
   rw [opL_get] at h23
   have hne:w.heap.size≠w.heap.size+1:=by omega
   by_cases hok:acc.length≤120∧acc.all okS=true
   ·have hp:prA acc=(prt acc,0):=by rw [prA,if_pos hok]
    rw [hp] at h23
    go_wp2_with (go_at_call 23;refine h23.mono ?_;rintro e w5 ⟨rfl,hb5⟩;have R5:=R.keep hb5;have d2:=Go.Joins.cell_of_block R5.box 0;have d4:=Go.Joins.cell_of_block R5.err 0;have g2:=Go.Joins.unfrozen_of_block R5.box 0;have g4:=Go.Joins.unfrozen_of_block R5.err 0)
    refine leaves_cons (f:=61) (args:=#[.pointer (some ⟨w.heap.size,0,none⟩),.pointer (some ⟨w.heap.size+1,0,none⟩)]) (by simp) (by simp [go_sem]) ?_
    refine (idle61 _ _ _).mono ?_
    rintro e u' w'' ⟨rfl,rfl,rfl⟩
    obtain ⟨e1,e2⟩:=two_cells (x':=.slice vp acc.length vc) (y':=.int .i64 0) hne d2 d4
    exact leave25 rfl rfl rfl e1 e2 (fin_ok h8 R hb5 ⟨hok.2,hok.1⟩ _ _)
   ·have hp:prA acc=([],91):=by rw [prA,if_neg hok]
    rw [hp] at h23
    go_wp2_with (go_at_call 23;refine h23.mono ?_;rintro e w5 ⟨rfl,hb5⟩;have R5:=R.keep hb5;have d2:=Go.Joins.cell_of_block R5.box 0;have d4:=Go.Joins.cell_of_block R5.err 0;have g2:=Go.Joins.unfrozen_of_block R5.box 0;have g4:=Go.Joins.unfrozen_of_block R5.err 0)
    refine leaves_cons (f:=61) (args:=#[.pointer (some ⟨w.heap.size,0,none⟩),.pointer (some ⟨w.heap.size+1,0,none⟩)]) (by simp) (by simp [go_sem]) ?_
    refine (idle61 _ _ _).mono ?_
    rintro e u' w'' ⟨rfl,rfl,rfl⟩
    obtain ⟨e1,e2⟩:=two_cells (x':=.slice none 0 0) (y':=.int .i64 91) hne d2 d4
    exact leave25 rfl rfl rfl e1 e2 (fin_no h8 R hb5 (fun h=>hok ⟨h.2,h.1⟩) _ _)
end Go.VE
namespace Go.VE
open Go.RowKit Go.Proofs Go.Shelf Go.Lib
set_option maxRecDepth 100000
set_option maxHeartbeats 4000000
theorem parse_long (l:List UInt8) (h8:8000 < l.length) (w:World):Calls Tryz.prog 25 #[.string ⟨l.toArray⟩] w (PP l w):=by
 have hgt:(8000:Int) < (l.length:Int):=by omega
 have hsz:=bs_size l
 obtain ⟨h1,h2,_⟩:=three w (.cells #[.slice none 0 0] 25) (.cells #[.int .i64 0] 34) (.cells #[] 0)
 go_enter_defers Tryz.func25,Tryz.ntmps25
 go_wp2
 have e:prs l=(none,0,2):=by rw [prs,if_pos h8]
 refine ⟨_,?_,PP.nothing (a:=0) (e:=2) ?_ e⟩
 ·simp [results,Tryz.results25,go_sem]
 ·exact below_alloc2 w _ _
theorem paC (l:List UInt8) (w:World) (hL:Laid w):Calls Tryz.prog 25 #[.string ⟨l.toArray⟩] w (PP l w):=by
 by_cases h:8000 < l.length
 ·exact parse_long l h w
 ·exact parse_c l (by omega) w hL
theorem s26a (n:Nat) (l:List UInt8):FN (n+4) 26 [sd l]=some (0,[.d (dS (prs l).1),.d (il (prs l).2.1),.d (il (prs l).2.2)]):=by
 by_cases h8:8000 < l.length
 ·rw [F26]
  have:(8000:Int) < (l.length:Int):=by omega
  simp only [G26,r_lenSs,r_liti,r_gtr,this,decide_true,r_cond,if_true,r_litNil,r_out,prs,h8]
  rfl
 ·exact s26' n l (by omega)
theorem sc26a (l:List UInt8):SC Tryz.prog 26 [.one (sd l)] (.tup [.one (.d (dS (prs l).1)),.one (.d (il (prs l).2.1)),.one (.d (il (prs l).2.2))]) :=
 FnT_ok (P:=Tryz.prog) (T:=tb) mixP spOK 4 26 [.one] [sd l] _ 0 [.d (dS (prs l).1),.d (il (prs l).2.1),.d (il (prs l).2.2)] [(false,[.d]),(false,[.d]),(false,[.d])] rfl rfl (s26a 0 l) rfl
theorem lns_line:∀ (a cur r:List UInt8),(∀ b∈a,b≠10)→lns cur (a++10::r)=(cur++a)::lns [] r
 | [],cur,r,_=>by simp [lns]
 | b::a,cur,r,h=>by
  rw [List.cons_append,lns,if_neg (h b (by simp)),lns_line a _ r fun x hx=>h x (by simp [hx])]
  simp
theorem wds_word:∀ (a cur r:List UInt8),(∀ b∈a,b≠32)→cur++a≠[]→wds cur (a++32::r)=(cur++a)::wds [] r
 | [],cur,r,_,hn=>by
  rw [List.append_nil] at hn ⊢
  rw [List.nil_append,wds,if_pos rfl,if_neg hn]
 | b::a,cur,r,h,hn=>by
  rw [List.cons_append,wds,if_neg (h b (by simp)),wds_word a _ r (fun x hx=>h x (by simp [hx])) (by simp)]
  simp
theorem wds_last:∀ (a cur:List UInt8),(∀ b∈a,b≠32)→cur++a≠[]→wds cur a=[cur++a]
 | [],cur,_,hn=>by
  rw [List.append_nil] at hn ⊢
  rw [wds,if_neg hn]
 | b::a,cur,h,hn=>by
  rw [wds,if_neg (h b (by simp)),wds_last a _ (fun x hx=>h x (by simp [hx])) (by simp)]
  simp
theorem dec_no {v:Nat} {c:UInt8} (hc:c.toNat < 48):∀ b∈decDigits v,b≠c:=by
 rintro b hb rfl
 have:=dec_digits v b hb
 omega
theorem decFrom_dec:∀ v:Nat,decFrom 0 (decDigits v)=some v
 | v=>by
  by_cases h:v < 10
  ·rw [decDigits_one h]
   simp only [decFrom,digitVal]
   rw [if_pos (by simp;omega)]
   simp
   omega
  ·rw [decDigits_ten h,decFrom_snoc,decFrom_dec (v / 10)]
   have hm:v % 10 < 10:=Nat.mod_lt _ (by decide)
   have hd:digitVal (UInt8.ofNat (48+v % 10))=some (v % 10):=by
    unfold digitVal
    rw [if_pos (by simp;omega)]
    simp
    omega
   simp only [Option.bind_some,hd,Option.map_some]
   congr 1
   omega
termination_by v=>v
decreasing_by omega
theorem numW_dec {v:Nat} (h:v≤99999):numW (decDigits v)=some v:=by
 have hl:=dec_len 4 v (by omega)
 rw [numW,if_neg,decFrom_dec]
 rintro (h5 | ⟨h1,h2⟩)
 ·omega
 ·cases hd:decDigits v with
  | nil=>exact absurd hd (dec_ne v)
  | cons c t =>
   rw [hd] at h1 h2
   simp at h1
   subst h1
   have:=(dec_zero v t hd).2
   subst this
   simp at h2
theorem numP_dec {v:Nat} (h:v≤99999):numP (decDigits v)=some v:=by rw [numP_W (dec_ne v),numW_dec h]
theorem name_no (k:Int) (c:UInt8) (hc:c.toNat < 97):∀ b∈nameOf k,b≠c:=by
 have key:∀ l:List UInt8,(l.all fun b=>decide (97≤b.toNat))=true→∀ b∈l,b≠c:=by
  rintro l hl b hb rfl
  have:=List.all_eq_true.1 hl b hb
  simp at this
  omega
 unfold nameOf
 split
 ·exact key _ (by decide)
 ·split
  ·exact key _ (by decide)
  ·split
   ·exact key _ (by decide)
   ·exact key _ (by decide)
def bodyS (s:Stk):List UInt8:=nameOf s.1++32::(dcN s.2.1++((if two2 s.1=true then 32::dcN s.2.2.1 else [])++32::dcN s.2.2.2))
theorem line_body (s:Stk):lineOf s=bodyS s++[10]:=by
 unfold lineOf bodyS
 split<;>simp
theorem body_ok {s:Stk} (h:okS s=true):(∀ b∈bodyS s,b≠10)∧wordsOf (bodyS s)≠[]∧strokeP (wds [] (bodyS s))=some s:=by
 obtain ⟨h1,h2,h3,h4,h5⟩:=okS_cases h
 obtain ⟨k,f,p,n⟩:=s
 simp only at h1 h2 h3 h4 h5
 obtain ⟨f,rfl⟩:=Int.eq_ofNat_of_zero_le (show 0≤f by omega)
 obtain ⟨p,rfl⟩:=Int.eq_ofNat_of_zero_le (show 0≤p by omega)
 obtain ⟨n,rfl⟩:=Int.eq_ofNat_of_zero_le (show 0≤n by omega)
 have hf:numP (decDigits f)=some f:=numP_dec (by omega)
 have hp:numP (decDigits p)=some p:=numP_dec (by omega)
 have hn:numP (decDigits n)=some n:=numP_dec (by omega)
 have hnm:nameOf k≠[]:=by rcases h4 with rfl | rfl | rfl | rfl<;>decide
 have h35:(bodyS (k,(f:Int),(p:Int),(n:Int))).head?≠some 35:=by
  unfold bodyS
  rcases h4 with rfl | rfl | rfl | rfl<;>simp [nameOf,tallyW,wantsW,askedW,bellW]
 have hno:∀ b∈bodyS (k,(f:Int),(p:Int),(n:Int)),b≠10:=by
  intro b hb
  unfold bodyS at hb
  simp only [List.mem_append,List.mem_cons,dcN,Int.toNat_natCast] at hb
  rcases hb with hb | rfl | hb | hb | rfl | hb
  ·exact name_no k 10 (by decide) b hb
  ·decide
  ·exact dec_no (by decide) b hb
  ·split at hb
   ·rcases List.mem_cons.1 hb with rfl | hb
    ·decide
    ·exact dec_no (by decide) b hb
   ·cases hb
  ·decide
  ·exact dec_no (by decide) b hb
 have hw:wds [] (bodyS (k,(f:Int),(p:Int),(n:Int)))=if two2 k=true then [nameOf k,decDigits f,decDigits p,decDigits n] else [nameOf k,decDigits f,decDigits n]:=by
  unfold bodyS
  simp only [dcN,Int.toNat_natCast]
  rw [wds_word _ _ _ (name_no k 32 (by decide)) (by simpa using hnm)]
  split
  ·rw [List.cons_append,wds_word _ _ _ (dec_no (by decide)) (by simpa using dec_ne f),wds_word _ _ _ (dec_no (by decide)) (by simpa using dec_ne p),wds_last _ _ (dec_no (by decide)) (by simpa using dec_ne n)]
   rfl
  ·have e0:decDigits f++([]++32::decDigits n)=decDigits f++32::decDigits n:=rfl
   rw [e0,wds_word _ _ _ (dec_no (by decide)) (by simpa using dec_ne f),wds_last _ _ (dec_no (by decide)) (by simpa using dec_ne n)]
   rfl
 have hkn:kindI (nameOf k)=k:=by rcases h4 with rfl | rfl | rfl | rfl<;>decide
 refine ⟨hno,?_,?_⟩
 ·rw [wordsOf,if_neg h35,hw]
  split<;>simp
 ·rw [hw]
  have hk0:¬ k=0:=by omega
  split
  ·rename_i ht
   show (if kindI (nameOf k)=0 then none else if two2 (kindI (nameOf k))=true then threeP (kindI (nameOf k)) _ else twoP (kindI (nameOf k)) _)=_
   rw [hkn,if_neg hk0,if_pos ht]
   simp only [threeP,hf,hp,hn]
  ·rename_i ht
   have hp0:=h5 (by simpa using ht)
   show (if kindI (nameOf k)=0 then none else if two2 (kindI (nameOf k))=true then threeP (kindI (nameOf k)) _ else twoP (kindI (nameOf k)) _)=_
   rw [hkn,if_neg hk0,if_neg ht]
   simp only [twoP,hf,hn]
   rw [hp0]
theorem parP_prt:∀ (l:List Stk) (i:Nat),l.all okS=true→parP i (lns [] (prt l))=.inr l
 | [],i,_=>rfl
 | s::r,i,h=>by
  simp only [List.all_cons,Bool.and_eq_true] at h
  obtain ⟨h1,h2,h3⟩:=body_ok h.1
  have e:prt (s::r)=bodyS s++10::prt r:=by simp [prt,line_body]
  rw [e,lns_line _ _ _ h1,List.nil_append]
  simp only [parP,h2,if_false,h3,parP_prt r (i+1) h.2]
theorem prs_prt {l:List Stk} (h120:l.length≤120) (hok:l.all okS=true):prs (prt l)=(opL l,0,0):=by
 have hl:=prt_len hok
 rw [prs,if_neg (by omega),← parP_L,parP_prt l 0 hok]
 simp only
 rw [if_pos ⟨hok,h120⟩]
end Go.VE
