/- Book: Write, where nothing is written yet, walked. -/
import Derived.Test.YtipddjojdgapiaaGreatDoorMg6
import Derived.Test.YtipddjojdgapiaaGreatDoorMg5
import Derived.Test.YtipddjojdgapiaaGreatDoorMg4
namespace Go.VE
open Go.RowKit Go.Proofs Go.Shelf Go.Lib
set_option maxRecDepth 100000
set_option maxHeartbeats 1500000
theorem Th3.start' (w0:World) (z0 z1 z2:Value):Th3 z0 z1 z2 w0 w0.heap.size (fun _=>0) (fun _=>[]) (fun _=>.slice none 0 0) (w0.alloc (.cells #[.slice none 0 0,.slice none 0 0,.slice none 0 0,z0,z1,z2] 43)):=by
 refine ⟨heap_alloc_new _ _,fun i _=>World.ownsRow_nil _ _ _ _,fun i j _ _ _ k hk=>(by cases hk),fun _ _ _=>rfl,(Below.refl _ _).alloc (Nat.le_refl _) _,by simp⟩
theorem inf25:∃ i,Tryz.prog.info? 25=some i∧i.zero=some (.agg #[.int .i64 0,.int .i64 0,.int .i64 0,.int .i64 0,.int .i64 0,.int .i64 0,.int .i64 0,.string ⟨#[]⟩])∧i.size=8∧i.bytes=72:=by
 have h:((Tryz.prog.info? 25).map fun i=>(i.zero,i.size,i.bytes))=some (some (.agg #[.int .i64 0,.int .i64 0,.int .i64 0,.int .i64 0,.int .i64 0,.int .i64 0,.int .i64 0,.string ⟨#[]⟩]),8,72):=by kernel_rfl
 obtain ⟨i,h1,h2⟩:=Option.map_eq_some_iff.1 h
 simp only [Prod.mk.injEq] at h2
 exact ⟨i,h1,h2.1,h2.2.1,h2.2.2⟩
theorem oneE {r:Rec}:∀ u∈encR r,u.oneCell'=true:=fun u hu=>by
 simp only [encR,List.mem_cons,List.not_mem_nil,or_false] at hu
 rcases hu with rfl | rfl | rfl | rfl | rfl | rfl | rfl | rfl<;>rfl
theorem results3 {P:Program} {fn:Func} {p u1 u2:Tmp} {ty:TypeId} (h:fn.results=#[.cell p ty,.tmp u1,.tmp u2]) (tmps:Array Value) (w:World) (g:Nat) (t:TypeId) (cs:Array Value) (fr:Nat×Nat) (d:TypeDesc)
  (hp:tmps.getD p undef=.pointer (some ⟨g,0,none⟩)) (hg:w.heap[g]?=some (.cells cs t fr))
  (hu:P.underlying ty=some d) (hd:(match d with | .struct _ | .array _ _=>true | _=>false)=true) (hi:(P.info? ty).map (·.size)=some cs.size) :
  (results fn tmps).run P w=.ok (.tuple #[.agg cs,tmps.getD u1 undef,tmps.getD u2 undef]) w:=by
 have hp':tmps[p]?.getD undef=.pointer (some ⟨g,0,none⟩):=by simpa using hp
 simp [results,h,hp',asAddr,run_loadVar_row w g t ty cs fr d hg hu hd hi,Sem.run_bind]
theorem far9 {X w9:World} {o:Obj} (gro:(X.drew.alloc o).grownBy w9 none) {k:Nat} (hk:k < X.heap.size):w9.heap[k]?=X.heap[k]? :=
 (gro.block k (by rw [World.size_alloc];show k < X.heap.size+1;omega) (by intro h;cases h)).trans (heap_alloc_old X.drew o hk)
theorem bel9 {X w9:World} {o:Obj} (gro:(X.drew.alloc o).grownBy w9 none):Below X.heap.size X w9 :=
 (((Below.refl _ X).drew).alloc (Nat.le_refl _) o).grown gro (by rw [World.size_alloc];show X.heap.size≤X.heap.size+1;omega) (fun k hk=>by cases hk)
theorem own6 {w:World} {B e size n b:Nat} {v:Value} {xs:List Value} (h:w.ownsRow B e size v n xs) (hb:b < B) (u0 u1 u2 u3 u4 u5:Value):((((((w.setCell ⟨b,0,none⟩ u0).setCell ⟨b,1,none⟩ u1).setCell ⟨b,2,none⟩ u2).setCell ⟨b,3,none⟩ u3).setCell ⟨b,4,none⟩ u4).setCell ⟨b,5,none⟩ u5).ownsRow B e size v n xs :=
 ownsRow_setCell_below (a:=⟨b,5,none⟩) (ownsRow_setCell_below (a:=⟨b,4,none⟩) (ownsRow_setCell_below (a:=⟨b,3,none⟩) (ownsRow_setCell_below (a:=⟨b,2,none⟩) (ownsRow_setCell_below (a:=⟨b,1,none⟩) (ownsRow_setCell_below (a:=⟨b,0,none⟩) h hb _) hb _) hb _) hb _) hb _) hb _
theorem bel6 {a w:World} {B b:Nat} (h:Below B a w) (hb:B≤b) (u0 u1 u2 u3 u4 u5:Value):Below B a ((((((w.setCell ⟨b,0,none⟩ u0).setCell ⟨b,1,none⟩ u1).setCell ⟨b,2,none⟩ u2).setCell ⟨b,3,none⟩ u3).setCell ⟨b,4,none⟩ u4).setCell ⟨b,5,none⟩ u5) :=
 (((((h.setCell (p:=⟨b,0,none⟩) hb _).setCell (p:=⟨b,1,none⟩) hb _).setCell (p:=⟨b,2,none⟩) hb _).setCell (p:=⟨b,3,none⟩) hb _).setCell (p:=⟨b,4,none⟩) hb _).setCell (p:=⟨b,5,none⟩) hb _
theorem set6 {w:World} {b t:Nat} {x0 x1 x2 x3 x4 x5:Value} (h:w.heap[b]?=some (.cells #[x0,x1,x2,x3,x4,x5] t (0,0))) (u0 u1 u2 u3 u4 u5:Value):((((((w.setCell ⟨b,0,none⟩ u0).setCell ⟨b,1,none⟩ u1).setCell ⟨b,2,none⟩ u2).setCell ⟨b,3,none⟩ u3).setCell ⟨b,4,none⟩ u4).setCell ⟨b,5,none⟩ u5).heap[b]?=some (.cells #[u0,u1,u2,u3,u4,u5] t (0,0)) :=
 setC_same (i:=5) (v:=u5) (setC_same (i:=4) (v:=u4) (setC_same (i:=3) (v:=u3) (setC_same (i:=2) (v:=u2) (setC_same (i:=1) (v:=u1) (setC_same (i:=0) (v:=u0) h)))))
theorem DR_ownS {w:World} {U:Nat→Prop} {B e n s:Nat} {v:Value} {rows:List (List D)} (h:w.ownsRow B e s v n (rowsV rows)) (hn:rows.length=n) (h0:0 < n) (hl:∀ r∈rows,r.length=s∧∀ x∈r,isLit x=true) (hU:∀ k,v.ownBlock=some k→U k):DR w U (.sl s rows) v:=by
 rcases h.2 with ⟨_,h0'⟩ | ⟨g,cap,cur,rfl,h2,h3,h4,h5,h6,h7⟩
 ·omega
 ·simp only [DR]
  refine ⟨_,cap,by rw [hn],by rw [hn];exact h4,h5,fun _=>⟨g,0,rfl,hU g rfl,RR_lits hl fun j u hu=>?_⟩⟩
  rw [Nat.zero_add,h.cellAt j (by have:=(List.getElem?_eq_some_iff.1 hu).1;rw [h.1] at this;exact this)]
  exact hu
theorem litS3 {n z:Int} {t:List UInt8}:∀ r∈[strR n z t],r.length=3∧∀ x∈r,isLit x=true:=fun r hr=>by
 simp only [List.mem_cons,List.not_mem_nil,or_false] at hr
 subst hr
 refine ⟨rfl,fun x hx=>?_⟩
 simp only [strR,List.mem_cons,List.not_mem_nil,or_false] at hx
 rcases hx with rfl | rfl | rfl<;>rfl
theorem litS8 {r:Rec}:∀ y∈[recR r],y.length=8∧∀ x∈y,isLit x=true:=fun y hr=>by
 simp only [List.mem_cons,List.not_mem_nil,or_false] at hr
 subst hr
 refine ⟨rfl,fun x hx=>?_⟩
 simp only [recR,List.mem_cons,List.not_mem_nil,or_false] at hx
 rcases hx with rfl | rfl | rfl | rfl | rfl | rfl | rfl | rfl<;>rfl
theorem three (w:World) (a b c:Obj):(((w.alloc a).alloc b).alloc c).heap[w.heap.size]?=some a∧(((w.alloc a).alloc b).alloc c).heap[w.heap.size+1]?=some b∧(((w.alloc a).alloc b).alloc c).heap[w.heap.size+1+1]?=some c:=by
 simp only [World.alloc]
 refine ⟨?_,?_,?_⟩
 ·rw [Array.getElem?_push,if_neg (by simp only [Array.size_push];omega),Array.getElem?_push,if_neg (by simp only [Array.size_push];omega),Array.getElem?_push,if_pos (by simp only [Array.size_push])]
 ·rw [Array.getElem?_push,if_neg (by simp only [Array.size_push];omega),Array.getElem?_push,if_pos (by simp only [Array.size_push])]
 ·rw [Array.getElem?_push,if_pos (by simp only [Array.size_push])]
theorem isOK_some {o:Out} (h:isOK o=true):o=some (0,[.d (il 0)]):=by
 unfold isOK at h
 split at h
 ·split at h
  ·rename_i e z hz
   rw [decide_eq_true_eq] at h
   rw [dInt_some hz,h]
  ·cases h
 ·cases h
theorem isNew_some {o:Out} (h:isNew o=true):o=some (0,[.d (bl false),.d (il 0)]):=by
 unfold isNew at h
 split at h
 ·split at h
  ·rename_i hb
   split at h
   ·rename_i z hz
    rw [decide_eq_true_eq] at h
    rw [dInt_some hz,h,dBool_some hb]
   ·cases h
  ·cases h
 ·cases h
theorem write0 {Fn:Nat→List D→Out} (hF:FnOK Tryz.prog CF Fn) {r:Rec} {b3 b4 b5:Int} (h31:isOK (Fn 31 [.lit (.slice none 0 0),.lit (.slice none 0 0),.lit (.slice none 0 0),il b3,il b4,il b5,.lit (.slice none 0 0)])=true) (h81:isNew (Fn 81 (.lit (.slice none 0 0)::recR r))=true)
  (h82:Fn 82 [.lit (.slice none 0 0),.lit (.slice none 0 0),.lit (.slice none 0 0),il b3,il b4,il b5]=some (0,[.d (.lit (.slice none 0 0)),.d (.lit (.slice none 0 0)),.d (.lit (.slice none 0 0)),.d (il b3),.d (il b4),.d (il b5)])) (h83:Fn 83 [.lit (.slice none 0 0)]=some (1,[.d (.lit (.slice none 0 0))]))
  {ys:List Yr} {n0 z0 n1 z1 n2 z2:Int} {t0 t1 t2:List UInt8} (h71:outS (Fn 71 (recR r++[il 0]))=some ys) (hs:stripD ys=some (n0,z0,t0,n1,z1,t1,n2,z2,t2)) {w:World} {U:Nat→Prop} (hU:∀ b,U b→b < w.heap.size) (hX:XX w U) :
  Calls Tryz.prog 21 #[.agg #[.slice none 0 0,.slice none 0 0,.slice none 0 0,.int .i64 b3,.int .i64 b4,.int .i64 b5],.slice none 0 0,.agg #[.int .i64 r.p,.int .i64 r.no,.int .i64 r.kd,.int .i64 r.dy,.int .i64 r.kn,.int .i64 r.op,.int .i64 r.on,.string ⟨r.tx.toArray⟩]] w (Post w U (.tup [.agg [.d (.sl 3 [[il n0,il z0,sD t0]]),.d (.sl 3 [[il n1,il z1,sD t1]]),.d (.sl 3 [[il n2,il z2,sD t2]]),.d (il b3),.d (il b4),.d (il b5)],.one (.d (.sl 8 [recR r])),.one (.d (il 0))])):=by
 have H:∀ {W:World},Below w.heap.size w W→(∀ b,U b→b < W.heap.size)∧XX W U:=fun hb=>⟨fun b h=>Nat.lt_of_lt_of_le (hU b h) hb.size,hX.mono (fun b h=>hb.block b (hU b h)) fun _ h=>h⟩
 have s31:=sc_of hF (f:=31) (sh:=[.agg 6,.one]) (vs:=[.agg [.lit (.slice none 0 0),.lit (.slice none 0 0),.lit (.slice none 0 0),il b3,il b4,il b5],.one (.lit (.slice none 0 0))]) (rs:=[(false,[.d])]) rfl rfl (isOK_some h31) rfl
 have s81:=sc_of hF (f:=81) (sh:=[.one,.agg 8]) (vs:=[.one (.lit (.slice none 0 0)),.agg (recR r)]) (rs:=[(false,[.d]),(false,[.d])]) rfl rfl (isNew_some h81) rfl
 have s82:=sc_of hF (f:=82) (sh:=[.agg 6]) (vs:=[.agg [.lit (.slice none 0 0),.lit (.slice none 0 0),.lit (.slice none 0 0),il b3,il b4,il b5]]) (rs:=[(true,[.d,.d,.d,.d,.d,.d])]) rfl rfl h82 rfl
 have s83:=sc_of hF (f:=83) (sh:=[.one]) (vs:=[.one (.lit (.slice none 0 0))]) (rs:=[(false,[.d])]) rfl rfl h83 rfl
 have hbx:∀ (W:World),VDF W U [.agg [.lit (.slice none 0 0),.lit (.slice none 0 0),.lit (.slice none 0 0),il b3,il b4,il b5]] [.agg #[.slice none 0 0,.slice none 0 0,.slice none 0 0,.int .i64 b3,.int .i64 b4,.int .i64 b5]]:=fun W=>⟨_,_,rfl,⟨_,rfl,⟨_,_,rfl,⟨rfl,rfl⟩,_,_,rfl,⟨rfl,rfl⟩,_,_,rfl,⟨rfl,rfl⟩,_,_,rfl,⟨rfl,rfl⟩,_,_,rfl,⟨rfl,rfl⟩,_,_,rfl,⟨rfl,rfl⟩,rfl⟩⟩,rfl⟩
 have k31:∀ W,Below w.heap.size w W→Calls Tryz.prog 31 #[.agg #[.slice none 0 0,.slice none 0 0,.slice none 0 0,.int .i64 b3,.int .i64 b4,.int .i64 b5],.slice none 0 0] W fun e w'=>e=.returned (.int .i64 0)∧Below W.heap.size W w':=fun W hb=>cLit s31 (H hb).1 (H hb).2 ⟨_,_,rfl,⟨_,rfl,⟨_,_,rfl,⟨rfl,rfl⟩,_,_,rfl,⟨rfl,rfl⟩,_,_,rfl,⟨rfl,rfl⟩,_,_,rfl,⟨rfl,rfl⟩,_,_,rfl,⟨rfl,rfl⟩,_,_,rfl,⟨rfl,rfl⟩,rfl⟩⟩,_,_,rfl,⟨rfl,rfl⟩,rfl⟩
 have k81:∀ W,Below w.heap.size w W→Calls Tryz.prog 81 #[.slice none 0 0,.agg #[.int .i64 r.p,.int .i64 r.no,.int .i64 r.kd,.int .i64 r.dy,.int .i64 r.kn,.int .i64 r.op,.int .i64 r.on,.string ⟨r.tx.toArray⟩]] W fun e w'=>e=.returned (.tuple #[.bool false,.int .i64 0])∧Below W.heap.size W w':=fun W hb=>by
  refine (s81.2 W U _ (H hb).1 (H hb).2 ⟨_,_,rfl,⟨rfl,rfl⟩,_,_,rfl,⟨_,rfl,recR_f r⟩,rfl⟩).mono ?_
  rintro e w' ⟨v,U',bs,rfl,hb,_,_,_,_,hr⟩
  obtain ⟨vs,rfl,_,_,_,_,e1,_,⟨_,q1,_⟩,_,_,_,_,rfl,_,⟨_,q2,_⟩,rfl,_⟩:=hr
  rw [q1,q2] at e1
  exact ⟨by rw [arr_of e1],hb⟩
 have k82:∀ W,Below w.heap.size w W→Calls Tryz.prog 82 #[.agg #[.slice none 0 0,.slice none 0 0,.slice none 0 0,.int .i64 b3,.int .i64 b4,.int .i64 b5]] W fun e w'=>e=.returned (.agg #[.slice none 0 0,.slice none 0 0,.slice none 0 0,.int .i64 b3,.int .i64 b4,.int .i64 b5])∧Below W.heap.size W w':=fun W hb=>by
  refine (s82.2 W U _ (H hb).1 (H hb).2 (hbx W)).mono ?_
  rintro e w' ⟨v,U',bs,rfl,hb,_,_,_,_,hr⟩
  have hr':RvR w' U' (.agg ([.lit (.slice none 0 0),.lit (.slice none 0 0),.lit (.slice none 0 0),il b3,il b4,il b5].map RC.d)) v bs:=hr
  obtain ⟨cs,rfl,hc⟩:=hr'
  have hf:=(RcF_d hc).1
  simp only [FR] at hf
  obtain ⟨_,_,e1,g1,_,_,rfl,g2,_,_,rfl,g3,_,_,rfl,g4,_,_,rfl,g5,_,_,rfl,g6,rfl⟩:=hf
  rw [g1.1,g2.1,g3.1,il_v g4,il_v g5,il_v g6] at e1
  exact ⟨by rw [arr_of e1],hb⟩
 have k83:∀ W,Below w.heap.size w W→Calls Tryz.prog 83 #[.slice none 0 0] W fun e w'=>e=.returned (.slice none 0 0)∧Below W.heap.size W w':=fun W hb=>cLit s83 (H hb).1 (H hb).2 ⟨_,_,rfl,⟨rfl,rfl⟩,rfl⟩
 have k71:=fun W (hb:Below w.heap.size w W)=>c71 hF h71 hs (H hb).1 (H hb).2
 clear s31 s81 s82 s83 hbx
 have A0:∀ a b c,Below w.heap.size w (((w.alloc a).alloc b).alloc c):=fun a b c=>(((Below.refl _ w).alloc (Nat.le_refl _) a).alloc (by simp) b).alloc (by simp;omega) c
 go_enter Tryz.func21,Tryz.ntmps21
 go_wp2_with (first
  | (go_at_call 31;refine (k31 _ (A0 _ _ _)).mono ?_;rintro e w1 ⟨rfl,b1⟩;have hsz1:w.heap.size+1+1 < w1.heap.size:=Nat.lt_of_lt_of_le (by simp) b1.size;have B1:Below w.heap.size w w1:=(A0 _ _ _).trans (b1.mono (A0 _ _ _).size);have r1:=(b1.block (w.heap.size+1) (by simp)).trans (three w _ _ _).2.1;have r2:=(b1.block (w.heap.size+1+1) (by simp)).trans (three w _ _ _).2.2;have r0:=(b1.block w.heap.size (by simp;omega)).trans (three w _ _ _).1;have q1_0:=Go.Joins.cell_of_block r1 0;have q1_1:=Go.Joins.cell_of_block r1 1;have q1_2:=Go.Joins.cell_of_block r1 2;have q1_3:=Go.Joins.cell_of_block r1 3;have q1_4:=Go.Joins.cell_of_block r1 4;have q1_5:=Go.Joins.cell_of_block r1 5;have q1_6:=Go.Joins.cell_of_block r1 6;have q1_7:=Go.Joins.cell_of_block r1 7)
  | (go_at_call 81;refine (k81 _ B1).mono ?_;rintro e w2 ⟨rfl,b2⟩;have hsz2:w.heap.size+1+1 < w2.heap.size:=(by have:=b2.size;omega);have B2:Below w.heap.size w w2:=B1.trans (b2.mono B1.size);have u0:=(b2.block w.heap.size (by omega)).trans r0;have u1:=(b2.block (w.heap.size+1) (by omega)).trans r1;have u2:=(b2.block (w.heap.size+1+1) (by omega)).trans r2;clear r0 r1 r2;have q2_0:=Go.Joins.cell_of_block u0 0;have q2_1:=Go.Joins.cell_of_block u0 1;have q2_2:=Go.Joins.cell_of_block u0 2;have q2_3:=Go.Joins.cell_of_block u0 3;have q2_4:=Go.Joins.cell_of_block u0 4;have q2_5:=Go.Joins.cell_of_block u0 5)
  | (go_at_call 82;refine (k82 _ B2).mono ?_;rintro e w3 ⟨rfl,b3'⟩;have hsz3:w.heap.size+1+1 < w3.heap.size:=(by have:=b3'.size;omega))
  | (go_at_call 83;refine (k83 _ (B2.trans (b3'.mono B2.size))).mono ?_;rintro e w4 ⟨rfl,b4'⟩;have B4:Below w.heap.size w w4:=(B2.trans (b3'.mono B2.size)).trans (b4'.mono (B2.trans (b3'.mono B2.size)).size);have hsz4:w.heap.size+1+1 < w4.heap.size:=(by have:=b4'.size;omega);have p1:=(b4'.block (w.heap.size+1) (by omega)).trans ((b3'.block (w.heap.size+1) (by omega)).trans u1);have p2:=(b4'.block (w.heap.size+1+1) (by omega)).trans ((b3'.block (w.heap.size+1+1) (by omega)).trans u2);have B5:Below w.heap.size w (w4.alloc (.cells #[.slice none 0 0,.slice none 0 0,.slice none 0 0,.int .i64 b3,.int .i64 b4,.int .i64 b5] 43)):=B4.alloc B4.size _;have m1:=(heap_alloc_old w4 (.cells #[.slice none 0 0,.slice none 0 0,.slice none 0 0,.int .i64 b3,.int .i64 b4,.int .i64 b5] 43) (by omega)).trans p1;have q3_0:=Go.Joins.cell_of_block m1 0;have q3_1:=Go.Joins.cell_of_block m1 1;have q3_2:=Go.Joins.cell_of_block m1 2;have q3_3:=Go.Joins.cell_of_block m1 3;have q3_4:=Go.Joins.cell_of_block m1 4;have q3_5:=Go.Joins.cell_of_block m1 5;have q3_6:=Go.Joins.cell_of_block m1 6;have q3_7:=Go.Joins.cell_of_block m1 7)
  | (go_at_call 71;refine (k71 _ B5).mono ?_;rintro e w6 ⟨rfl,b6⟩))
 have R2:Th3 (.int .i64 b3) (.int .i64 b4) (.int .i64 b5) w4 w4.heap.size (fun _:Nat=>0) (fun _:Nat=>([]:List Value)) (fun _:Nat=>Value.slice none 0 0) w6:=(Th3.start' w4 (.int .i64 b3) (.int .i64 b4) (.int .i64 b5)).keep b6
 have hB:Below w.heap.size w w4:=B4
 have hp1:=p1
 have hp2:=p2
 have hs4:=hsz4
 clear k31 k81 k82 k83 k71 b1 B1 b2 B2 b3' b4' B4 B5 m1 u0 u1 u2 b6 p1 p2 hsz1 hsz2 hsz3 hsz4 A0 H
 clear q1_0 q1_1 q1_2 q1_3 q1_4 q1_5 q1_6 q1_7 q2_0 q2_1 q2_2 q2_3 q2_4 q2_5 q3_0 q3_1 q3_2 q3_3 q3_4 q3_5 q3_6 q3_7
 obtain ⟨i0,hi0,hz0,hsz0,hby0⟩:=inf27
 have ix0:=fun W=>(ix9 (.int .i64 n0) (.int .i64 z0) (.string ⟨t0.toArray⟩) (.int .i64 n1) (.int .i64 z1) (.string ⟨t1.toArray⟩) (.int .i64 n2) (.int .i64 z2) (.string ⟨t2.toArray⟩) W).1
 have ix1:=fun W=>(ix9 (.int .i64 n0) (.int .i64 z0) (.string ⟨t0.toArray⟩) (.int .i64 n1) (.int .i64 z1) (.string ⟨t1.toArray⟩) (.int .i64 n2) (.int .i64 z2) (.string ⟨t2.toArray⟩) W).2.1
 have ix2:=fun W=>(ix9 (.int .i64 n0) (.int .i64 z0) (.string ⟨t0.toArray⟩) (.int .i64 n1) (.int .i64 z1) (.string ⟨t1.toArray⟩) (.int .i64 n2) (.int .i64 z2) (.string ⟨t2.toArray⟩) W).2.2
 refine wp_loop_rounds 4 ?_
 rw [rounds_succ]
 go_wp2
 obtain ⟨W0,hW0⟩:∃ W,w6.alloc (.cells #[.int .i64 n0,.int .i64 z0,.string ⟨t0.toArray⟩] 27)=W:=⟨_,rfl⟩
 rw [hW0]
 have R3_0:Th3 (.int .i64 b3) (.int .i64 b4) (.int .i64 b5) w4 w4.heap.size (fun _:Nat=>0) (fun _:Nat=>([]:List Value)) (fun _:Nat=>Value.slice none 0 0) W0:=by rw [←hW0];exact R2.keep ((Below.refl _ w6).alloc (Nat.le_refl _) _)
 have B3_0:W0.heap[w6.heap.size]?=some (.cells #[.int .i64 n0,.int .i64 z0,.string ⟨t0.toArray⟩] 27 (0,0)):=by rw [←hW0];exact heap_alloc_new _ _
 clear hW0
 have s0:=Go.Joins.cell_of_block B3_0 0
 have s1:=Go.Joins.cell_of_block B3_0 1
 have s2:=Go.Joins.cell_of_block B3_0 2
 have cb:W0.cell? ⟨w4.heap.size,0,none⟩=some (.slice none 0 0):=Go.Joins.cell_of_block R3_0.box 0
 have c5:(W0.alloc (.cells #[.int .i64 n0,.int .i64 z0,.string ⟨t0.toArray⟩] 27)).cell? ⟨w4.heap.size,0,none⟩=some (.slice none 0 0):=(World.cell?_alloc_lt _ _ _ (World.block_lt_of_cell? W0 _ cb)).trans cb
 have hA:(W0.drew.alloc (.cells #[.int .i64 n0,.int .i64 z0,.string ⟨t0.toArray⟩] 27)).heap[W0.heap.size]?=some (.cells #[.int .i64 n0,.int .i64 z0,.string ⟨t0.toArray⟩] 27 (0,0)):=heap_alloc_new W0.drew _
 have R4:=R3_0.keep (((Below.refl _ W0).drew).alloc (Nat.le_refl _) (.cells #[.int .i64 n0,.int .i64 z0,.string ⟨t0.toArray⟩] 27))
 apply merge3 (fun g c W'=>Th3 (.int .i64 b3) (.int .i64 b4) (.int .i64 b5) w4 w4.heap.size (upd (fun _:Nat=>0) 0 (0+1)) (upd (fun _:Nat=>([]:List Value)) 0 ([]++[.int .i64 n0,.int .i64 z0,.string ⟨t0.toArray⟩])) (upd (fun _:Nat=>Value.slice none 0 0) 0 (.slice (some ⟨g,0,none⟩) (0+1) c)) W')
 ·intro key
  go_region_law (refine step_append_lies _ rfl (.tmp 52) (.tmp 54) 30 rfl (w4.heap.size+1) 27 i0 (.agg #[.int .i64 0,.int .i64 0,.string ⟨#[]⟩]) 3 32 Tryz.underlying30 hi0 hz0 hsz0 hby0 rfl (by decide) (.slice none 0 0) 0 [] rfl (R4.own 0 (by decide)) ⟨W0.heap.size,0,none⟩ 1 1 [.int .i64 n0,.int .i64 z0,.string ⟨t0.toArray⟩] rfl rfl (World.news_of_block hA) oneC3 (by decide) (by decide) (by decide) R4.si _ rfl (fun g4 cap4 w5 own4 gro4 lie4 lt4=>?_);have h4:=R4.far (i:=0) (by decide) gro4;have c4:=Go.Joins.cell_of_block h4 0;have f4:=Go.Joins.unfrozen_of_block h4 0)
  all_goals
   have R5:Th3 (.int .i64 b3) (.int .i64 b4) (.int .i64 b5) w4 w4.heap.size (upd (fun _:Nat=>0) 0 (0+1)) (upd (fun _:Nat=>([]:List Value)) 0 ([]++[.int .i64 n0,.int .i64 z0,.string ⟨t0.toArray⟩])) (upd (fun _:Nat=>Value.slice none 0 0) 0 (.slice (some ⟨g4,0,none⟩) (0+1) cap4)) (w5.setCell ⟨w4.heap.size,0,none⟩ (.slice (some ⟨g4,0,none⟩) (0+1) cap4)):=R4.push (i:=0) (by decide) own4 gro4 lie4
   obtain ⟨W5,hW5⟩:∃ W5,w5.setCell ⟨w4.heap.size,0,none⟩ (.slice (some ⟨g4,0,none⟩) (0+1) cap4)=W5:=⟨_,rfl⟩
   rw [hW5] at R5
   try rw [hW5]
   exact key.out g4 cap4 W5 R5
 clear s0 s1 s2 cb c5 hA R4
 intro g0 cap0 X0 Q0
 obtain ⟨v1,hv1⟩:∃ v',upd (fun _:Nat=>Value.slice none 0 0) 0 (.slice (some ⟨g0,0,none⟩) (0+1) cap0)=v':=⟨_,rfl⟩
 rw [hv1] at Q0
 clear hv1
 go_wp2
 rw [rounds_succ]
 go_wp2
 obtain ⟨W1,hW1⟩:∃ W,X0.alloc (.cells #[.int .i64 n1,.int .i64 z1,.string ⟨t1.toArray⟩] 27)=W:=⟨_,rfl⟩
 rw [hW1]
 have R3_1:Th3 (.int .i64 b3) (.int .i64 b4) (.int .i64 b5) w4 w4.heap.size (upd (fun _:Nat=>0) 0 (0+1)) (upd (fun _:Nat=>([]:List Value)) 0 ([]++[.int .i64 n0,.int .i64 z0,.string ⟨t0.toArray⟩])) v1 W1:=by rw [←hW1];exact Q0.keep ((Below.refl _ X0).alloc (Nat.le_refl _) _)
 have B3_1:W1.heap[X0.heap.size]?=some (.cells #[.int .i64 n1,.int .i64 z1,.string ⟨t1.toArray⟩] 27 (0,0)):=by rw [←hW1];exact heap_alloc_new _ _
 clear hW1
 have s0:=Go.Joins.cell_of_block B3_1 0
 have s1:=Go.Joins.cell_of_block B3_1 1
 have s2:=Go.Joins.cell_of_block B3_1 2
 have cb:W1.cell? ⟨w4.heap.size,1,none⟩=some (v1 1):=Go.Joins.cell_of_block R3_1.box 1
 have c5:(W1.alloc (.cells #[.int .i64 n1,.int .i64 z1,.string ⟨t1.toArray⟩] 27)).cell? ⟨w4.heap.size,1,none⟩=some (v1 1):=(World.cell?_alloc_lt _ _ _ (World.block_lt_of_cell? W1 _ cb)).trans cb
 have hA:(W1.drew.alloc (.cells #[.int .i64 n1,.int .i64 z1,.string ⟨t1.toArray⟩] 27)).heap[W1.heap.size]?=some (.cells #[.int .i64 n1,.int .i64 z1,.string ⟨t1.toArray⟩] 27 (0,0)):=heap_alloc_new W1.drew _
 have R4:=R3_1.keep (((Below.refl _ W1).drew).alloc (Nat.le_refl _) (.cells #[.int .i64 n1,.int .i64 z1,.string ⟨t1.toArray⟩] 27))
 apply merge3 (fun g c W'=>Th3 (.int .i64 b3) (.int .i64 b4) (.int .i64 b5) w4 w4.heap.size (upd (upd (fun _:Nat=>0) 0 (0+1)) 1 (0+1)) (upd (upd (fun _:Nat=>([]:List Value)) 0 ([]++[.int .i64 n0,.int .i64 z0,.string ⟨t0.toArray⟩])) 1 ([]++[.int .i64 n1,.int .i64 z1,.string ⟨t1.toArray⟩])) (upd v1 1 (.slice (some ⟨g,0,none⟩) (0+1) c)) W')
 ·intro key
  go_region_law (refine step_append_lies _ rfl (.tmp 52) (.tmp 54) 30 rfl (w4.heap.size+1) 27 i0 (.agg #[.int .i64 0,.int .i64 0,.string ⟨#[]⟩]) 3 32 Tryz.underlying30 hi0 hz0 hsz0 hby0 rfl (by decide) (v1 1) 0 [] rfl (R4.own 1 (by decide)) ⟨W1.heap.size,0,none⟩ 1 1 [.int .i64 n1,.int .i64 z1,.string ⟨t1.toArray⟩] rfl rfl (World.news_of_block hA) oneC3 (by decide) (by decide) (by decide) R4.si _ rfl (fun g4 cap4 w5 own4 gro4 lie4 lt4=>?_);have h4:=R4.far (i:=1) (by decide) gro4;have c4:=Go.Joins.cell_of_block h4 1;have f4:=Go.Joins.unfrozen_of_block h4 1)
  all_goals
   have R5:Th3 (.int .i64 b3) (.int .i64 b4) (.int .i64 b5) w4 w4.heap.size (upd (upd (fun _:Nat=>0) 0 (0+1)) 1 (0+1)) (upd (upd (fun _:Nat=>([]:List Value)) 0 ([]++[.int .i64 n0,.int .i64 z0,.string ⟨t0.toArray⟩])) 1 ([]++[.int .i64 n1,.int .i64 z1,.string ⟨t1.toArray⟩])) (upd v1 1 (.slice (some ⟨g4,0,none⟩) (0+1) cap4)) (w5.setCell ⟨w4.heap.size,1,none⟩ (.slice (some ⟨g4,0,none⟩) (0+1) cap4)):=R4.push (i:=1) (by decide) own4 gro4 lie4
   obtain ⟨W5,hW5⟩:∃ W5,w5.setCell ⟨w4.heap.size,1,none⟩ (.slice (some ⟨g4,0,none⟩) (0+1) cap4)=W5:=⟨_,rfl⟩
   rw [hW5] at R5
   try rw [hW5]
   exact key.out g4 cap4 W5 R5
 clear s0 s1 s2 cb c5 hA R4
 intro g1 cap1 X1 Q1
 obtain ⟨v2,hv2⟩:∃ v',upd v1 1 (.slice (some ⟨g1,0,none⟩) (0+1) cap1)=v':=⟨_,rfl⟩
 rw [hv2] at Q1
 clear hv2
 go_wp2
 rw [rounds_succ]
 go_wp2
 obtain ⟨W2,hW2⟩:∃ W,X1.alloc (.cells #[.int .i64 n2,.int .i64 z2,.string ⟨t2.toArray⟩] 27)=W:=⟨_,rfl⟩
 rw [hW2]
 have R3_2:Th3 (.int .i64 b3) (.int .i64 b4) (.int .i64 b5) w4 w4.heap.size (upd (upd (fun _:Nat=>0) 0 (0+1)) 1 (0+1)) (upd (upd (fun _:Nat=>([]:List Value)) 0 ([]++[.int .i64 n0,.int .i64 z0,.string ⟨t0.toArray⟩])) 1 ([]++[.int .i64 n1,.int .i64 z1,.string ⟨t1.toArray⟩])) v2 W2:=by rw [←hW2];exact Q1.keep ((Below.refl _ X1).alloc (Nat.le_refl _) _)
 have B3_2:W2.heap[X1.heap.size]?=some (.cells #[.int .i64 n2,.int .i64 z2,.string ⟨t2.toArray⟩] 27 (0,0)):=by rw [←hW2];exact heap_alloc_new _ _
 clear hW2
 have s0:=Go.Joins.cell_of_block B3_2 0
 have s1:=Go.Joins.cell_of_block B3_2 1
 have s2:=Go.Joins.cell_of_block B3_2 2
 have cb:W2.cell? ⟨w4.heap.size,2,none⟩=some (v2 2):=Go.Joins.cell_of_block R3_2.box 2
 have c5:(W2.alloc (.cells #[.int .i64 n2,.int .i64 z2,.string ⟨t2.toArray⟩] 27)).cell? ⟨w4.heap.size,2,none⟩=some (v2 2):=(World.cell?_alloc_lt _ _ _ (World.block_lt_of_cell? W2 _ cb)).trans cb
 have hA:(W2.drew.alloc (.cells #[.int .i64 n2,.int .i64 z2,.string ⟨t2.toArray⟩] 27)).heap[W2.heap.size]?=some (.cells #[.int .i64 n2,.int .i64 z2,.string ⟨t2.toArray⟩] 27 (0,0)):=heap_alloc_new W2.drew _
 have R4:=R3_2.keep (((Below.refl _ W2).drew).alloc (Nat.le_refl _) (.cells #[.int .i64 n2,.int .i64 z2,.string ⟨t2.toArray⟩] 27))
 apply merge3 (fun g c W'=>Th3 (.int .i64 b3) (.int .i64 b4) (.int .i64 b5) w4 w4.heap.size (upd (upd (upd (fun _:Nat=>0) 0 (0+1)) 1 (0+1)) 2 (0+1)) (upd (upd (upd (fun _:Nat=>([]:List Value)) 0 ([]++[.int .i64 n0,.int .i64 z0,.string ⟨t0.toArray⟩])) 1 ([]++[.int .i64 n1,.int .i64 z1,.string ⟨t1.toArray⟩])) 2 ([]++[.int .i64 n2,.int .i64 z2,.string ⟨t2.toArray⟩])) (upd v2 2 (.slice (some ⟨g,0,none⟩) (0+1) c)) W')
 ·intro key
  go_region_law (refine step_append_lies _ rfl (.tmp 52) (.tmp 54) 30 rfl (w4.heap.size+1) 27 i0 (.agg #[.int .i64 0,.int .i64 0,.string ⟨#[]⟩]) 3 32 Tryz.underlying30 hi0 hz0 hsz0 hby0 rfl (by decide) (v2 2) 0 [] rfl (R4.own 2 (by decide)) ⟨W2.heap.size,0,none⟩ 1 1 [.int .i64 n2,.int .i64 z2,.string ⟨t2.toArray⟩] rfl rfl (World.news_of_block hA) oneC3 (by decide) (by decide) (by decide) R4.si _ rfl (fun g4 cap4 w5 own4 gro4 lie4 lt4=>?_);have h4:=R4.far (i:=2) (by decide) gro4;have c4:=Go.Joins.cell_of_block h4 2;have f4:=Go.Joins.unfrozen_of_block h4 2)
  all_goals
   have R5:Th3 (.int .i64 b3) (.int .i64 b4) (.int .i64 b5) w4 w4.heap.size (upd (upd (upd (fun _:Nat=>0) 0 (0+1)) 1 (0+1)) 2 (0+1)) (upd (upd (upd (fun _:Nat=>([]:List Value)) 0 ([]++[.int .i64 n0,.int .i64 z0,.string ⟨t0.toArray⟩])) 1 ([]++[.int .i64 n1,.int .i64 z1,.string ⟨t1.toArray⟩])) 2 ([]++[.int .i64 n2,.int .i64 z2,.string ⟨t2.toArray⟩])) (upd v2 2 (.slice (some ⟨g4,0,none⟩) (0+1) cap4)) (w5.setCell ⟨w4.heap.size,2,none⟩ (.slice (some ⟨g4,0,none⟩) (0+1) cap4)):=R4.push (i:=2) (by decide) own4 gro4 lie4
   obtain ⟨W5,hW5⟩:∃ W5,w5.setCell ⟨w4.heap.size,2,none⟩ (.slice (some ⟨g4,0,none⟩) (0+1) cap4)=W5:=⟨_,rfl⟩
   rw [hW5] at R5
   try rw [hW5]
   exact key.out g4 cap4 W5 R5
 clear s0 s1 s2 cb c5 hA R4
 intro g2 cap2 X2 Q2
 obtain ⟨v3,hv3⟩:∃ v',upd v2 2 (.slice (some ⟨g2,0,none⟩) (0+1) cap2)=v':=⟨_,rfl⟩
 rw [hv3] at Q2
 clear hv3
 go_wp2
 rw [rounds_succ]
 go_wp2
 have hbe:=hB.trans (Q2.be.mono (by omega))
 have o0:X2.ownsRow (w4.heap.size+1) 27 3 (v3 0) 1 [.int .i64 n0,.int .i64 z0,.string ⟨t0.toArray⟩]:=Q2.own 0 (by decide)
 have o1:X2.ownsRow (w4.heap.size+1) 27 3 (v3 1) 1 [.int .i64 n1,.int .i64 z1,.string ⟨t1.toArray⟩]:=Q2.own 1 (by decide)
 have o2:X2.ownsRow (w4.heap.size+1) 27 3 (v3 2) 1 [.int .i64 n2,.int .i64 z2,.string ⟨t2.toArray⟩]:=Q2.own 2 (by decide)
 have box:=Q2.box
 have hsX:=Q2.si
 have rec1:=(Q2.be.block (w.heap.size+1) (by omega)).trans hp1
 have res1:=(Q2.be.block (w.heap.size+1+1) (by omega)).trans hp2
 clear Q2 Q1 Q0 R2 R3_0 R3_1 R3_2 B3_0 B3_1 B3_2 ix0 ix1 ix2 hp1 hp2 hB i0 hi0 hz0 hsz0 hby0
 obtain ⟨a0,d0,e0,ha0,hb0⟩:=o0.form (by decide)
 obtain ⟨a1,d1,e1,ha1,hb1⟩:=o1.form (by decide)
 obtain ⟨a2,d2,e2,ha2,hb2⟩:=o2.form (by decide)
 rw [e0] at o0
 rw [e1] at o1
 rw [e2] at o2
 rw [e0,e1,e2] at box
 clear e0 e1 e2
 have A0:Aside (X2.ownsRow (w4.heap.size+1) 27 3 (.slice (some ⟨a0,0,none⟩) 1 d0) 1 [.int .i64 n0,.int .i64 z0,.string ⟨t0.toArray⟩]):=o0
 have A1:Aside (X2.ownsRow (w4.heap.size+1) 27 3 (.slice (some ⟨a1,0,none⟩) 1 d1) 1 [.int .i64 n1,.int .i64 z1,.string ⟨t1.toArray⟩]):=o1
 have A2:Aside (X2.ownsRow (w4.heap.size+1) 27 3 (.slice (some ⟨a2,0,none⟩) 1 d2) 1 [.int .i64 n2,.int .i64 z2,.string ⟨t2.toArray⟩]):=o2
 clear o0 o1 o2
 have box5:=(heap_alloc_old X2 (.cells #[.int .i64 r.p,.int .i64 r.no,.int .i64 r.kd,.int .i64 r.dy,.int .i64 r.kn,.int .i64 r.op,.int .i64 r.on,.string ⟨r.tx.toArray⟩] 25) (r:=w4.heap.size) (by omega)).trans box
 have hA:(X2.drew.alloc (.cells #[.int .i64 r.p,.int .i64 r.no,.int .i64 r.kd,.int .i64 r.dy,.int .i64 r.kn,.int .i64 r.op,.int .i64 r.on,.string ⟨r.tx.toArray⟩] 25)).heap[X2.heap.size]?=some (.cells (encR r).toArray 25 (0,0)):=heap_alloc_new X2.drew _
 have hbs:w.heap.size+1+1+1≤(X2.drew.alloc (.cells #[.int .i64 r.p,.int .i64 r.no,.int .i64 r.kd,.int .i64 r.dy,.int .i64 r.kn,.int .i64 r.op,.int .i64 r.on,.string ⟨r.tx.toArray⟩] 25)).heap.size:=by rw [World.size_alloc];show _≤X2.heap.size+1;omega
 have ca0:=Go.Joins.cell_of_block box 0
 have ca1:=Go.Joins.cell_of_block box 1
 have ca2:=Go.Joins.cell_of_block box 2
 have ca3:=Go.Joins.cell_of_block box 3
 have ca4:=Go.Joins.cell_of_block box 4
 have ca5:=Go.Joins.cell_of_block box 5
 have cc0:=Go.Joins.cell_of_block box5 0
 have cc1:=Go.Joins.cell_of_block box5 1
 have cc2:=Go.Joins.cell_of_block box5 2
 have cc3:=Go.Joins.cell_of_block box5 3
 have cc4:=Go.Joins.cell_of_block box5 4
 have cc5:=Go.Joins.cell_of_block box5 5
 have cd0:=Go.Joins.cell_of_block rec1 0
 have cd1:=Go.Joins.cell_of_block rec1 1
 have cd2:=Go.Joins.cell_of_block rec1 2
 have cd3:=Go.Joins.cell_of_block rec1 3
 have cd4:=Go.Joins.cell_of_block rec1 4
 have cd5:=Go.Joins.cell_of_block rec1 5
 have cd6:=Go.Joins.cell_of_block rec1 6
 have cd7:=Go.Joins.cell_of_block rec1 7
 obtain ⟨i1,hi1,hz1,hsz1,hby1⟩:=inf25
 apply merge3 (fun g c W'=>W'.heap[w.heap.size+1+1]?=some (.cells #[.slice (some ⟨a0,0,none⟩) 1 d0,.slice (some ⟨a1,0,none⟩) 1 d1,.slice (some ⟨a2,0,none⟩) 1 d2,.int .i64 b3,.int .i64 b4,.int .i64 b5] 43 (0,0))∧W'.ownsRow (w4.heap.size+1) 27 3 (.slice (some ⟨a0,0,none⟩) 1 d0) 1 [.int .i64 n0,.int .i64 z0,.string ⟨t0.toArray⟩]∧W'.ownsRow (w4.heap.size+1) 27 3 (.slice (some ⟨a1,0,none⟩) 1 d1) 1 [.int .i64 n1,.int .i64 z1,.string ⟨t1.toArray⟩]∧W'.ownsRow (w4.heap.size+1) 27 3 (.slice (some ⟨a2,0,none⟩) 1 d2) 1 [.int .i64 n2,.int .i64 z2,.string ⟨t2.toArray⟩] ∧
  W'.ownsRow (w.heap.size+1+1+1) 25 8 (.slice (some ⟨g,0,none⟩) 1 c) 1 (encR r)∧Below w.heap.size w W')
 ·intro key
  go_region_law (refine step_append_lies _ rfl (.tmp 60) (.tmp 62) 44 rfl (w.heap.size+1+1+1) 25 i1 _ 8 72 Tryz.underlying44 hi1 hz1 hsz1 hby1 rfl (by decide) (.slice none 0 0) 0 [] rfl (World.ownsRow_nil _ _ _ _) ⟨X2.heap.size,0,none⟩ 1 1 (encR r) rfl rfl (World.news_of_block hA) oneE (by decide) (by decide) (by decide) hbs _ rfl (fun g4 cap4 w9 own4 gro4 lie4 lt4=>?_);have h9:=(far9 gro4 (k:=w4.heap.size) (by omega)).trans box;have h8:=(far9 gro4 (k:=w.heap.size+1+1) (by omega)).trans res1;have ce0:=Go.Joins.cell_of_block h9 0;have ce1:=Go.Joins.cell_of_block h9 1;have ce2:=Go.Joins.cell_of_block h9 2;have ce3:=Go.Joins.cell_of_block h9 3;have ce4:=Go.Joins.cell_of_block h9 4;have ce5:=Go.Joins.cell_of_block h9 5;have cf0:=Go.Joins.cell_of_block h8 0;have cf1:=Go.Joins.cell_of_block h8 1;have cf2:=Go.Joins.cell_of_block h8 2;have cf3:=Go.Joins.cell_of_block h8 3;have cf4:=Go.Joins.cell_of_block h8 4;have cf5:=Go.Joins.cell_of_block h8 5;have cg0:=Go.Joins.unfrozen_of_block h8 0;have cg1:=Go.Joins.unfrozen_of_block h8 1;have cg2:=Go.Joins.unfrozen_of_block h8 2;have cg3:=Go.Joins.unfrozen_of_block h8 3;have cg4:=Go.Joins.unfrozen_of_block h8 4;have cg5:=Go.Joins.unfrozen_of_block h8 5)
  all_goals
   have R5:=set6 h8 (.slice (some ⟨a0,0,none⟩) 1 d0) (.slice (some ⟨a1,0,none⟩) 1 d1) (.slice (some ⟨a2,0,none⟩) 1 d2) (.int .i64 b3) (.int .i64 b4) (.int .i64 b5)
   have hb9:=bel9 gro4
   exact key.out g4 cap4 _ ⟨R5,own6 (own_below A0.out hb9) (by omega) _ _ _ _ _ _,own6 (own_below A1.out hb9) (by omega) _ _ _ _ _ _,own6 (own_below A2.out hb9) (by omega) _ _ _ _ _ _,own6 own4 (by omega) _ _ _ _ _ _,bel6 (hbe.trans (hb9.mono hbe.size)) (by omega) _ _ _ _ _ _⟩
 rintro g c W' ⟨hres,p0,p1,p2,p3,hbW⟩
 go_wp2
 refine ⟨rfl,_,results3 (p:=6) (u1:=7) (u2:=8) (ty:=43) Tryz.results21 _ _ (w.heap.size+1+1) 43 _ (0,0) _ rfl hres Tryz.underlying43 rfl (by kernel_rfl),?_⟩
 refine ⟨_,fun b=>U b∨(w.heap.size≤b∧b < W'.heap.size),[],rfl,hbW,fun _ h=>.inl h,fun b h=>?_,List.nodup_nil,by simp,?_⟩
 ·rcases h with h | h
  ·exact ⟨Nat.lt_of_lt_of_le (hU b h) hbW.size,.inl h⟩
  ·exact ⟨h.2,.inr h.1⟩
 ·refine ⟨_,rfl,_,_,[],[],rfl,rfl,?_,_,_,[],[],rfl,rfl,⟨rfl,?_⟩,_,_,[],[],rfl,rfl,⟨rfl,rfl,rfl⟩,rfl,rfl⟩
  ·show RvR _ _ (.agg ([.sl 3 [strR n0 z0 t0],.sl 3 [strR n1 z1 t1],.sl 3 [strR n2 z2 t2],il b3,il b4,il b5].map RC.d)) _ []
   refine ⟨_,rfl,RcF_of ?_⟩
   simp only [FR]
   exact ⟨_,_,rfl,DR_ownS (rows:=[strR n0 z0 t0]) p0 rfl (by decide) litS3 fun k hk=>.inr ⟨by have:=(own_lt p0 k hk).1;omega,(own_lt p0 k hk).2⟩,_,_,rfl,DR_ownS (rows:=[strR n1 z1 t1]) p1 rfl (by decide) litS3 fun k hk=>.inr ⟨by have:=(own_lt p1 k hk).1;omega,(own_lt p1 k hk).2⟩,
    _,_,rfl,DR_ownS (rows:=[strR n2 z2 t2]) p2 rfl (by decide) litS3 fun k hk=>.inr ⟨by have:=(own_lt p2 k hk).1;omega,(own_lt p2 k hk).2⟩,_,_,rfl,⟨rfl,rfl⟩,_,_,rfl,⟨rfl,rfl⟩,_,_,rfl,⟨rfl,rfl⟩,rfl⟩
  ·exact DR_ownS (rows:=[recR r]) p3 rfl (by decide) litS8 fun k hk=>.inr ⟨by have:=(own_lt p3 k hk).1;omega,(own_lt p3 k hk).2⟩
end Go.VE
namespace Go.VE
open Go.RowKit Go.Proofs Go.Shelf Go.Lib
set_option maxRecDepth 100000
set_option maxHeartbeats 1500000
theorem isI_some {x:D} {z:Int} (h:isI x z=true):x=il z:=by
 unfold isI at h
 split at h
 ·rename_i k hk
  rw [decide_eq_true_eq] at h
  rw [dInt_some hk,h]
 ·cases h
theorem isNil1_some {o:Out} (h:isNil1 o=true):o=some (1,[.d (.lit (.slice none 0 0))]):=by
 unfold isNil1 at h
 split at h
 ·rw [dNil_some h]
 ·cases h
theorem isSame_some {o:Out} {p q r:Int} (h:isSame o p q r=true):o=some (0,[.d (.lit (.slice none 0 0)),.d (.lit (.slice none 0 0)),.d (.lit (.slice none 0 0)),.d (il p),.d (il q),.d (il r)]):=by
 unfold isSame at h
 split at h
 ·simp only [Bool.and_eq_true] at h
  obtain ⟨⟨⟨⟨⟨h1,h2⟩,h3⟩,h4⟩,h5⟩,h6⟩:=h
  rw [dNil_some h1,dNil_some h2,dNil_some h3,isI_some h4,isI_some h5,isI_some h6]
 ·cases h
theorem ok21 {Fn:Nat→List D→Out} (hF:FnOK Tryz.prog CF Fn) {xs:List D} {vs:List VD} {j:Nat} {ys:List Yr} {rs:RS} {sh:List Sh} (h1:CF.ash 21=some sh) (h2:vdsOf sh xs=some vs) (h3:tWrite Fn xs=some (j,ys)) (h4:(CF.rsk 21)[j]?=some rs):SC Tryz.prog 21 vs (pack (rvsAt ys rs 0)):=by
 unfold tWrite at h3
 split at h3
 ·rename_i a0 a1 a2 a3 a4 a5 l r0 r1 r2 r3 r4 r5 r6 r7
  split at h3
  ·rename_i hn
   simp only [Bool.and_eq_true] at hn
   obtain ⟨⟨⟨m0,m1⟩,m2⟩,m3⟩:=hn
   split at h3
   ·cases h3
   rename_i b3 e3
   split at h3
   ·cases h3
   rename_i b4 e4
   split at h3
   ·cases h3
   rename_i b5 e5
   split at h3
   ·cases h3
   rename_i r hr
   split at h3
   ·rename_i hc
    simp only [Bool.and_eq_true] at hc
    obtain ⟨⟨⟨h31,h81⟩,h82⟩,h83⟩:=hc
    split at h3
    ·cases h3
    rename_i ys' h71
    split at h3
    ·cases h3
    rename_i n0 z0 t0 n1 z1 t1 n2 z2 t2 hs
    cases h3
    have hr':=recD_some hr
    simp only [recR,List.cons.injEq,and_true] at hr'
    obtain ⟨rfl,rfl,rfl,rfl,rfl,rfl,rfl,rfl⟩:=hr'
    rw [dNil_some m0,dNil_some m1,dNil_some m2,dNil_some m3,dInt_some e3,dInt_some e4,dInt_some e5] at h2
    cases h1
    cases h2
    cases h4
    refine ⟨enters_of Tryz.func21 (by kernel_rfl) rfl,fun w U vs hU hX hv=>?_⟩
    have hvs:vs=#[.agg #[.slice none 0 0,.slice none 0 0,.slice none 0 0,.int .i64 b3,.int .i64 b4,.int .i64 b5],.slice none 0 0,.agg #[.int .i64 r.p,.int .i64 r.no,.int .i64 r.kd,.int .i64 r.dy,.int .i64 r.kn,.int .i64 r.op,.int .i64 r.on,.string ⟨r.tx.toArray⟩]]:=by
     simp only [VDF,VDR] at hv
     obtain ⟨_,_,g1,⟨cs,rfl,hc⟩,_,_,rfl,hl,_,_,rfl,⟨ds,rfl,hd⟩,rfl⟩:=hv
     obtain ⟨_,_,c1,q1,_,_,rfl,q2,_,_,rfl,q3,_,_,rfl,q4,_,_,rfl,q5,_,_,rfl,q6,rfl⟩:=hc
     rw [q1.1,q2.1,q3.1,il_v q4,il_v q5,il_v q6] at c1
     rw [arr_of c1,hl.1,arr_of (recR_v hd)] at g1
     exact arr_of g1
    rw [hvs]
    exact write0 hF h31 h81 (isSame_some h82) (isNil1_some h83) h71 hs hU hX
   ·cases h3
  ·cases h3
 ·cases h3
end Go.VE
namespace Go.VE
open Go.RowKit Go.Proofs Go.Shelf Go.Lib
set_option maxRecDepth 100000
set_option maxHeartbeats 1500000
theorem rec_cells {w:World} {U:Nat→Prop} {b o:Nat} {rows:List (List D)} (h:RR w U b o 8 rows) {k:Nat} {x:Rec} (hk:rows[k]?=some (recR x)):∀ j u,(encR x)[j]?=some u→w.cell? ⟨b,o+k*8+j,none⟩=some u:=fun j u hj=>by
 have h1:=h.at_ hk
 have hj8:j < 8:=(List.getElem?_eq_some_iff.1 hj).1
 have hx:(recR x)[j]?=some ((recR x)[j]'(by show j < 8;exact hj8)):=List.getElem?_eq_getElem _
 obtain ⟨u',h2,h3⟩:=h1.2.at_ hx
 rw [enc_at hj8 hx h3] at h2
 have e:(encR x)[j]! = u:=by
  rw [getElem!_pos _ _ (by show j < 8;exact hj8)]
  exact (List.getElem?_eq_some_iff.1 hj).2
 rw [e] at h2
 exact h2
theorem ok88 {Fn:Nat→List D→Out} (hF:FnOK Tryz.prog CF Fn) {xs:List D} {vs:List VD} {j:Nat} {ys:List Yr} {rs:RS} {sh:List Sh} (h1:CF.ash 88=some sh) (h2:vdsOf sh xs=some vs) (h3:tBind Fn xs=some (j,ys)) (h4:(CF.rsk 88)[j]?=some rs):SC Tryz.prog 88 vs (pack (rvsAt ys rs 0)):=by
 unfold tBind at h3
 split at h3
 ·rename_i x
  split at h3
  ·cases h3
  rename_i rows hrows
  split at h3
  ·cases h3
  rename_i a b c hq
  split at h3
  ·rename_i x0 x1 x2 y0 y1 y2 h27
   split at h3
   ·rename_i hsl
    split at h3
    ·cases h3
    rename_i y0 e0
    split at h3
    ·cases h3
    rename_i y1 e1
    split at h3
    ·cases h3
    rename_i y2 e2
    cases h3
    cases h1
    cases h2
    cases h4
    rw [dInt_some e0,dInt_some e1,dInt_some e2] at h27
    simp only [Bool.and_eq_true] at hsl
    refine ⟨enters_of Tryz.func88 (by kernel_rfl) rfl,fun w U vs hU hX hv=>?_⟩
    obtain ⟨v,g1,g2⟩:=one_v hv
    rw [arr_of g1]
    have hb:=fun (p:Option Addr) (cap:Nat) (hl:rows.length≤1000) hp=>bind_c hF hq hl (p:=p) (cap:=cap) hU hX hp h27 hsl.1.1 hsl.1.2 hsl.2
    split at hrows
    ·rename_i hn
     cases hrows
     rw [dNil_some hn] at g2
     rw [g2.1]
     exact hb none 0 (by decide) fun k x hk=>by simp at hk
    ·split at hrows
     ·rename_i s rows'
      split at hrows
      ·rename_i hs
       cases hrows
       obtain ⟨rfl,hl⟩:=hs
       simp only [DR] at g2
       obtain ⟨ad,cap,rfl,_,_,g3⟩:=g2
       refine hb (some ad) cap hl fun k x hk=>?_
       obtain ⟨bl,o,rfl,g4,g5⟩:=g3 (by have:=(List.getElem?_eq_some_iff.1 hk).1;omega)
       exact ⟨bl,o,rfl,hU bl g4,rec_cells g5 hk⟩
      ·cases hrows
     ·cases hrows
   ·cases h3
  ·cases h3
 ·cases h3
end Go.VE
namespace Go.VE
open Go.RowKit Go.Proofs Go.Shelf Go.Lib
set_option maxRecDepth 100000
set_option maxHeartbeats 600000
theorem ix212 {cs:List Value} (hl:cs.length=36) {i:Nat} (hi:i < 6) (W:World):(Instr.index 212 (.agg cs.toArray) (.int .i64 i)).run Tryz.prog W=.ok (.agg ((cs.drop (6*i)).take 6).toArray) W:=by
 have hu:Tryz.prog.underlying 212=some (.array 6 72):=by kernel_rfl
 have hs:sizeC Tryz.prog 72=some 6:=by kernel_rfl
 have hg:aggC Tryz.prog 72=some true:=by kernel_rfl
 have hp:=part_ok (P:=Tryz.prog) (w:=W) (t:=72) (s:=6) (off:=i*6) (us:=cs) hs (by rw [hg];rfl) (.inl hg) (by omega)
 have e:mkVal Tryz.prog 72 ((cs.drop (i*6)).take 6)=.agg ((cs.drop (6*i)).take 6).toArray:=by
  unfold mkVal
  rw [if_pos hg,Nat.mul_comm]
 rw [e] at hp
 have h1:(0:Int)≤(i:Int)∧(i:Int) < ((6:Nat):Int):=by omega
 simp only [Instr.index,asIntOf,Sem.run_bind,Sem.run_pure,Result.andThen_ok,run_underlying hu,Sem.run_ite]
 rw [if_pos h1]
 simp only [Sem.run_bind,r_sizeOf hs,Result.andThen_ok,Int.toNat_natCast]
 exact hp
theorem six_of {zs:List Int} (hl:zs.length=36) {i:Nat} (hi:i < 6):∃ v0 v1 v2 v3 v4 v5,((zs.map (Value.int .i64)).drop (6*i)).take 6=[.int .i64 v0,.int .i64 v1,.int .i64 v2,.int .i64 v3,.int .i64 v4,.int .i64 v5]:=by
 rw [←List.map_drop,← List.map_take]
 have h:((zs.drop (6*i)).take 6).length=6:=by rw [List.length_take,List.length_drop];omega
 match (zs.drop (6*i)).take 6,h with
 | [v0,v1,v2,v3,v4,v5],_=>exact ⟨v0,v1,v2,v3,v4,v5,rfl⟩
theorem ints_v {w:World} {U:Nat→Prop}:∀ {xs:List D} {vs:List Value},FR w U xs vs→(xs.all fun x=>(dInt x).isSome)=true→∃ zs:List Int,vs=zs.map (Value.int .i64)
 | [],vs,h,_=>⟨[],by simpa [FR] using h⟩
 | x::xs,vs,h,ha=>by
  simp only [List.all_cons,Bool.and_eq_true] at ha
  obtain ⟨v,vs',rfl,h1,h2⟩:=h
  obtain ⟨zs,rfl⟩:=ints_v h2 ha.2
  obtain ⟨z,hz⟩:=Option.isSome_iff_exists.1 ha.1
  rw [dInt_some hz] at h1
  exact ⟨z::zs,by rw [il_v h1];rfl⟩
theorem FR_drop {w:World} {U:Nat→Prop}:∀ (k:Nat) {xs:List D} {vs:List Value},FR w U xs vs→FR w U (xs.drop k) (vs.drop k)
 | 0,xs,vs,h=>by simpa using h
 | k+1,[],vs,h=>by simp only [FR] at h;subst h;simp [FR]
 | k+1,x::xs,vs,h=>by
  obtain ⟨v,vs',rfl,_,h2⟩:=h
  simpa using FR_drop k h2
theorem FR_take {w:World} {U:Nat→Prop}:∀ (k:Nat) {xs:List D} {vs:List Value},FR w U xs vs→FR w U (xs.take k) (vs.take k)
 | 0,xs,vs,h=>by simp [FR]
 | k+1,[],vs,h=>by simp only [FR] at h;subst h;simp [FR]
 | k+1,x::xs,vs,h=>by
  obtain ⟨v,vs',rfl,h1,h2⟩:=h
  simp only [List.take_succ_cons,FR]
  exact ⟨v,_,rfl,h1,FR_take k h2⟩
theorem FR_lenT {w:World} {U:Nat→Prop}:∀ {xs:List D} {vs:List Value},FR w U xs vs→vs.length=xs.length
 | [],vs,h=>by simp only [FR] at h;subst h;rfl
 | x::xs,vs,h=>by
  obtain ⟨v,vs',rfl,_,h2⟩:=h
  simp [FR_lenT h2]
theorem RR_ones {w:World} {U:Nat→Prop} {b:Nat}:∀ {xs:List D} {vs:List Value} {o:Nat},FR w U xs vs→(∀ i v,vs[i]?=some v→w.cell? ⟨b,o+i,none⟩=some v)→RR w U b o 1 (xs.map fun x=>[x])
 | [],vs,o,h,_=>by simp [RR]
 | x::xs,vs,o,h,hc=>by
  obtain ⟨v,vs',rfl,h1,h2⟩:=h
  simp only [List.map_cons,RR,CR]
  refine ⟨rfl,⟨⟨v,by simpa using hc 0 v rfl,h1⟩,trivial⟩,RR_ones h2 fun i u hi=>?_⟩
  have:=hc (i+1) u (by simpa using hi)
  rwa [show o+(i+1)=o+1+i by omega] at this
theorem counts_c {Fn:Nat→List D→Out} (hF:FnOK Tryz.prog CF Fn) {xs:List D} (hx:xs.length=36) {res:Bool} (hr:tRows Fn 6 xs=some (0,[.d (bl res)])) {w:World} {U:Nat→Prop} (hU:∀ b,U b→b < w.heap.size) (hX:XX w U) {cs:List Value} (hc:FR w U xs cs) (hin:(xs.all fun x=>(dInt x).isSome)=true) :
  Calls Tryz.prog 144 #[.agg cs.toArray] w fun e w'=>e=.returned (.bool res)∧Below w.heap.size w w':=by
 have hl:cs.length=36:=(FR_lenT hc).trans hx
 obtain ⟨zs,hzs⟩:=ints_v hc hin
 have hlz:zs.length=36:=by rw [hzs,List.length_map] at hl;exact hl
 have H:∀ {W:World},Below w.heap.size w W→(∀ b,U b→b < W.heap.size)∧XX W U:=fun hb=>⟨fun b h=>Nat.lt_of_lt_of_le (hU b h) hb.size,hX.mono (fun b h=>hb.block b (hU b h)) fun _ h=>h⟩
 have k153:∀ (i:Nat) (b:Bool),i < 6→Fn 153 [.sl 1 (((xs.drop (6*i)).take 6).map fun x=>[x]),.fn 154 []]=some (0,[.d (bl b)])→∀ (v0 v1 v2 v3 v4 v5:Int),(cs.drop (6*i)).take 6=[.int .i64 v0,.int .i64 v1,.int .i64 v2,.int .i64 v3,.int .i64 v4,.int .i64 v5]→∀ W:World,Below w.heap.size w W→Calls Tryz.prog 153 #[.slice (some ⟨W.heap.size,0,none⟩) 6 6,.func (.func 154) #[] #[]] (W.alloc (.cells #[.int .i64 v0,.int .i64 v1,.int .i64 v2,.int .i64 v3,.int .i64 v4,.int .i64 v5] 72)) fun e w'=>e=.returned (.bool b)∧Below W.heap.size W w':=fun i b hi h153 v0 v1 v2 v3 v4 v5 hv W hb=>by
  have s153:=sc_of hF (f:=153) (sh:=[.one,.one]) (vs:=[.one (.sl 1 (((xs.drop (6*i)).take 6).map fun x=>[x])),.one (.fn 154 [])]) (rs:=[(false,[.d])]) rfl rfl h153 rfl
  have hb':Below w.heap.size w (W.alloc (.cells #[.int .i64 v0,.int .i64 v1,.int .i64 v2,.int .i64 v3,.int .i64 v4,.int .i64 v5] 72)):=hb.alloc hb.size _
  have hn:=heap_alloc_new W (.cells #[.int .i64 v0,.int .i64 v1,.int .i64 v2,.int .i64 v3,.int .i64 v4,.int .i64 v5] 72)
  have hf:=FR_take 6 (FR_drop (6*i) hc)
  rw [hv] at hf
  have hlen:((xs.drop (6*i)).take 6).length=6:=by rw [List.length_take,List.length_drop];omega
  refine (s153.2 _ (fun x=>U x∨x=W.heap.size) _ ?_ ?_ ?_).mono ?_
  ·rintro x (hx | rfl)
   ·exact (H hb').1 x hx
   ·simp
  ·exact (H hb').2.mono (fun _ _=>rfl) fun _ h=>.inl h
  ·refine ⟨_,_,rfl,?_,_,_,rfl,⟨#[],rfl,rfl⟩,rfl⟩
   show DR _ _ (.sl 1 _) _
   simp only [DR,List.length_map,hlen]
   refine ⟨_,6,rfl,Nat.le_refl _,by decide,fun _=>⟨_,0,rfl,.inr rfl,RR_ones (FR.mono (w:=w) (U:=U) (fun b h=>hb'.block b (hU b h)) (fun _ h=>.inl h) _ _ hf) fun j v hj=>?_⟩⟩
   rw [Go.Joins.cell_of_block hn,Nat.zero_add,← hj,List.getElem?_toArray]
  ·rintro e w' ⟨v,U',bs,rfl,hb4,_,_,_,_,hr⟩
   obtain ⟨_,h2,_⟩:=hr
   exact ⟨by rw [h2],((Below.refl _ W).alloc (Nat.le_refl _) _).trans (hb4.mono (by simp))⟩
 have hix:=fun (i:Nat) (hi:i < 6) W=>ix212 (W:=W) hl hi
 have hinfo:(Tryz.prog.info? 212).map (·.size)=some cs.toArray.size:=by
  rw [List.size_toArray,hl]
  kernel_rfl
 have hu:Tryz.prog.underlying 212=some (.array 6 72):=by kernel_rfl
 obtain ⟨A,hA⟩:∃ A,cs.toArray=A:=⟨_,rfl⟩
 rw [hA] at hix hinfo ⊢
 clear hA
 go_enter Tryz.func144,Tryz.ntmps144
 go_wp2_with (refine wpList_load_row rfl 212 (.tmp 1) rfl w.heap.size rfl 212 A (0,0) _ (heap_alloc_new w _) hu rfl hinfo ?_)
 have hx6:∀ i,i < 6→(cs.drop (6*i)).length=36 - 6*i:=fun i _=>by rw [List.length_drop,hl]
 go_loopg [6] 6 (fun g z6 wr=>∃ i:Nat,z6=.int .i64 i∧i+g=6∧Below w.heap.size w wr∧tRows Fn (6 - i) (xs.drop (6*i))=some (0,[.d (bl res)]))
 case atStart=>exact ⟨0,rfl,rfl,(Below.refl _ w).alloc (Nat.le_refl _) _,by simpa using hr⟩
 case round =>
  obtain ⟨i,rfl,hg,hb,hk⟩:=hrel
  by_cases hi:i < 6
  ·obtain ⟨g,rfl⟩:∃ g,gk=g+1:=⟨gk - 1,by omega⟩
   obtain ⟨v0,v1,v2,v3,v4,v5,hv⟩:=six_of hlz hi
   rw [←hzs] at hv
   have hi1:=fun W=>hix i hi W
   rw [hv] at hi1
   rw [show 6 - i=(6 - (i+1))+1 by omega,tRows] at hk
   have K:=fun b h=>k153 i b hi h v0 v1 v2 v3 v4 v5 hv wr hb
   clear hix k153 hx6 hr
   have A0:Aside (Below w.heap.size w wr):=hb
   clear hb
   split at hk
   ·rename_i d hd
    split at hk
    ·rename_i hdb
     cases hk
     rw [dBool_some hdb] at hd
     have K':=K true hd
     clear K
     go_wp2_with (go_at_call 153;refine K'.mono ?_;rintro e w2 ⟨rfl,b2⟩)
     go_ret
     exact ⟨rfl,A0.out.trans (b2.mono A0.out.size)⟩
    ·rename_i hdb
     rw [dBool_some hdb] at hd
     have K':=K false hd
     clear K
     rw [List.drop_drop] at hk
     have A1:Aside (tRows Fn (6 - (i+1)) (xs.drop (6*i+6))=some (0,[.d (bl res)])):=hk
     clear hk
     go_wp2_with (go_at_call 153;refine K'.mono ?_;rintro e w2 ⟨rfl,b2⟩)
     go_roundg g
     case measure=>omega
     case rel=>exact ⟨i+1,by simp,by omega,A0.out.trans (b2.mono A0.out.size),by rw [Nat.mul_add,Nat.mul_one];exact A1.out⟩
    ·cases hk
   ·cases hk
  ·obtain rfl:i=6:=by omega
   obtain rfl:gk=0:=by omega
   simp only [Nat.sub_self,tRows,Option.some.injEq,Prod.mk.injEq,true_and,List.cons.injEq,and_true] at hk
   have hb1:res=true:=by
    injection hk with hk
    injection hk with hk
    injection hk with hk
    exact hk.symm
   go_wp2
   go_ret
   refine ⟨?_,hb⟩
   first | rfl | (rw [hb1];rfl)
theorem ok144 {Fn:Nat→List D→Out} (hF:FnOK Tryz.prog CF Fn) {xs:List D} {vs:List VD} {j:Nat} {ys:List Yr} {rs:RS} {sh:List Sh} (h1:CF.ash 144=some sh) (h2:vdsOf sh xs=some vs) (h3:tCounts Fn xs=some (j,ys)) (h4:(CF.rsk 144)[j]?=some rs):SC Tryz.prog 144 vs (pack (rvsAt ys rs 0)):=by
 unfold tCounts at h3
 split at h3
 ·rename_i hl
  obtain ⟨hl,hin⟩:=hl
  obtain ⟨res,e⟩:∃ res,tRows Fn 6 xs=some (0,[.d (bl res)]):=by
   have:∀ k xs o,tRows Fn k xs=some o→∃ res,tRows Fn k xs=some (0,[.d (bl res)]):=by
    intro k
    induction k with
    | zero=>intro xs o _;exact ⟨true,rfl⟩
    | succ k ih =>
     intro xs o h
     rw [tRows] at h ⊢
     split at h
     ·split at h
      ·exact ⟨false,by simp_all⟩
      ·obtain ⟨res,hr⟩:=ih _ _ h
       exact ⟨res,by simp_all⟩
      ·cases h
     ·cases h
   exact this 6 xs _ h3
  rw [e] at h3
  cases h3
  cases h1
  have hv:vs=[.agg xs]:=by
   simp only [vdsOf,hl,List.take_of_length_le (Nat.le_of_eq hl),List.drop_of_length_le (Nat.le_of_eq hl),if_true,Option.map_some,Option.some.injEq] at h2
   exact h2.symm
  subst hv
  cases h4
  refine ⟨enters_of Tryz.func144 (by kernel_rfl) rfl,fun w U vs hU hX hv=>?_⟩
  obtain ⟨cs,g1,g2⟩:=agg_v hv
  rw [arr_of g1]
  refine (counts_c hF hl e hU hX g2 hin).mono ?_
  rintro x w' ⟨rfl,hb⟩
  exact post_lit hU hb ⟨rfl,rfl,rfl⟩
 ·cases h3
end Go.VE
namespace Go.VE
open Go.RowKit Go.Proofs
set_option maxRecDepth 100000
theorem mixP:Tryz.prog.follows .mixedOrders=true:=by kernel_rfl
theorem spOK:SpOK Tryz.prog (cf3 tb Tryz.prog):=by
 intro f p h
 have e:(cf3 tb Tryz.prog).sp f=none:=rfl
 rw [e] at h
 cases h
theorem BB_ok (Fn:Nat→List D→Out) (hF:FnOK Tryz.prog (cf3 tb Tryz.prog) Fn):FnOK Tryz.prog (cf3 tb Tryz.prog) (BB Fn):=by
 intro f sh xs vs j ys rs h1 h2 h3 h4
 unfold BB at h3
 cases e1:Nat.beq f 103 with
 | true=>rw [e1] at h3;cases Nat.eq_of_beq_eq_true e1;exact ok103 h1 h2 h3 h4
 | false =>
 rw [e1] at h3
 simp only [cond_false] at h3
 cases e2:Nat.beq f 86 with
 | true=>rw [e2] at h3;cases Nat.eq_of_beq_eq_true e2;exact ok86 hF h1 h2 h3 h4
 | false =>
 rw [e2] at h3
 simp only [cond_false] at h3
 cases e3:Nat.beq f 121 with
 | true=>rw [e3] at h3;cases Nat.eq_of_beq_eq_true e3;exact ok121 hF h1 h2 h3 h4
 | false =>
 rw [e3] at h3
 simp only [cond_false] at h3
 cases e4:Nat.beq f 130 with
 | true=>rw [e4] at h3;cases Nat.eq_of_beq_eq_true e4;exact ok130 h1 h2 h3 h4
 | false =>
 rw [e4] at h3
 simp only [cond_false] at h3
 cases e5:Nat.beq f 129 with
 | true=>rw [e5] at h3;cases Nat.eq_of_beq_eq_true e5;exact ok129 h1 h2 h3 h4
 | false =>
 rw [e5] at h3
 simp only [cond_false] at h3
 cases e6:Nat.beq f 144 with
 | true=>rw [e6] at h3;cases Nat.eq_of_beq_eq_true e6;exact ok144 hF h1 h2 h3 h4
 | false =>
 rw [e6] at h3
 simp only [cond_false] at h3
 cases e7:Nat.beq f 13 with
 | true=>rw [e7] at h3;cases Nat.eq_of_beq_eq_true e7;exact ok13 hF h1 h2 h3 h4
 | false =>
 rw [e7] at h3
 simp only [cond_false] at h3
 cases e8:Nat.beq f 88 with
 | true=>rw [e8] at h3;cases Nat.eq_of_beq_eq_true e8;exact ok88 hF h1 h2 h3 h4
 | false =>
 rw [e8] at h3
 simp only [cond_false] at h3
 cases e9:Nat.beq f 21 with
 | true=>rw [e9] at h3;cases Nat.eq_of_beq_eq_true e9;exact ok21 hF h1 h2 h3 h4
 | false=>rw [e9] at h3;cases h3
theorem FN_ok (n:Nat):FnOK Tryz.prog (cf3 tb Tryz.prog) (FN n):=FnT_ok mixP spOK BB_ok BB_high n
theorem FN_okM (n:Nat):FmOK Tryz.prog (cf3 tb Tryz.prog) (FN n):=FnT_okM mixP spOK BB_ok BB_high n
end Go.VE
