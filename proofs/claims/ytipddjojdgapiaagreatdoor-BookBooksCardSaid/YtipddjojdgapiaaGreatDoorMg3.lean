/- Book: Write, where nothing is written yet, walked. -/
import Derived.Test.YtipddjojdgapiaaGreatDoorMg2
namespace Go.VE
open Go.RowKit Go.Proofs Go.Shelf Go.Lib
set_option maxRecDepth 100000
set_option maxHeartbeats 1500000
theorem Th3.start' (w0:World) (z0 z1 z2:Value):Th3 z0 z1 z2 w0 w0.heap.size (fun _=>0) (fun _=>[]) (fun _=>.slice none 0 0) (w0.alloc (.cells #[.slice none 0 0,.slice none 0 0,.slice none 0 0,z0,z1,z2] 43)):=by
 refine ⟨heap_alloc_new _ _,fun i _=>World.ownsRow_nil _ _ _ _,fun i j _ _ _ k hk=>(by cases hk),fun _ _ _=>rfl,(Below.refl _ _).alloc (Nat.le_refl _) _,by simp⟩
theorem inf25:∃ i,Tryz.prog.info? 25=some i∧i.zero=some (.agg #[.int .i64 0,.int .i64 0,.int .i64 0,.int .i64 0,.int .i64 0,.int .i64 0,.int .i64 0,.string ⟨#[]⟩])∧i.size=8∧i.bytes=72:=by
 have h:((Tryz.prog.info? 25).map fun i=>(i.zero,i.size,i.bytes))=some (some (.agg #[.int .i64 0,.int .i64 0,.int .i64 0,.int .i64 0,.int .i64 0,.int .i64 0,.int .i64 0,.string ⟨#[]⟩]),8,72):=by kernel_rfl
 obtain ⟨i,h1,h2⟩:=Option.map_eq_some_iff.1 h
 simp only [Prod.mk.injEq] at h2
 exact ⟨i,h1,h2.1,h2.2.1,h2.2.2⟩
theorem oneE {r:Rec}:∀ u∈encR r,u.oneCell'=true:=fun u hu=>by
 simp only [encR,List.mem_cons,List.not_mem_nil,or_false] at hu
 rcases hu with rfl | rfl | rfl | rfl | rfl | rfl | rfl | rfl<;>rfl
theorem results3 {P:Program} {fn:Func} {p u1 u2:Tmp} {ty:TypeId} (h:fn.results=#[.cell p ty,.tmp u1,.tmp u2]) (tmps:Array Value) (w:World) (g:Nat) (t:TypeId) (cs:Array Value) (fr:Nat×Nat) (d:TypeDesc)
  (hp:tmps.getD p undef=.pointer (some ⟨g,0,none⟩)) (hg:w.heap[g]?=some (.cells cs t fr))
  (hu:P.underlying ty=some d) (hd:(match d with | .struct _ | .array _ _=>true | _=>false)=true) (hi:(P.info? ty).map (·.size)=some cs.size) :
  (results fn tmps).run P w=.ok (.tuple #[.agg cs,tmps.getD u1 undef,tmps.getD u2 undef]) w:=by
 have hp':tmps[p]?.getD undef=.pointer (some ⟨g,0,none⟩):=by simpa using hp
 simp [results,h,hp',asAddr,run_loadVar_row w g t ty cs fr d hg hu hd hi,Sem.run_bind]
theorem far9 {X w9:World} {o:Obj} (gro:(X.drew.alloc o).grownBy w9 none) {k:Nat} (hk:k < X.heap.size):w9.heap[k]?=X.heap[k]? :=
 (gro.block k (by rw [World.size_alloc];show k < X.heap.size+1;omega) (by intro h;cases h)).trans (heap_alloc_old X.drew o hk)
theorem bel9 {X w9:World} {o:Obj} (gro:(X.drew.alloc o).grownBy w9 none):Below X.heap.size X w9 :=
 (((Below.refl _ X).drew).alloc (Nat.le_refl _) o).grown gro (by rw [World.size_alloc];show X.heap.size≤X.heap.size+1;omega) (fun k hk=>by cases hk)
theorem own6 {w:World} {B e size n b:Nat} {v:Value} {xs:List Value} (h:w.ownsRow B e size v n xs) (hb:b < B) (u0 u1 u2 u3 u4 u5:Value):((((((w.setCell ⟨b,0,none⟩ u0).setCell ⟨b,1,none⟩ u1).setCell ⟨b,2,none⟩ u2).setCell ⟨b,3,none⟩ u3).setCell ⟨b,4,none⟩ u4).setCell ⟨b,5,none⟩ u5).ownsRow B e size v n xs :=
 ownsRow_setCell_below (a:=⟨b,5,none⟩) (ownsRow_setCell_below (a:=⟨b,4,none⟩) (ownsRow_setCell_below (a:=⟨b,3,none⟩) (ownsRow_setCell_below (a:=⟨b,2,none⟩) (ownsRow_setCell_below (a:=⟨b,1,none⟩) (ownsRow_setCell_below (a:=⟨b,0,none⟩) h hb _) hb _) hb _) hb _) hb _) hb _
theorem bel6 {a w:World} {B b:Nat} (h:Below B a w) (hb:B≤b) (u0 u1 u2 u3 u4 u5:Value):Below B a ((((((w.setCell ⟨b,0,none⟩ u0).setCell ⟨b,1,none⟩ u1).setCell ⟨b,2,none⟩ u2).setCell ⟨b,3,none⟩ u3).setCell ⟨b,4,none⟩ u4).setCell ⟨b,5,none⟩ u5) :=
 (((((h.setCell (p:=⟨b,0,none⟩) hb _).setCell (p:=⟨b,1,none⟩) hb _).setCell (p:=⟨b,2,none⟩) hb _).setCell (p:=⟨b,3,none⟩) hb _).setCell (p:=⟨b,4,none⟩) hb _).setCell (p:=⟨b,5,none⟩) hb _
theorem set6 {w:World} {b t:Nat} {x0 x1 x2 x3 x4 x5:Value} (h:w.heap[b]?=some (.cells #[x0,x1,x2,x3,x4,x5] t (0,0))) (u0 u1 u2 u3 u4 u5:Value):((((((w.setCell ⟨b,0,none⟩ u0).setCell ⟨b,1,none⟩ u1).setCell ⟨b,2,none⟩ u2).setCell ⟨b,3,none⟩ u3).setCell ⟨b,4,none⟩ u4).setCell ⟨b,5,none⟩ u5).heap[b]?=some (.cells #[u0,u1,u2,u3,u4,u5] t (0,0)) :=
 setC_same (i:=5) (v:=u5) (setC_same (i:=4) (v:=u4) (setC_same (i:=3) (v:=u3) (setC_same (i:=2) (v:=u2) (setC_same (i:=1) (v:=u1) (setC_same (i:=0) (v:=u0) h)))))
theorem DR_ownS {w:World} {U:Nat→Prop} {B e n s:Nat} {v:Value} {rows:List (List D)} (h:w.ownsRow B e s v n (rowsV rows)) (hn:rows.length=n) (h0:0 < n) (hl:∀ r∈rows,r.length=s∧∀ x∈r,isLit x=true) (hU:∀ k,v.ownBlock=some k→U k):DR w U (.sl s rows) v:=by
 rcases h.2 with ⟨_,h0'⟩ | ⟨g,cap,cur,rfl,h2,h3,h4,h5,h6,h7⟩
 ·omega
 ·simp only [DR]
  refine ⟨_,cap,by rw [hn],by rw [hn];exact h4,h5,fun _=>⟨g,0,rfl,hU g rfl,RR_lits hl fun j u hu=>?_⟩⟩
  rw [Nat.zero_add,h.cellAt j (by have:=(List.getElem?_eq_some_iff.1 hu).1;rw [h.1] at this;exact this)]
  exact hu
theorem litS3 {n z:Int} {t:List UInt8}:∀ r∈[strR n z t],r.length=3∧∀ x∈r,isLit x=true:=fun r hr=>by
 simp only [List.mem_cons,List.not_mem_nil,or_false] at hr
 subst hr
 refine ⟨rfl,fun x hx=>?_⟩
 simp only [strR,List.mem_cons,List.not_mem_nil,or_false] at hx
 rcases hx with rfl | rfl | rfl<;>rfl
theorem litS8 {r:Rec}:∀ y∈[recR r],y.length=8∧∀ x∈y,isLit x=true:=fun y hr=>by
 simp only [List.mem_cons,List.not_mem_nil,or_false] at hr
 subst hr
 refine ⟨rfl,fun x hx=>?_⟩
 simp only [recR,List.mem_cons,List.not_mem_nil,or_false] at hx
 rcases hx with rfl | rfl | rfl | rfl | rfl | rfl | rfl | rfl<;>rfl
theorem three (w:World) (a b c:Obj):(((w.alloc a).alloc b).alloc c).heap[w.heap.size]?=some a∧(((w.alloc a).alloc b).alloc c).heap[w.heap.size+1]?=some b∧(((w.alloc a).alloc b).alloc c).heap[w.heap.size+1+1]?=some c:=by
 simp only [World.alloc]
 refine ⟨?_,?_,?_⟩
 ·rw [Array.getElem?_push,if_neg (by simp only [Array.size_push];omega),Array.getElem?_push,if_neg (by simp only [Array.size_push];omega),Array.getElem?_push,if_pos (by simp only [Array.size_push])]
 ·rw [Array.getElem?_push,if_neg (by simp only [Array.size_push];omega),Array.getElem?_push,if_pos (by simp only [Array.size_push])]
 ·rw [Array.getElem?_push,if_pos (by simp only [Array.size_push])]
theorem isOK_some {o:Out} (h:isOK o=true):o=some (0,[.d (il 0)]):=by
 unfold isOK at h
 split at h
 ·split at h
  ·rename_i e z hz
   rw [decide_eq_true_eq] at h
   rw [dInt_some hz,h]
  ·cases h
 ·cases h
theorem isNew_some {o:Out} (h:isNew o=true):o=some (0,[.d (bl false),.d (il 0)]):=by
 unfold isNew at h
 split at h
 ·split at h
  ·rename_i hb
   split at h
   ·rename_i z hz
    rw [decide_eq_true_eq] at h
    rw [dInt_some hz,h,dBool_some hb]
   ·cases h
  ·cases h
 ·cases h
theorem write0 {Fn:Nat→List D→Out} (hF:FnOK Tryz.prog CF Fn) {r:Rec} {b3 b4 b5:Int} (h31:isOK (Fn 31 [.lit (.slice none 0 0),.lit (.slice none 0 0),.lit (.slice none 0 0),il b3,il b4,il b5,.lit (.slice none 0 0)])=true) (h81:isNew (Fn 81 (.lit (.slice none 0 0)::recR r))=true)
  (h82:Fn 82 [.lit (.slice none 0 0),.lit (.slice none 0 0),.lit (.slice none 0 0),il b3,il b4,il b5]=some (0,[.d (.lit (.slice none 0 0)),.d (.lit (.slice none 0 0)),.d (.lit (.slice none 0 0)),.d (il b3),.d (il b4),.d (il b5)])) (h83:Fn 83 [.lit (.slice none 0 0)]=some (1,[.d (.lit (.slice none 0 0))]))
  {ys:List Yr} {n0 z0 n1 z1 n2 z2:Int} {t0 t1 t2:List UInt8} (h71:outS (Fn 71 (recR r++[il 0]))=some ys) (hs:stripD ys=some (n0,z0,t0,n1,z1,t1,n2,z2,t2)) {w:World} {U:Nat→Prop} (hU:∀ b,U b→b < w.heap.size) (hX:XX w U) :
  Calls Tryz.prog 21 #[.agg #[.slice none 0 0,.slice none 0 0,.slice none 0 0,.int .i64 b3,.int .i64 b4,.int .i64 b5],.slice none 0 0,.agg #[.int .i64 r.p,.int .i64 r.no,.int .i64 r.kd,.int .i64 r.dy,.int .i64 r.kn,.int .i64 r.op,.int .i64 r.on,.string ⟨r.tx.toArray⟩]] w (Post w U (.tup [.agg [.d (.sl 3 [[il n0,il z0,sD t0]]),.d (.sl 3 [[il n1,il z1,sD t1]]),.d (.sl 3 [[il n2,il z2,sD t2]]),.d (il b3),.d (il b4),.d (il b5)],.one (.d (.sl 8 [recR r])),.one (.d (il 0))])):=by
 have H:∀ {W:World},Below w.heap.size w W→(∀ b,U b→b < W.heap.size)∧XX W U:=fun hb=>⟨fun b h=>Nat.lt_of_lt_of_le (hU b h) hb.size,hX.mono (fun b h=>hb.block b (hU b h)) fun _ h=>h⟩
 have s31:=sc_of hF (f:=31) (sh:=[.agg 6,.one]) (vs:=[.agg [.lit (.slice none 0 0),.lit (.slice none 0 0),.lit (.slice none 0 0),il b3,il b4,il b5],.one (.lit (.slice none 0 0))]) (rs:=[(false,[.d])]) rfl rfl (isOK_some h31) rfl
 have s81:=sc_of hF (f:=81) (sh:=[.one,.agg 8]) (vs:=[.one (.lit (.slice none 0 0)),.agg (recR r)]) (rs:=[(false,[.d]),(false,[.d])]) rfl rfl (isNew_some h81) rfl
 have s82:=sc_of hF (f:=82) (sh:=[.agg 6]) (vs:=[.agg [.lit (.slice none 0 0),.lit (.slice none 0 0),.lit (.slice none 0 0),il b3,il b4,il b5]]) (rs:=[(true,[.d,.d,.d,.d,.d,.d])]) rfl rfl h82 rfl
 have s83:=sc_of hF (f:=83) (sh:=[.one]) (vs:=[.one (.lit (.slice none 0 0))]) (rs:=[(false,[.d])]) rfl rfl h83 rfl
 have hbx:∀ (W:World),VDF W U [.agg [.lit (.slice none 0 0),.lit (.slice none 0 0),.lit (.slice none 0 0),il b3,il b4,il b5]] [.agg #[.slice none 0 0,.slice none 0 0,.slice none 0 0,.int .i64 b3,.int .i64 b4,.int .i64 b5]]:=fun W=>⟨_,_,rfl,⟨_,rfl,⟨_,_,rfl,⟨rfl,rfl⟩,_,_,rfl,⟨rfl,rfl⟩,_,_,rfl,⟨rfl,rfl⟩,_,_,rfl,⟨rfl,rfl⟩,_,_,rfl,⟨rfl,rfl⟩,_,_,rfl,⟨rfl,rfl⟩,rfl⟩⟩,rfl⟩
 have k31:∀ W,Below w.heap.size w W→Calls Tryz.prog 31 #[.agg #[.slice none 0 0,.slice none 0 0,.slice none 0 0,.int .i64 b3,.int .i64 b4,.int .i64 b5],.slice none 0 0] W fun e w'=>e=.returned (.int .i64 0)∧Below W.heap.size W w':=fun W hb=>cLit s31 (H hb).1 (H hb).2 ⟨_,_,rfl,⟨_,rfl,⟨_,_,rfl,⟨rfl,rfl⟩,_,_,rfl,⟨rfl,rfl⟩,_,_,rfl,⟨rfl,rfl⟩,_,_,rfl,⟨rfl,rfl⟩,_,_,rfl,⟨rfl,rfl⟩,_,_,rfl,⟨rfl,rfl⟩,rfl⟩⟩,_,_,rfl,⟨rfl,rfl⟩,rfl⟩
 have k81:∀ W,Below w.heap.size w W→Calls Tryz.prog 81 #[.slice none 0 0,.agg #[.int .i64 r.p,.int .i64 r.no,.int .i64 r.kd,.int .i64 r.dy,.int .i64 r.kn,.int .i64 r.op,.int .i64 r.on,.string ⟨r.tx.toArray⟩]] W fun e w'=>e=.returned (.tuple #[.bool false,.int .i64 0])∧Below W.heap.size W w':=fun W hb=>by
  refine (s81.2 W U _ (H hb).1 (H hb).2 ⟨_,_,rfl,⟨rfl,rfl⟩,_,_,rfl,⟨_,rfl,recR_f r⟩,rfl⟩).mono ?_
  rintro e w' ⟨v,U',bs,rfl,hb,_,_,_,_,hr⟩
  obtain ⟨vs,rfl,_,_,_,_,e1,_,⟨_,q1,_⟩,_,_,_,_,rfl,_,⟨_,q2,_⟩,rfl,_⟩:=hr
  rw [q1,q2] at e1
  exact ⟨by rw [arr_of e1],hb⟩
 have k82:∀ W,Below w.heap.size w W→Calls Tryz.prog 82 #[.agg #[.slice none 0 0,.slice none 0 0,.slice none 0 0,.int .i64 b3,.int .i64 b4,.int .i64 b5]] W fun e w'=>e=.returned (.agg #[.slice none 0 0,.slice none 0 0,.slice none 0 0,.int .i64 b3,.int .i64 b4,.int .i64 b5])∧Below W.heap.size W w':=fun W hb=>by
  refine (s82.2 W U _ (H hb).1 (H hb).2 (hbx W)).mono ?_
  rintro e w' ⟨v,U',bs,rfl,hb,_,_,_,_,hr⟩
  have hr':RvR w' U' (.agg ([.lit (.slice none 0 0),.lit (.slice none 0 0),.lit (.slice none 0 0),il b3,il b4,il b5].map RC.d)) v bs:=hr
  obtain ⟨cs,rfl,hc⟩:=hr'
  have hf:=(RcF_d hc).1
  simp only [FR] at hf
  obtain ⟨_,_,e1,g1,_,_,rfl,g2,_,_,rfl,g3,_,_,rfl,g4,_,_,rfl,g5,_,_,rfl,g6,rfl⟩:=hf
  rw [g1.1,g2.1,g3.1,il_v g4,il_v g5,il_v g6] at e1
  exact ⟨by rw [arr_of e1],hb⟩
 have k83:∀ W,Below w.heap.size w W→Calls Tryz.prog 83 #[.slice none 0 0] W fun e w'=>e=.returned (.slice none 0 0)∧Below W.heap.size W w':=fun W hb=>cLit s83 (H hb).1 (H hb).2 ⟨_,_,rfl,⟨rfl,rfl⟩,rfl⟩
 have k71:=fun W (hb:Below w.heap.size w W)=>c71 hF h71 hs (H hb).1 (H hb).2
 clear s31 s81 s82 s83 hbx
 have A0:∀ a b c,Below w.heap.size w (((w.alloc a).alloc b).alloc c):=fun a b c=>(((Below.refl _ w).alloc (Nat.le_refl _) a).alloc (by simp) b).alloc (by simp;omega) c
 go_enter Tryz.func21,Tryz.ntmps21
 go_wp2_with (first
  | (go_at_call 31;refine (k31 _ (A0 _ _ _)).mono ?_;rintro e w1 ⟨rfl,b1⟩;have hsz1:w.heap.size+1+1 < w1.heap.size:=Nat.lt_of_lt_of_le (by simp) b1.size;have B1:Below w.heap.size w w1:=(A0 _ _ _).trans (b1.mono (A0 _ _ _).size);have r1:=(b1.block (w.heap.size+1) (by simp)).trans (three w _ _ _).2.1;have r2:=(b1.block (w.heap.size+1+1) (by simp)).trans (three w _ _ _).2.2;have r0:=(b1.block w.heap.size (by simp;omega)).trans (three w _ _ _).1;have q1_0:=Go.Joins.cell_of_block r1 0;have q1_1:=Go.Joins.cell_of_block r1 1;have q1_2:=Go.Joins.cell_of_block r1 2;have q1_3:=Go.Joins.cell_of_block r1 3;have q1_4:=Go.Joins.cell_of_block r1 4;have q1_5:=Go.Joins.cell_of_block r1 5;have q1_6:=Go.Joins.cell_of_block r1 6;have q1_7:=Go.Joins.cell_of_block r1 7)
  | (go_at_call 81;refine (k81 _ B1).mono ?_;rintro e w2 ⟨rfl,b2⟩;have hsz2:w.heap.size+1+1 < w2.heap.size:=(by have:=b2.size;omega);have B2:Below w.heap.size w w2:=B1.trans (b2.mono B1.size);have u0:=(b2.block w.heap.size (by omega)).trans r0;have u1:=(b2.block (w.heap.size+1) (by omega)).trans r1;have u2:=(b2.block (w.heap.size+1+1) (by omega)).trans r2;clear r0 r1 r2;have q2_0:=Go.Joins.cell_of_block u0 0;have q2_1:=Go.Joins.cell_of_block u0 1;have q2_2:=Go.Joins.cell_of_block u0 2;have q2_3:=Go.Joins.cell_of_block u0 3;have q2_4:=Go.Joins.cell_of_block u0 4;have q2_5:=Go.Joins.cell_of_block u0 5)
  | (go_at_call 82;refine (k82 _ B2).mono ?_;rintro e w3 ⟨rfl,b3'⟩;have hsz3:w.heap.size+1+1 < w3.heap.size:=(by have:=b3'.size;omega))
  | (go_at_call 83;refine (k83 _ (B2.trans (b3'.mono B2.size))).mono ?_;rintro e w4 ⟨rfl,b4'⟩;have B4:Below w.heap.size w w4:=(B2.trans (b3'.mono B2.size)).trans (b4'.mono (B2.trans (b3'.mono B2.size)).size);have hsz4:w.heap.size+1+1 < w4.heap.size:=(by have:=b4'.size;omega);have p1:=(b4'.block (w.heap.size+1) (by omega)).trans ((b3'.block (w.heap.size+1) (by omega)).trans u1);have p2:=(b4'.block (w.heap.size+1+1) (by omega)).trans ((b3'.block (w.heap.size+1+1) (by omega)).trans u2);have B5:Below w.heap.size w (w4.alloc (.cells #[.slice none 0 0,.slice none 0 0,.slice none 0 0,.int .i64 b3,.int .i64 b4,.int .i64 b5] 43)):=B4.alloc B4.size _;have m1:=(heap_alloc_old w4 (.cells #[.slice none 0 0,.slice none 0 0,.slice none 0 0,.int .i64 b3,.int .i64 b4,.int .i64 b5] 43) (by omega)).trans p1;have q3_0:=Go.Joins.cell_of_block m1 0;have q3_1:=Go.Joins.cell_of_block m1 1;have q3_2:=Go.Joins.cell_of_block m1 2;have q3_3:=Go.Joins.cell_of_block m1 3;have q3_4:=Go.Joins.cell_of_block m1 4;have q3_5:=Go.Joins.cell_of_block m1 5;have q3_6:=Go.Joins.cell_of_block m1 6;have q3_7:=Go.Joins.cell_of_block m1 7)
  | (go_at_call 71;refine (k71 _ B5).mono ?_;rintro e w6 ⟨rfl,b6⟩))
 have R2:Th3 (.int .i64 b3) (.int .i64 b4) (.int .i64 b5) w4 w4.heap.size (fun _:Nat=>0) (fun _:Nat=>([]:List Value)) (fun _:Nat=>Value.slice none 0 0) w6:=(Th3.start' w4 (.int .i64 b3) (.int .i64 b4) (.int .i64 b5)).keep b6
 have hB:Below w.heap.size w w4:=B4
 have hp1:=p1
 have hp2:=p2
 have hs4:=hsz4
 clear k31 k81 k82 k83 k71 b1 B1 b2 B2 b3' b4' B4 B5 m1 u0 u1 u2 b6 p1 p2 hsz1 hsz2 hsz3 hsz4 A0 H
 clear q1_0 q1_1 q1_2 q1_3 q1_4 q1_5 q1_6 q1_7 q2_0 q2_1 q2_2 q2_3 q2_4 q2_5 q3_0 q3_1 q3_2 q3_3 q3_4 q3_5 q3_6 q3_7
 obtain ⟨i0,hi0,hz0,hsz0,hby0⟩:=inf27
 have ix0:=fun W=>(ix9 (.int .i64 n0) (.int .i64 z0) (.string ⟨t0.toArray⟩) (.int .i64 n1) (.int .i64 z1) (.string ⟨t1.toArray⟩) (.int .i64 n2) (.int .i64 z2) (.string ⟨t2.toArray⟩) W).1
 have ix1:=fun W=>(ix9 (.int .i64 n0) (.int .i64 z0) (.string ⟨t0.toArray⟩) (.int .i64 n1) (.int .i64 z1) (.string ⟨t1.toArray⟩) (.int .i64 n2) (.int .i64 z2) (.string ⟨t2.toArray⟩) W).2.1
 have ix2:=fun W=>(ix9 (.int .i64 n0) (.int .i64 z0) (.string ⟨t0.toArray⟩) (.int .i64 n1) (.int .i64 z1) (.string ⟨t1.toArray⟩) (.int .i64 n2) (.int .i64 z2) (.string ⟨t2.toArray⟩) W).2.2
 refine wp_loop_rounds 4 ?_
 rw [rounds_succ]
 go_wp2
 obtain ⟨W0,hW0⟩:∃ W,w6.alloc (.cells #[.int .i64 n0,.int .i64 z0,.string ⟨t0.toArray⟩] 27)=W:=⟨_,rfl⟩
 rw [hW0]
 have R3_0:Th3 (.int .i64 b3) (.int .i64 b4) (.int .i64 b5) w4 w4.heap.size (fun _:Nat=>0) (fun _:Nat=>([]:List Value)) (fun _:Nat=>Value.slice none 0 0) W0:=by rw [←hW0];exact R2.keep ((Below.refl _ w6).alloc (Nat.le_refl _) _)
 have B3_0:W0.heap[w6.heap.size]?=some (.cells #[.int .i64 n0,.int .i64 z0,.string ⟨t0.toArray⟩] 27 (0,0)):=by rw [←hW0];exact heap_alloc_new _ _
 clear hW0
 have s0:=Go.Joins.cell_of_block B3_0 0
 have s1:=Go.Joins.cell_of_block B3_0 1
 have s2:=Go.Joins.cell_of_block B3_0 2
 have cb:W0.cell? ⟨w4.heap.size,0,none⟩=some (.slice none 0 0):=Go.Joins.cell_of_block R3_0.box 0
 have c5:(W0.alloc (.cells #[.int .i64 n0,.int .i64 z0,.string ⟨t0.toArray⟩] 27)).cell? ⟨w4.heap.size,0,none⟩=some (.slice none 0 0):=(World.cell?_alloc_lt _ _ _ (World.block_lt_of_cell? W0 _ cb)).trans cb
 have hA:(W0.drew.alloc (.cells #[.int .i64 n0,.int .i64 z0,.string ⟨t0.toArray⟩] 27)).heap[W0.heap.size]?=some (.cells #[.int .i64 n0,.int .i64 z0,.string ⟨t0.toArray⟩] 27 (0,0)):=heap_alloc_new W0.drew _
 have R4:=R3_0.keep (((Below.refl _ W0).drew).alloc (Nat.le_refl _) (.cells #[.int .i64 n0,.int .i64 z0,.string ⟨t0.toArray⟩] 27))
 apply merge3 (fun g c W'=>Th3 (.int .i64 b3) (.int .i64 b4) (.int .i64 b5) w4 w4.heap.size (upd (fun _:Nat=>0) 0 (0+1)) (upd (fun _:Nat=>([]:List Value)) 0 ([]++[.int .i64 n0,.int .i64 z0,.string ⟨t0.toArray⟩])) (upd (fun _:Nat=>Value.slice none 0 0) 0 (.slice (some ⟨g,0,none⟩) (0+1) c)) W')
 ·intro key
  go_region_law (refine step_append_lies _ rfl (.tmp 52) (.tmp 54) 30 rfl (w4.heap.size+1) 27 i0 (.agg #[.int .i64 0,.int .i64 0,.string ⟨#[]⟩]) 3 32 Tryz.underlying30 hi0 hz0 hsz0 hby0 rfl (by decide) (.slice none 0 0) 0 [] rfl (R4.own 0 (by decide)) ⟨W0.heap.size,0,none⟩ 1 1 [.int .i64 n0,.int .i64 z0,.string ⟨t0.toArray⟩] rfl rfl (World.news_of_block hA) oneC3 (by decide) (by decide) (by decide) R4.si _ rfl (fun g4 cap4 w5 own4 gro4 lie4 lt4=>?_);have h4:=R4.far (i:=0) (by decide) gro4;have c4:=Go.Joins.cell_of_block h4 0;have f4:=Go.Joins.unfrozen_of_block h4 0)
  all_goals
   have R5:Th3 (.int .i64 b3) (.int .i64 b4) (.int .i64 b5) w4 w4.heap.size (upd (fun _:Nat=>0) 0 (0+1)) (upd (fun _:Nat=>([]:List Value)) 0 ([]++[.int .i64 n0,.int .i64 z0,.string ⟨t0.toArray⟩])) (upd (fun _:Nat=>Value.slice none 0 0) 0 (.slice (some ⟨g4,0,none⟩) (0+1) cap4)) (w5.setCell ⟨w4.heap.size,0,none⟩ (.slice (some ⟨g4,0,none⟩) (0+1) cap4)):=R4.push (i:=0) (by decide) own4 gro4 lie4
   obtain ⟨W5,hW5⟩:∃ W5,w5.setCell ⟨w4.heap.size,0,none⟩ (.slice (some ⟨g4,0,none⟩) (0+1) cap4)=W5:=⟨_,rfl⟩
   rw [hW5] at R5
   try rw [hW5]
   exact key.out g4 cap4 W5 R5
 clear s0 s1 s2 cb c5 hA R4
 intro g0 cap0 X0 Q0
 obtain ⟨v1,hv1⟩:∃ v',upd (fun _:Nat=>Value.slice none 0 0) 0 (.slice (some ⟨g0,0,none⟩) (0+1) cap0)=v':=⟨_,rfl⟩
 rw [hv1] at Q0
 clear hv1
 go_wp2
 rw [rounds_succ]
 go_wp2
 obtain ⟨W1,hW1⟩:∃ W,X0.alloc (.cells #[.int .i64 n1,.int .i64 z1,.string ⟨t1.toArray⟩] 27)=W:=⟨_,rfl⟩
 rw [hW1]
 have R3_1:Th3 (.int .i64 b3) (.int .i64 b4) (.int .i64 b5) w4 w4.heap.size (upd (fun _:Nat=>0) 0 (0+1)) (upd (fun _:Nat=>([]:List Value)) 0 ([]++[.int .i64 n0,.int .i64 z0,.string ⟨t0.toArray⟩])) v1 W1:=by rw [←hW1];exact Q0.keep ((Below.refl _ X0).alloc (Nat.le_refl _) _)
 have B3_1:W1.heap[X0.heap.size]?=some (.cells #[.int .i64 n1,.int .i64 z1,.string ⟨t1.toArray⟩] 27 (0,0)):=by rw [←hW1];exact heap_alloc_new _ _
 clear hW1
 have s0:=Go.Joins.cell_of_block B3_1 0
 have s1:=Go.Joins.cell_of_block B3_1 1
 have s2:=Go.Joins.cell_of_block B3_1 2
 have cb:W1.cell? ⟨w4.heap.size,1,none⟩=some (v1 1):=Go.Joins.cell_of_block R3_1.box 1
 have c5:(W1.alloc (.cells #[.int .i64 n1,.int .i64 z1,.string ⟨t1.toArray⟩] 27)).cell? ⟨w4.heap.size,1,none⟩=some (v1 1):=(World.cell?_alloc_lt _ _ _ (World.block_lt_of_cell? W1 _ cb)).trans cb
 have hA:(W1.drew.alloc (.cells #[.int .i64 n1,.int .i64 z1,.string ⟨t1.toArray⟩] 27)).heap[W1.heap.size]?=some (.cells #[.int .i64 n1,.int .i64 z1,.string ⟨t1.toArray⟩] 27 (0,0)):=heap_alloc_new W1.drew _
 have R4:=R3_1.keep (((Below.refl _ W1).drew).alloc (Nat.le_refl _) (.cells #[.int .i64 n1,.int .i64 z1,.string ⟨t1.toArray⟩] 27))
 apply merge3 (fun g c W'=>Th3 (.int .i64 b3) (.int .i64 b4) (.int .i64 b5) w4 w4.heap.size (upd (upd (fun _:Nat=>0) 0 (0+1)) 1 (0+1)) (upd (upd (fun _:Nat=>([]:List Value)) 0 ([]++[.int .i64 n0,.int .i64 z0,.string ⟨t0.toArray⟩])) 1 ([]++[.int .i64 n1,.int .i64 z1,.string ⟨t1.toArray⟩])) (upd v1 1 (.slice (some ⟨g,0,none⟩) (0+1) c)) W')
 ·intro key
  go_region_law (refine step_append_lies _ rfl (.tmp 52) (.tmp 54) 30 rfl (w4.heap.size+1) 27 i0 (.agg #[.int .i64 0,.int .i64 0,.string ⟨#[]⟩]) 3 32 Tryz.underlying30 hi0 hz0 hsz0 hby0 rfl (by decide) (v1 1) 0 [] rfl (R4.own 1 (by decide)) ⟨W1.heap.size,0,none⟩ 1 1 [.int .i64 n1,.int .i64 z1,.string ⟨t1.toArray⟩] rfl rfl (World.news_of_block hA) oneC3 (by decide) (by decide) (by decide) R4.si _ rfl (fun g4 cap4 w5 own4 gro4 lie4 lt4=>?_);have h4:=R4.far (i:=1) (by decide) gro4;have c4:=Go.Joins.cell_of_block h4 1;have f4:=Go.Joins.unfrozen_of_block h4 1)
  all_goals
   have R5:Th3 (.int .i64 b3) (.int .i64 b4) (.int .i64 b5) w4 w4.heap.size (upd (upd (fun _:Nat=>0) 0 (0+1)) 1 (0+1)) (upd (upd (fun _:Nat=>([]:List Value)) 0 ([]++[.int .i64 n0,.int .i64 z0,.string ⟨t0.toArray⟩])) 1 ([]++[.int .i64 n1,.int .i64 z1,.string ⟨t1.toArray⟩])) (upd v1 1 (.slice (some ⟨g4,0,none⟩) (0+1) cap4)) (w5.setCell ⟨w4.heap.size,1,none⟩ (.slice (some ⟨g4,0,none⟩) (0+1) cap4)):=R4.push (i:=1) (by decide) own4 gro4 lie4
   obtain ⟨W5,hW5⟩:∃ W5,w5.setCell ⟨w4.heap.size,1,none⟩ (.slice (some ⟨g4,0,none⟩) (0+1) cap4)=W5:=⟨_,rfl⟩
   rw [hW5] at R5
   try rw [hW5]
   exact key.out g4 cap4 W5 R5
 clear s0 s1 s2 cb c5 hA R4
 intro g1 cap1 X1 Q1
 obtain ⟨v2,hv2⟩:∃ v',upd v1 1 (.slice (some ⟨g1,0,none⟩) (0+1) cap1)=v':=⟨_,rfl⟩
 rw [hv2] at Q1
 clear hv2
 go_wp2
 rw [rounds_succ]
 go_wp2
 obtain ⟨W2,hW2⟩:∃ W,X1.alloc (.cells #[.int .i64 n2,.int .i64 z2,.string ⟨t2.toArray⟩] 27)=W:=⟨_,rfl⟩
 rw [hW2]
 have R3_2:Th3 (.int .i64 b3) (.int .i64 b4) (.int .i64 b5) w4 w4.heap.size (upd (upd (fun _:Nat=>0) 0 (0+1)) 1 (0+1)) (upd (upd (fun _:Nat=>([]:List Value)) 0 ([]++[.int .i64 n0,.int .i64 z0,.string ⟨t0.toArray⟩])) 1 ([]++[.int .i64 n1,.int .i64 z1,.string ⟨t1.toArray⟩])) v2 W2:=by rw [←hW2];exact Q1.keep ((Below.refl _ X1).alloc (Nat.le_refl _) _)
 have B3_2:W2.heap[X1.heap.size]?=some (.cells #[.int .i64 n2,.int .i64 z2,.string ⟨t2.toArray⟩] 27 (0,0)):=by rw [←hW2];exact heap_alloc_new _ _
 clear hW2
 have s0:=Go.Joins.cell_of_block B3_2 0
 have s1:=Go.Joins.cell_of_block B3_2 1
 have s2:=Go.Joins.cell_of_block B3_2 2
 have cb:W2.cell? ⟨w4.heap.size,2,none⟩=some (v2 2):=Go.Joins.cell_of_block R3_2.box 2
 have c5:(W2.alloc (.cells #[.int .i64 n2,.int .i64 z2,.string ⟨t2.toArray⟩] 27)).cell? ⟨w4.heap.size,2,none⟩=some (v2 2):=(World.cell?_alloc_lt _ _ _ (World.block_lt_of_cell? W2 _ cb)).trans cb
 have hA:(W2.drew.alloc (.cells #[.int .i64 n2,.int .i64 z2,.string ⟨t2.toArray⟩] 27)).heap[W2.heap.size]?=some (.cells #[.int .i64 n2,.int .i64 z2,.string ⟨t2.toArray⟩] 27 (0,0)):=heap_alloc_new W2.drew _
 have R4:=R3_2.keep (((Below.refl _ W2).drew).alloc (Nat.le_refl _) (.cells #[.int .i64 n2,.int .i64 z2,.string ⟨t2.toArray⟩] 27))
 apply merge3 (fun g c W'=>Th3 (.int .i64 b3) (.int .i64 b4) (.int .i64 b5) w4 w4.heap.size (upd (upd (upd (fun _:Nat=>0) 0 (0+1)) 1 (0+1)) 2 (0+1)) (upd (upd (upd (fun _:Nat=>([]:List Value)) 0 ([]++[.int .i64 n0,.int .i64 z0,.string ⟨t0.toArray⟩])) 1 ([]++[.int .i64 n1,.int .i64 z1,.string ⟨t1.toArray⟩])) 2 ([]++[.int .i64 n2,.int .i64 z2,.string ⟨t2.toArray⟩])) (upd v2 2 (.slice (some ⟨g,0,none⟩) (0+1) c)) W')
 ·intro key
  go_region_law (refine step_append_lies _ rfl (.tmp 52) (.tmp 54) 30 rfl (w4.heap.size+1) 27 i0 (.agg #[.int .i64 0,.int .i64 0,.string ⟨#[]⟩]) 3 32 Tryz.underlying30 hi0 hz0 hsz0 hby0 rfl (by decide) (v2 2) 0 [] rfl (R4.own 2 (by decide)) ⟨W2.heap.size,0,none⟩ 1 1 [.int .i64 n2,.int .i64 z2,.string ⟨t2.toArray⟩] rfl rfl (World.news_of_block hA) oneC3 (by decide) (by decide) (by decide) R4.si _ rfl (fun g4 cap4 w5 own4 gro4 lie4 lt4=>?_);have h4:=R4.far (i:=2) (by decide) gro4;have c4:=Go.Joins.cell_of_block h4 2;have f4:=Go.Joins.unfrozen_of_block h4 2)
  all_goals
   have R5:Th3 (.int .i64 b3) (.int .i64 b4) (.int .i64 b5) w4 w4.heap.size (upd (upd (upd (fun _:Nat=>0) 0 (0+1)) 1 (0+1)) 2 (0+1)) (upd (upd (upd (fun _:Nat=>([]:List Value)) 0 ([]++[.int .i64 n0,.int .i64 z0,.string ⟨t0.toArray⟩])) 1 ([]++[.int .i64 n1,.int .i64 z1,.string ⟨t1.toArray⟩])) 2 ([]++[.int .i64 n2,.int .i64 z2,.string ⟨t2.toArray⟩])) (upd v2 2 (.slice (some ⟨g4,0,none⟩) (0+1) cap4)) (w5.setCell ⟨w4.heap.size,2,none⟩ (.slice (some ⟨g4,0,none⟩) (0+1) cap4)):=R4.push (i:=2) (by decide) own4 gro4 lie4
   obtain ⟨W5,hW5⟩:∃ W5,w5.setCell ⟨w4.heap.size,2,none⟩ (.slice (some ⟨g4,0,none⟩) (0+1) cap4)=W5:=⟨_,rfl⟩
   rw [hW5] at R5
   try rw [hW5]
   exact key.out g4 cap4 W5 R5
 clear s0 s1 s2 cb c5 hA R4
 intro g2 cap2 X2 Q2
 obtain ⟨v3,hv3⟩:∃ v',upd v2 2 (.slice (some ⟨g2,0,none⟩) (0+1) cap2)=v':=⟨_,rfl⟩
 rw [hv3] at Q2
 clear hv3
 go_wp2
 rw [rounds_succ]
 go_wp2
 have hbe:=hB.trans (Q2.be.mono (by omega))
 have o0:X2.ownsRow (w4.heap.size+1) 27 3 (v3 0) 1 [.int .i64 n0,.int .i64 z0,.string ⟨t0.toArray⟩]:=Q2.own 0 (by decide)
 have o1:X2.ownsRow (w4.heap.size+1) 27 3 (v3 1) 1 [.int .i64 n1,.int .i64 z1,.string ⟨t1.toArray⟩]:=Q2.own 1 (by decide)
 have o2:X2.ownsRow (w4.heap.size+1) 27 3 (v3 2) 1 [.int .i64 n2,.int .i64 z2,.string ⟨t2.toArray⟩]:=Q2.own 2 (by decide)
 have box:=Q2.box
 have hsX:=Q2.si
 have rec1:=(Q2.be.block (w.heap.size+1) (by omega)).trans hp1
 have res1:=(Q2.be.block (w.heap.size+1+1) (by omega)).trans hp2
 clear Q2 Q1 Q0 R2 R3_0 R3_1 R3_2 B3_0 B3_1 B3_2 ix0 ix1 ix2 hp1 hp2 hB i0 hi0 hz0 hsz0 hby0
 obtain ⟨a0,d0,e0,ha0,hb0⟩:=o0.form (by decide)
 obtain ⟨a1,d1,e1,ha1,hb1⟩:=o1.form (by decide)
 obtain ⟨a2,d2,e2,ha2,hb2⟩:=o2.form (by decide)
 rw [e0] at o0
 rw [e1] at o1
 rw [e2] at o2
 rw [e0,e1,e2] at box
 clear e0 e1 e2
 have A0:Aside (X2.ownsRow (w4.heap.size+1) 27 3 (.slice (some ⟨a0,0,none⟩) 1 d0) 1 [.int .i64 n0,.int .i64 z0,.string ⟨t0.toArray⟩]):=o0
 have A1:Aside (X2.ownsRow (w4.heap.size+1) 27 3 (.slice (some ⟨a1,0,none⟩) 1 d1) 1 [.int .i64 n1,.int .i64 z1,.string ⟨t1.toArray⟩]):=o1
 have A2:Aside (X2.ownsRow (w4.heap.size+1) 27 3 (.slice (some ⟨a2,0,none⟩) 1 d2) 1 [.int .i64 n2,.int .i64 z2,.string ⟨t2.toArray⟩]):=o2
 clear o0 o1 o2
 have box5:=(heap_alloc_old X2 (.cells #[.int .i64 r.p,.int .i64 r.no,.int .i64 r.kd,.int .i64 r.dy,.int .i64 r.kn,.int .i64 r.op,.int .i64 r.on,.string ⟨r.tx.toArray⟩] 25) (r:=w4.heap.size) (by omega)).trans box
 have hA:(X2.drew.alloc (.cells #[.int .i64 r.p,.int .i64 r.no,.int .i64 r.kd,.int .i64 r.dy,.int .i64 r.kn,.int .i64 r.op,.int .i64 r.on,.string ⟨r.tx.toArray⟩] 25)).heap[X2.heap.size]?=some (.cells (encR r).toArray 25 (0,0)):=heap_alloc_new X2.drew _
 have hbs:w.heap.size+1+1+1≤(X2.drew.alloc (.cells #[.int .i64 r.p,.int .i64 r.no,.int .i64 r.kd,.int .i64 r.dy,.int .i64 r.kn,.int .i64 r.op,.int .i64 r.on,.string ⟨r.tx.toArray⟩] 25)).heap.size:=by rw [World.size_alloc];show _≤X2.heap.size+1;omega
 have ca0:=Go.Joins.cell_of_block box 0
 have ca1:=Go.Joins.cell_of_block box 1
 have ca2:=Go.Joins.cell_of_block box 2
 have ca3:=Go.Joins.cell_of_block box 3
 have ca4:=Go.Joins.cell_of_block box 4
 have ca5:=Go.Joins.cell_of_block box 5
 have cc0:=Go.Joins.cell_of_block box5 0
 have cc1:=Go.Joins.cell_of_block box5 1
 have cc2:=Go.Joins.cell_of_block box5 2
 have cc3:=Go.Joins.cell_of_block box5 3
 have cc4:=Go.Joins.cell_of_block box5 4
 have cc5:=Go.Joins.cell_of_block box5 5
 have cd0:=Go.Joins.cell_of_block rec1 0
 have cd1:=Go.Joins.cell_of_block rec1 1
 have cd2:=Go.Joins.cell_of_block rec1 2
 have cd3:=Go.Joins.cell_of_block rec1 3
 have cd4:=Go.Joins.cell_of_block rec1 4
 have cd5:=Go.Joins.cell_of_block rec1 5
 have cd6:=Go.Joins.cell_of_block rec1 6
 have cd7:=Go.Joins.cell_of_block rec1 7
 obtain ⟨i1,hi1,hz1,hsz1,hby1⟩:=inf25
 apply merge3 (fun g c W'=>W'.heap[w.heap.size+1+1]?=some (.cells #[.slice (some ⟨a0,0,none⟩) 1 d0,.slice (some ⟨a1,0,none⟩) 1 d1,.slice (some ⟨a2,0,none⟩) 1 d2,.int .i64 b3,.int .i64 b4,.int .i64 b5] 43 (0,0))∧W'.ownsRow (w4.heap.size+1) 27 3 (.slice (some ⟨a0,0,none⟩) 1 d0) 1 [.int .i64 n0,.int .i64 z0,.string ⟨t0.toArray⟩]∧W'.ownsRow (w4.heap.size+1) 27 3 (.slice (some ⟨a1,0,none⟩) 1 d1) 1 [.int .i64 n1,.int .i64 z1,.string ⟨t1.toArray⟩]∧W'.ownsRow (w4.heap.size+1) 27 3 (.slice (some ⟨a2,0,none⟩) 1 d2) 1 [.int .i64 n2,.int .i64 z2,.string ⟨t2.toArray⟩] ∧
  W'.ownsRow (w.heap.size+1+1+1) 25 8 (.slice (some ⟨g,0,none⟩) 1 c) 1 (encR r)∧Below w.heap.size w W')
 ·intro key
  go_region_law (refine step_append_lies _ rfl (.tmp 60) (.tmp 62) 44 rfl (w.heap.size+1+1+1) 25 i1 _ 8 72 Tryz.underlying44 hi1 hz1 hsz1 hby1 rfl (by decide) (.slice none 0 0) 0 [] rfl (World.ownsRow_nil _ _ _ _) ⟨X2.heap.size,0,none⟩ 1 1 (encR r) rfl rfl (World.news_of_block hA) oneE (by decide) (by decide) (by decide) hbs _ rfl (fun g4 cap4 w9 own4 gro4 lie4 lt4=>?_);have h9:=(far9 gro4 (k:=w4.heap.size) (by omega)).trans box;have h8:=(far9 gro4 (k:=w.heap.size+1+1) (by omega)).trans res1;have ce0:=Go.Joins.cell_of_block h9 0;have ce1:=Go.Joins.cell_of_block h9 1;have ce2:=Go.Joins.cell_of_block h9 2;have ce3:=Go.Joins.cell_of_block h9 3;have ce4:=Go.Joins.cell_of_block h9 4;have ce5:=Go.Joins.cell_of_block h9 5;have cf0:=Go.Joins.cell_of_block h8 0;have cf1:=Go.Joins.cell_of_block h8 1;have cf2:=Go.Joins.cell_of_block h8 2;have cf3:=Go.Joins.cell_of_block h8 3;have cf4:=Go.Joins.cell_of_block h8 4;have cf5:=Go.Joins.cell_of_block h8 5;have cg0:=Go.Joins.unfrozen_of_block h8 0;have cg1:=Go.Joins.unfrozen_of_block h8 1;have cg2:=Go.Joins.unfrozen_of_block h8 2;have cg3:=Go.Joins.unfrozen_of_block h8 3;have cg4:=Go.Joins.unfrozen_of_block h8 4;have cg5:=Go.Joins.unfrozen_of_block h8 5)
  all_goals
   have R5:=set6 h8 (.slice (some ⟨a0,0,none⟩) 1 d0) (.slice (some ⟨a1,0,none⟩) 1 d1) (.slice (some ⟨a2,0,none⟩) 1 d2) (.int .i64 b3) (.int .i64 b4) (.int .i64 b5)
   have hb9:=bel9 gro4
   exact key.out g4 cap4 _ ⟨R5,own6 (own_below A0.out hb9) (by omega) _ _ _ _ _ _,own6 (own_below A1.out hb9) (by omega) _ _ _ _ _ _,own6 (own_below A2.out hb9) (by omega) _ _ _ _ _ _,own6 own4 (by omega) _ _ _ _ _ _,bel6 (hbe.trans (hb9.mono hbe.size)) (by omega) _ _ _ _ _ _⟩
 rintro g c W' ⟨hres,p0,p1,p2,p3,hbW⟩
 go_wp2
 refine ⟨rfl,_,results3 (p:=6) (u1:=7) (u2:=8) (ty:=43) Tryz.results21 _ _ (w.heap.size+1+1) 43 _ (0,0) _ rfl hres Tryz.underlying43 rfl (by kernel_rfl),?_⟩
 refine ⟨_,fun b=>U b∨(w.heap.size≤b∧b < W'.heap.size),[],rfl,hbW,fun _ h=>.inl h,fun b h=>?_,List.nodup_nil,by simp,?_⟩
 ·rcases h with h | h
  ·exact ⟨Nat.lt_of_lt_of_le (hU b h) hbW.size,.inl h⟩
  ·exact ⟨h.2,.inr h.1⟩
 ·refine ⟨_,rfl,_,_,[],[],rfl,rfl,?_,_,_,[],[],rfl,rfl,⟨rfl,?_⟩,_,_,[],[],rfl,rfl,⟨rfl,rfl,rfl⟩,rfl,rfl⟩
  ·show RvR _ _ (.agg ([.sl 3 [strR n0 z0 t0],.sl 3 [strR n1 z1 t1],.sl 3 [strR n2 z2 t2],il b3,il b4,il b5].map RC.d)) _ []
   refine ⟨_,rfl,RcF_of ?_⟩
   simp only [FR]
   exact ⟨_,_,rfl,DR_ownS (rows:=[strR n0 z0 t0]) p0 rfl (by decide) litS3 fun k hk=>.inr ⟨by have:=(own_lt p0 k hk).1;omega,(own_lt p0 k hk).2⟩,_,_,rfl,DR_ownS (rows:=[strR n1 z1 t1]) p1 rfl (by decide) litS3 fun k hk=>.inr ⟨by have:=(own_lt p1 k hk).1;omega,(own_lt p1 k hk).2⟩,
    _,_,rfl,DR_ownS (rows:=[strR n2 z2 t2]) p2 rfl (by decide) litS3 fun k hk=>.inr ⟨by have:=(own_lt p2 k hk).1;omega,(own_lt p2 k hk).2⟩,_,_,rfl,⟨rfl,rfl⟩,_,_,rfl,⟨rfl,rfl⟩,_,_,rfl,⟨rfl,rfl⟩,rfl⟩
  ·exact DR_ownS (rows:=[recR r]) p3 rfl (by decide) litS8 fun k hk=>.inr ⟨by have:=(own_lt p3 k hk).1;omega,(own_lt p3 k hk).2⟩
end Go.VE
namespace Go.VE
open Go.RowKit Go.Proofs Go.Shelf Go.Lib
set_option maxRecDepth 100000
set_option maxHeartbeats 1500000
theorem CR_lits' {w:World} {U:Nat→Prop} {b:Nat}:∀ {xs:List D} {o:Nat},(∀ x∈xs,isLit x=true)→CR w U b o xs→∀ j u,(xs.map litV)[j]?=some u→w.cell? ⟨b,o+j,none⟩=some u
 | [],o,_,_,j,u,h=>by simp at h
 | x::xs,o,hl,h,0,u,hu=>by
  simp only [List.map_cons,List.getElem?_cons_zero,Option.some.injEq] at hu
  subst hu
  obtain ⟨⟨v,h1,h2⟩,_⟩:=h
  have hx:=hl x (by simp)
  match x,hx,h2 with
  | .lit y,_,h2 =>
   rw [h2.1] at h1
   exact h1
 | x::xs,o,hl,h,j+1,u,hu=>by
  have:=CR_lits' (xs:=xs) (o:=o+1) (fun y hy=>hl y (by simp [hy])) h.2 j u (by simpa using hu)
  rw [show o+(j+1)=o+1+j by omega]
  exact this
theorem RR_lits' {w:World} {U:Nat→Prop} {b s:Nat}:∀ {rows:List (List D)} {o:Nat},(∀ r∈rows,r.length=s∧∀ x∈r,isLit x=true)→RR w U b o s rows→∀ j u,(rowsV rows)[j]?=some u→w.cell? ⟨b,o+j,none⟩=some u
 | [],o,_,_,j,u,h=>by simp [rowsV] at h
 | r::rs,o,hl,h,j,u,hu=>by
  obtain ⟨h1,h2,h3⟩:=h
  have hr:=hl r (by simp)
  simp only [rowsV,List.flatMap_cons] at hu
  by_cases hj:j < s
  ·rw [List.getElem?_append_left (by rw [List.length_map,h1];exact hj)] at hu
   exact CR_lits' hr.2 h2 j u hu
  ·rw [List.getElem?_append_right (by rw [List.length_map,h1];omega),List.length_map,h1] at hu
   have:=RR_lits' (rows:=rs) (o:=o+s) (fun y hy=>hl y (by simp [hy])) h3 (j - s) u hu
   rw [show o+s+(j - s)=o+j by omega] at this
   exact this
theorem rowsV_len {s:Nat}:∀ {rows:List (List D)},(∀ r∈rows,r.length=s∧∀ x∈r,isLit x=true)→(rowsV rows).length=rows.length*s
 | [],_=>by simp [rowsV]
 | r::rs,h=>by
  have:=rowsV_len (rows:=rs) fun y hy=>h y (by simp [hy])
  simp only [rowsV,List.flatMap_cons,List.length_append,List.length_map,List.length_cons] at this ⊢
  rw [(h r (by simp)).1,this,Nat.succ_mul]
  omega
theorem owns_of {w:World} {U:Nat→Prop} {b e s cap B:Nat} {cur:Array Value} {rows:List (List D)} (hb:w.heap[b]?=some (.cells cur e (0,0))) (h1:rows.length≤cap) (h2:cap≤maxLen) (h3:cur.size=cap*s) (h4:RR w U b 0 s rows) (hB:B≤b) (hl:∀ r∈rows,r.length=s∧∀ x∈r,isLit x=true) :
  w.ownsRow B e s (.slice (some ⟨b,0,none⟩) rows.length cap) rows.length (rowsV rows):=by
 have hlen:=rowsV_len hl
 refine ⟨hlen,.inr ⟨b,cap,cur,rfl,hB,hb,h1,h2,h3,?_⟩⟩
 have hle:rows.length*s≤cur.toList.length:=by
  have e:cur.toList.length=cap*s:=by rw [←h3];simp
  rw [e];exact Nat.mul_le_mul_right s h1
 apply List.ext_getElem?
 intro j
 by_cases hj:j < rows.length*s
 ·obtain ⟨u,hu⟩:∃ u,(rowsV rows)[j]?=some u:=⟨(rowsV rows)[j]'(by omega),by simp⟩
  rw [hu,List.getElem?_take_of_lt hj]
  have:=RR_lits' hl h4 j u hu
  rw [Nat.zero_add,Go.Joins.cell_of_block hb j] at this
  simpa using this
 ·rw [List.getElem?_eq_none (by rw [List.length_take];omega),List.getElem?_eq_none (by omega)]
theorem litS8s:∀ (l:List Rec),∀ y∈l.map recR,y.length=8∧∀ x∈y,isLit x=true:=fun l y hy=>by
 obtain ⟨r,_,rfl⟩:=List.mem_map.1 hy
 exact litS8 (r:=r) (recR r) (by simp)
theorem step_call1 {P:Program} {ops:Array Oper} {o:Oper} {a:Act} {w:World} {K:Act→World→Prop} {Q:Exit→Act→World→Prop} {E:Prop} (hgd:o.guard=none) (f:FuncId) (s:Operand) (ts:Array TypeId)
  (ho:o.op=.call { callee:=.value (.func f),args:=#[s],argTypes:=ts }) (v:Value) (hv:a.eval s=v) (hen:∀ (vs:Array Value) (w:World),(callFunc f vs).run P w=.ok (.enter f vs) w) {R:Ending→World→Prop} (hc:Calls P f #[v] w R)
  (hR:∀ e w',R e w'→∃ u,e=.returned u∧K (a.put o.dst u) w') :
  if Region.wanted o (yielded ops a.tmps)=true then Oper.wp P o a w K Q else E:=by
 have hw:Region.wanted o (yielded ops a.tmps)=true:=by simp [Region.wanted,hgd]
 rw [if_pos hw]
 have hrun:(execOp a.eval o).run P w=.ok (.enter f #[v]) w:=by
  have hf:a.eval (.func f)=.func (.func f) #[] #[]:=rfl
  simp [execOp,ho,resolve,Deferred.ofValue,invoke,hv,hf,hen,Sem.run_bind]
 unfold Oper.wp
 rw [hrun,Oper.upon_enter]
 refine hc.mono ?_
 intro e w' h
 obtain ⟨u,rfl,hk⟩:=hR e w' h
 exact hk
end Go.VE
namespace Go.VE
open Go.RowKit Go.Proofs Go.Shelf Go.Lib
set_option maxRecDepth 100000
set_option maxHeartbeats 1500000
theorem results2 {P:Program} {fn:Func} {p u1:Tmp} {ty:TypeId} (h:fn.results=#[.cell p ty,.tmp u1]) (tmps:Array Value) (w:World) (g:Nat) (t:TypeId) (cs:Array Value) (fr:Nat×Nat) (d:TypeDesc)
  (hp:tmps.getD p undef=.pointer (some ⟨g,0,none⟩)) (hg:w.heap[g]?=some (.cells cs t fr))
  (hu:P.underlying ty=some d) (hd:(match d with | .struct _ | .array _ _=>true | _=>false)=true) (hi:(P.info? ty).map (·.size)=some cs.size) :
  (results fn tmps).run P w=.ok (.tuple #[.agg cs,tmps.getD u1 undef]) w:=by
 have hp':tmps[p]?.getD undef=.pointer (some ⟨g,0,none⟩):=by simpa using hp
 simp [results,h,hp',asAddr,run_loadVar_row w g t ty cs fr d hg hu hd hi,Sem.run_bind]
theorem add_fin {w w6:World} {U U':Nat→Prop} {z:Value} {m:List Rec} {B:Nat} (hU:∀ b,U b→b < w.heap.size) (hB:w.heap.size+1+1 < B) (B6:Below w.heap.size w w6)
  (f1:∀ b,U b→U' b) (f2:∀ b,U' b→b < w6.heap.size∧(U b∨B≤b)) (f3:DR w6 U' (.sl 8 (m.map recR)) z) :
  Post w U (.tup [.agg [.d (.sl 8 (m.map recR))],.one (.d (il 0))]) (.returned (.tuple #[.agg #[z],.int .i64 0])) (w6.setCell ⟨w.heap.size+1+1,0,none⟩ z):=by
 have hd:DR (w6.setCell ⟨w.heap.size+1+1,0,none⟩ z) U' (.sl 8 (m.map recR)) z:=by
  have:=FR.mono (w:=w6) (w':=w6.setCell ⟨w.heap.size+1+1,0,none⟩ z) (U:=U') (U':=U') (fun b h=>setC_other (by
   rcases (f2 b h).2 with h | h
   ·have:=hU b h;omega
   ·omega)) (fun _ h=>h) [.sl 8 (m.map recR)] [z] ⟨z,[],rfl,f3,rfl⟩
  obtain ⟨_,_,e,hd,_⟩:=this
  cases e
  exact hd
 refine ⟨_,U',[],rfl,B6.setCell (p:=⟨w.heap.size+1+1,0,none⟩) (show w.heap.size≤w.heap.size+1+1 by omega) _,f1,fun b h=>?_,List.nodup_nil,by simp,?_⟩
 ·have:=f2 b h
  rw [World.size_setCell]
  exact ⟨this.1,this.2.imp_right fun h=>by omega⟩
 ·refine ⟨_,rfl,_,_,[],[],rfl,rfl,?_,_,_,[],[],rfl,rfl,⟨rfl,rfl,rfl⟩,rfl,rfl⟩
  show RvR _ _ (.agg ([.sl 8 (m.map recR)].map RC.d)) _ []
  refine ⟨_,rfl,RcF_of ?_⟩
  simp only [FR]
  exact ⟨z,[],rfl,hd,rfl⟩
theorem add_c {Fn:Nat→List D→Out} (hF:FnOK Tryz.prog CF Fn) {x:D} {l m:List Rec} {r:Rec} (h60:Fn 60 [x]=some (0,[.d (il 0)])) (h81:Fn 81 (x::recR r)=some (0,[.d (bl false),.d (il 0)]))
  (h83:(x=.lit (.slice none 0 0)∧l=[]∧Fn 83 [x]=some (1,[.d (.lit (.slice none 0 0))]))∨Fn 83 [x]=some (0,[.r (l.map recR)]))
  (h121:Fn 121 [.sl 8 ((l++[r]).map recR)]=some (0,[.d (.sl 8 (m.map recR))])) (hl:l.length≤60) {w:World} {U:Nat→Prop} (hU:∀ b,U b→b < w.heap.size) (hX:XX w U) {v:Value} (hv:DR w U x v) :
  Calls Tryz.prog 64 #[.agg #[v],.agg #[.int .i64 r.p,.int .i64 r.no,.int .i64 r.kd,.int .i64 r.dy,.int .i64 r.kn,.int .i64 r.op,.int .i64 r.on,.string ⟨r.tx.toArray⟩]] w (Post w U (.tup [.agg [.d (.sl 8 (m.map recR))],.one (.d (il 0))])):=by
 have H:∀ {W:World},Below w.heap.size w W→(∀ b,U b→b < W.heap.size)∧XX W U:=fun hb=>⟨fun b h=>Nat.lt_of_lt_of_le (hU b h) hb.size,hX.mono (fun b h=>hb.block b (hU b h)) fun _ h=>h⟩
 have hvW:∀ {W:World},Below w.heap.size w W→DR W U x v:=fun {W} hb=>by
  have:=FR.mono (w:=w) (w':=W) (U:=U) (U':=U) (fun b h=>hb.block b (hU b h)) (fun _ h=>h) [x] [v] ⟨v,[],rfl,hv,rfl⟩
  obtain ⟨_,_,e,hd,_⟩:=this
  cases e
  exact hd
 have s60:=sc_of hF (f:=60) (sh:=[.agg 1]) (vs:=[.agg [x]]) (rs:=[(false,[.d])]) rfl rfl h60 rfl
 have s81:=sc_of hF (f:=81) (sh:=[.one,.agg 8]) (vs:=[.one x,.agg (recR r)]) (rs:=[(false,[.d]),(false,[.d])]) rfl rfl h81 rfl
 have s121:=sc_of hF (f:=121) (sh:=[.one]) (vs:=[.one (.sl 8 ((l++[r]).map recR))]) (rs:=[(false,[.d])]) rfl rfl h121 rfl
 have k60:∀ W,Below w.heap.size w W→Calls Tryz.prog 60 #[.agg #[v]] W fun e w'=>e=.returned (.int .i64 0)∧Below W.heap.size W w':=fun W hb=>cLit s60 (H hb).1 (H hb).2 ⟨_,_,rfl,⟨#[v],rfl,⟨_,_,rfl,hvW hb,rfl⟩⟩,rfl⟩
 have k81:∀ W,Below w.heap.size w W→Calls Tryz.prog 81 #[v,.agg #[.int .i64 r.p,.int .i64 r.no,.int .i64 r.kd,.int .i64 r.dy,.int .i64 r.kn,.int .i64 r.op,.int .i64 r.on,.string ⟨r.tx.toArray⟩]] W fun e w'=>e=.returned (.tuple #[.bool false,.int .i64 0])∧Below W.heap.size W w':=fun W hb=>by
  refine (s81.2 W U _ (H hb).1 (H hb).2 ⟨_,_,rfl,hvW hb,_,_,rfl,⟨_,rfl,recR_f r⟩,rfl⟩).mono ?_
  rintro e w' ⟨v,U',bs,rfl,hb,_,_,_,_,hr⟩
  obtain ⟨vs,rfl,_,_,_,_,e1,_,⟨_,q1,_⟩,_,_,_,_,rfl,_,⟨_,q2,_⟩,rfl,_⟩:=hr
  rw [q1,q2] at e1
  exact ⟨by rw [arr_of e1],hb⟩
 have k83:(∀ vs w,(callFunc 83 vs).run Tryz.prog w=.ok (.enter 83 vs) w)∧∀ W,Below w.heap.size w W→Calls Tryz.prog 83 #[v] W fun e w'=>∃ u,e=.returned u∧Below W.heap.size W w'∧w'.ownsRow W.heap.size 25 8 u l.length (rowsV (l.map recR)):=by
  rcases h83 with ⟨rfl,rfl,h83⟩ | h83
  ·have s83:=sc_of hF (f:=83) (sh:=[.one]) (vs:=[.one (.lit (.slice none 0 0))]) (rs:=[(false,[.d])]) rfl rfl h83 rfl
   refine ⟨s83.1,fun W hb=>?_⟩
   refine (s83.2 W U _ (H hb).1 (H hb).2 ⟨_,_,rfl,hvW hb,rfl⟩).mono ?_
   rintro e w' ⟨u,U',bs,rfl,hb,_,_,_,_,hr⟩
   have hr':RvR w' U' (.one (.d (.lit (.slice none 0 0)))) u bs:=hr
   rw [hr'.2.1]
   exact ⟨_,rfl,hb,World.ownsRow_nil _ _ _ _⟩
  ·have s83:=sc_of hF (f:=83) (sh:=[.one]) (vs:=[.one x]) (rs:=[(false,[.own 8 25])]) rfl rfl h83 rfl
   refine ⟨s83.1,fun W hb=>?_⟩
   refine (s83.2 W U _ (H hb).1 (H hb).2 ⟨_,_,rfl,hvW hb,rfl⟩).mono ?_
   rintro e w' ⟨u,U',bs,rfl,hb,e1,e2,e3,e4,hr⟩
   have hr':RvR w' U' (.one (.own (l.map recR) 8 25)) u bs:=hr
   obtain ⟨b,cap,cur,rfl,rfl,e5,e6,e7,e8,e9⟩:=hr'
   have:=owns_of e5 e6 e7 e8 e9 (e4 b (by simp)).1 (litS8s l)
   rw [List.length_map] at this
   exact ⟨_,rfl,hb,by rw [List.length_map];exact this⟩
 have k121:∀ (W:World) (B:Nat) (u:Value),Below w.heap.size w W→w.heap.size+1+1 < B→B≤W.heap.size→W.ownsRow B 25 8 u (l.length+1) (rowsV ((l++[r]).map recR))→Calls Tryz.prog 121 #[u] W fun e w'=>∃ z U',e=.returned z∧Below W.heap.size W w'∧(∀ b,U b→U' b)∧(∀ b,U' b→b < w'.heap.size∧(U b∨B≤b))∧DR w' U' (.sl 8 (m.map recR)) z:=fun W B u hb hB hBW ho=>by
  have hd:DR W (fun b=>U b∨u.ownBlock=some b) (.sl 8 ((l++[r]).map recR)) u:=DR_ownS ho (by simp) (by omega) (litS8s _) fun k hk=>.inr hk
  have hU2:∀ b,(U b∨u.ownBlock=some b)→b < W.heap.size:=fun b h=>by
   rcases h with h | h
   ·exact (H hb).1 b h
   ·exact (own_lt ho b h).2
  refine (s121.2 W (fun b=>U b∨u.ownBlock=some b) _ hU2 ((H hb).2.mono (fun _ _=>rfl) fun _ h=>.inl h) ⟨_,_,rfl,hd,rfl⟩).mono ?_
  rintro e w' ⟨z,U',bs,rfl,hb',e1,e2,e3,e4,hr⟩
  refine ⟨z,U',rfl,hb',fun b h=>e1 b (.inl h),fun b h=>⟨(e2 b h).1,?_⟩,hr.2⟩
  rcases (e2 b h).2 with (h | h) | h
  ·exact .inl h
  ·exact .inr (own_lt ho b h).1
  ·exact .inr (Nat.le_trans hBW h)
 clear s60 s81
 have A0:∀ a b c,Below w.heap.size w (((w.alloc a).alloc b).alloc c):=fun a b c=>(((Below.refl _ w).alloc (Nat.le_refl _) a).alloc (by simp) b).alloc (by simp;omega) c
 have Av:Aside (DR w U x v):=hv
 clear hv hvW
 go_enter Tryz.func64,Tryz.ntmps64
 go_wp2_with (first
  | (go_at_call 60;refine (k60 _ (A0 _ _ _)).mono ?_;rintro e w1 ⟨rfl,b1⟩;have hsz1:w.heap.size+1+1 < w1.heap.size:=Nat.lt_of_lt_of_le (by simp) b1.size;have B1:Below w.heap.size w w1:=(A0 _ _ _).trans (b1.mono (A0 _ _ _).size);have r1:=(b1.block (w.heap.size+1) (by simp)).trans (three w _ _ _).2.1;have r2:=(b1.block (w.heap.size+1+1) (by simp)).trans (three w _ _ _).2.2;have r0:=(b1.block w.heap.size (by simp;omega)).trans (three w _ _ _).1;have q1_0:=Go.Joins.cell_of_block r1 0;have q1_1:=Go.Joins.cell_of_block r1 1;have q1_2:=Go.Joins.cell_of_block r1 2;have q1_3:=Go.Joins.cell_of_block r1 3;have q1_4:=Go.Joins.cell_of_block r1 4;have q1_5:=Go.Joins.cell_of_block r1 5;have q1_6:=Go.Joins.cell_of_block r1 6;have q1_7:=Go.Joins.cell_of_block r1 7;have q0:=Go.Joins.cell_of_block r0 0)
  | (go_at_call 81;refine (k81 _ B1).mono ?_;rintro e w2 ⟨rfl,b2⟩;have hsz2:w.heap.size+1+1 < w2.heap.size:=(by have:=b2.size;omega);have B2:Below w.heap.size w w2:=B1.trans (b2.mono B1.size);have u0:=(b2.block w.heap.size (by omega)).trans r0;have u1:=(b2.block (w.heap.size+1) (by omega)).trans r1;have u2:=(b2.block (w.heap.size+1+1) (by omega)).trans r2;clear r0 r1 r2))
 rename_i K0 hK0
 have hs121:=s121.1
 clear k60 k81 b1 B1 b2 hsz1 q0 q1_0 q1_1 q1_2 q1_3 q1_4 q1_5 q1_6 q1_7 s121 A0
 obtain ⟨i1,hi1,hz1,hsz1,hby1⟩:=inf25
 have hrow:rowsV (l.map recR)++encR r=rowsV ((l++[r]).map recR):=by
  unfold rowsV
  rw [List.map_append,List.flatMap_append]
  rfl
 have c0:=Go.Joins.cell_of_block u0 0
 have ca:∀ o,(w2.alloc o).cell? ⟨w.heap.size,0,none⟩=some v:=fun o=>Go.Joins.cell_of_block ((heap_alloc_old w2 o (show w.heap.size < w2.heap.size by omega)).trans u0) 0
 have c1_0:=Go.Joins.cell_of_block u1 0
 have c1_1:=Go.Joins.cell_of_block u1 1
 have c1_2:=Go.Joins.cell_of_block u1 2
 have c1_3:=Go.Joins.cell_of_block u1 3
 have c1_4:=Go.Joins.cell_of_block u1 4
 have c1_5:=Go.Joins.cell_of_block u1 5
 have c1_6:=Go.Joins.cell_of_block u1 6
 have c1_7:=Go.Joins.cell_of_block u1 7
 go_region_law (first
  | (refine step_call1 rfl 83 (.tmp 34) _ rfl v rfl k83.1 (k83.2 _ B2.drew) (fun e w5 h5=>?_);obtain ⟨u5,rfl,b5,o5⟩:=h5;refine ⟨u5,rfl,?_⟩;have B5:Below w.heap.size w w5:=B2.drew.trans (b5.mono B2.size);have hbase:w.heap.size+1+1 < w2.drew.heap.size:=hsz2;have z1:=(b5.block (w.heap.size+1) (show w.heap.size+1 < w2.heap.size by omega)).trans u1;have z2:=(b5.block (w.heap.size+1+1) hsz2).trans u2;have d1_0:=Go.Joins.cell_of_block z1 0;have d1_1:=Go.Joins.cell_of_block z1 1;have d1_2:=Go.Joins.cell_of_block z1 2;have d1_3:=Go.Joins.cell_of_block z1 3;have d1_4:=Go.Joins.cell_of_block z1 4;have d1_5:=Go.Joins.cell_of_block z1 5;have d1_6:=Go.Joins.cell_of_block z1 6;have d1_7:=Go.Joins.cell_of_block z1 7)
  | (refine step_call1 rfl 83 (.tmp 34) _ rfl v rfl k83.1 (k83.2 _ (B2.drew.alloc B2.size _)) (fun e w5 h5=>?_);obtain ⟨u5,rfl,b5,o5⟩:=h5;refine ⟨u5,rfl,?_⟩;have B5:Below w.heap.size w w5:=(B2.drew.alloc B2.size _).trans (b5.mono (B2.drew.alloc B2.size _).size);have hbase:w.heap.size+1+1 < (w2.alloc (.cells #[.int .i64 r.p,.int .i64 r.no,.int .i64 r.kd,.int .i64 r.dy,.int .i64 r.kn,.int .i64 r.op,.int .i64 r.on,.string ⟨r.tx.toArray⟩] 25)).drew.heap.size:=(by show _ < (w2.alloc _).heap.size;rw [World.size_alloc];omega);have z2:=(b5.block (w.heap.size+1+1) hbase).trans ((heap_alloc_old w2.drew _ (show _ < w2.heap.size from hsz2)).trans u2);have z3:=(b5.block w2.heap.size (show w2.heap.size < (w2.alloc _).heap.size by rw [World.size_alloc];exact Nat.lt_succ_self _)).trans (heap_alloc_new w2.drew _))
  | (refine step_append_lies _ rfl (.tmp 35) (.tmp 37) 44 rfl _ 25 i1 _ 8 72 Tryz.underlying44 hi1 hz1 hsz1 hby1 rfl (by decide) u5 l.length _ rfl o5 ⟨w2.heap.size,0,none⟩ 1 1 (encR r) rfl rfl (World.news_of_block z3) oneE (by decide) (Nat.le_trans (Nat.succ_le_succ hl) (by decide)) (by omega) (b5.size) _ rfl (fun g4 cap4 w9 own4 gro4 lie4 lt4=>?_);rw [hrow] at own4;have B9:Below w.heap.size w w9:=B5.grown gro4 B5.size (fun k hk=>Nat.le_trans (Nat.le_of_lt (Nat.lt_trans (show w.heap.size < w.heap.size+1+1 by omega) hbase)) (own_lt o5 k hk).1);have y2:=(gro4.block (w.heap.size+1+1) (Nat.lt_of_lt_of_le hbase b5.size) (fun hk=>absurd (own_lt o5 _ hk.symm).1 (Nat.not_le_of_lt hbase))).trans z2;have hbw:=Nat.le_trans b5.size gro4.size)
  | (refine step_append_lies _ rfl (.tmp 35) (.tmp 37) 44 rfl _ 25 i1 _ 8 72 Tryz.underlying44 hi1 hz1 hsz1 hby1 rfl (by decide) u5 l.length _ rfl (own_below o5 ((Below.refl _ w5).alloc (Nat.le_refl _) _)) ⟨w5.heap.size,0,none⟩ 1 1 (encR r) rfl rfl (World.news_of_block (heap_alloc_new w5 _)) oneE (by decide) (Nat.le_trans (Nat.succ_le_succ hl) (by decide)) (by omega) (Nat.le_trans b5.size (by rw [World.size_alloc];omega)) _ rfl (fun g4 cap4 w9 own4 gro4 lie4 lt4=>?_);rw [hrow] at own4;have B9:Below w.heap.size w w9:=(B5.alloc B5.size _).grown gro4 (B5.alloc B5.size _).size (fun k hk=>Nat.le_trans (Nat.le_of_lt (Nat.lt_trans (show w.heap.size < w.heap.size+1+1 by omega) hbase)) (own_lt o5 k hk).1);have y2:=(gro4.block (w.heap.size+1+1) (by rw [World.size_alloc];exact Nat.lt_succ_of_lt (Nat.lt_of_lt_of_le hbase b5.size)) (fun hk=>absurd (own_lt o5 _ hk.symm).1 (Nat.not_le_of_lt hbase))).trans ((heap_alloc_old w5 _ (Nat.lt_of_lt_of_le hbase b5.size)).trans z2);have hbw:=Nat.le_trans b5.size (Nat.le_trans (show w5.heap.size≤(w5.alloc _).heap.size by rw [World.size_alloc];omega) gro4.size))
  | (refine step_call1 rfl 121 (.tmp 38) _ rfl _ rfl hs121 (k121 _ _ _ B9 hbase hbw own4) (fun e w6 h6=>?_);obtain ⟨z,U',rfl,b6,f1,f2,f3⟩:=h6;have f4:=f3;simp only [DR] at f4;obtain ⟨az,cz,rfl,_⟩:=f4;refine ⟨_,rfl,?_⟩;have x2:=(b6.block (w.heap.size+1+1) (Nat.lt_of_lt_of_le hbase hbw)).trans y2;have x2c:=Go.Joins.cell_of_block x2 0;have x2f:=Go.Joins.unfrozen_of_block x2 0))
 all_goals
  refine hK0 _ _ ?_
  go_wp2
  exact ⟨rfl,_,results2 (p:=4) (u1:=5) (ty:=120) Tryz.results64 _ _ (w.heap.size+1+1) 120 _ (0,0) _ rfl (setC_same (i:=0) x2) Tryz.underlying120 rfl (by kernel_rfl),add_fin hU hbase (B9.trans (b6.mono B9.size)) f1 f2 (by rw [List.length_map] at f3;exact f3)⟩
end Go.VE
